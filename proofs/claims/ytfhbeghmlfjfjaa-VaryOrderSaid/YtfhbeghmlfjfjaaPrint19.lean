-- Written by a program of this session (wip/cprint.py), which calls the kit's print and adds contracts proved by hand.
import Derived.Test.YtfhbeghmlfjfjaaPrint0
import Derived.Test.YtfhbeghmlfjfjaaPrint6
import Derived.Test.YtfhbeghmlfjfjaaPrint9
import Derived.Test.YtfhbeghmlfjfjaaPrint14
namespace Go.Proofs.Ytfhbeghmlfjfjaa.Print
open Go.RowKit Go.Proofs.YtfhbeghmlfjfjaaW.PrintWords Go.Proofs.YtfhbeghmlfjfjaaW.PrintLast Go.Proofs.YtfhbeghmlfjfjaaW.PrintMore
attribute [local go_sem] max2_int min2_int max_two min_two max_three min_three max_four min_four   -- for this text's walks alone
set_option linter.unusedVariables false
set_option linter.unusedSimpArgs false

/-! ### creellaw01_VaryOrder: function 14 -/
mutual
def creellaw01_VaryOrder.j0 : Nat → Int → Bool → Int → Int → Int → Option (Bool)
  | 0, _, _, _, _, _ => none
  | k + 1, x0, x7, x8, x9, x10 => (vary_Fix.f k ([] : List Int) x9 x8).bind fun t421 => ((vary_Fix.f k ([] : List Int) x10 x8).bind fun t424 => ((vary_Unfix.f k t421 x8).bind fun bt427 => (if 0 ≤ (mn (t421.length : Int) (wrap64 (x8 - 1))) then (if (mn (t421.length : Int) (wrap64 (x8 - 1))) ≤ (t421.length : Int) then ((vary_Unfix.f k (t421.take ((mn (t421.length : Int) (wrap64 (x8 - 1))) : Int).toNat) x8).bind fun bt436 => (if x7 = true then (if (t421.length : Int) = x8 then (if (t424.length : Int) = x8 then (if ((decide (x9 < x10)) == (Op.bytesLess ((strOfNums t421).toList) ((strOfNums t424).toList))) = true then (if bt427.1 = x9 then (if (bt427.2.1.length : Int) = 0 then (if bt427.2.2 = 0 then (if bt436.2.2 = 5 then ((vary_Fix.f k ([] : List Int) x0 x8).bind fun t441 => (creellaw01_VaryOrder.j1 k ((strOfNums t441).toList == (strOfNums t421).toList))) else (creellaw01_VaryOrder.j1 k false)) else (creellaw01_VaryOrder.j1 k false)) else (creellaw01_VaryOrder.j1 k false)) else (creellaw01_VaryOrder.j1 k false)) else (creellaw01_VaryOrder.j1 k false)) else (creellaw01_VaryOrder.j1 k false)) else (creellaw01_VaryOrder.j1 k false)) else (creellaw01_VaryOrder.j1 k false))) else (none)) else (none))))
def creellaw01_VaryOrder.j1 : Nat → Bool → Option (Bool)
  | 0, _ => none
  | k + 1, x6 => some x6
end
def creellaw01_VaryOrder.f (k : Nat) (a0 : Int) (a1 : Int) (a2 : Int) : Option (Bool) := (creellaw01_shown.f k).bind fun t420 => (if (wrap64 ((wrap64 (Int.tmod a2 8)) + 1)) < 8 then (if 0 ≤ (wrap64 (8 * (wrap64 ((wrap64 (Int.tmod a2 8)) + 1)))) then (if (shl .u64 1 (wrap64 (8 * (wrap64 ((wrap64 (Int.tmod a2 8)) + 1))))) = 0 then (none) else (creellaw01_VaryOrder.j0 k a0 t420 (wrap64 ((wrap64 (Int.tmod a2 8)) + 1)) (Int.tmod a0 (shl .u64 1 (wrap64 (8 * (wrap64 ((wrap64 (Int.tmod a2 8)) + 1)))))) (Int.tmod a1 (shl .u64 1 (wrap64 (8 * (wrap64 ((wrap64 (Int.tmod a2 8)) + 1)))))))) else (none)) else (creellaw01_VaryOrder.j0 k a0 t420 (wrap64 ((wrap64 (Int.tmod a2 8)) + 1)) a0 a1))
theorem creellaw01_VaryOrder.mono_l : ∀ k, (∀ y0 y1 y2 y3 y4, LeO (creellaw01_VaryOrder.j0 k y0 y1 y2 y3 y4) (creellaw01_VaryOrder.j0 (k + 1) y0 y1 y2 y3 y4)) ∧ (∀ y0, LeO (creellaw01_VaryOrder.j1 k y0) (creellaw01_VaryOrder.j1 (k + 1) y0))
  | 0 => ⟨fun _ _ _ _ _ r h => by simp [creellaw01_VaryOrder.j0] at h, fun _ r h => by simp [creellaw01_VaryOrder.j1] at h⟩
  | k + 1 => by
    obtain ⟨ih0, ih1⟩ := creellaw01_VaryOrder.mono_l k
    refine ⟨?_, ?_⟩
    · intro y0 y1 y2 y3 y4
      unfold creellaw01_VaryOrder.j0
      repeat' first
      | (with_reducible exact ih0 _ _ _ _ _)
      | (with_reducible exact ih1 _)
      | (with_reducible exact creellaw01_shown.mono _)
      | (with_reducible exact vary_Fix.mono _ _ _ _)
      | (with_reducible exact vary_Unfix.mono _ _ _)
      | (with_reducible exact LeO.refl _)
      | (with_reducible exact LeO.none _)
      | (with_reducible refine LeO.ite ?_ ?_)
      | (with_reducible refine LeO.bind ?_ (fun _ => ?_))
      | exact ih0 _ _ _ _ _
      | exact ih1 _
      | exact creellaw01_shown.mono _
      | exact vary_Fix.mono _ _ _ _
      | exact vary_Unfix.mono _ _ _
      | exact LeO.none _
      | refine LeO.ite ?_ ?_
      | refine LeO.bind ?_ (fun _ => ?_)
    · intro y0
      unfold creellaw01_VaryOrder.j1
      repeat' first
      | (with_reducible exact ih0 _ _ _ _ _)
      | (with_reducible exact ih1 _)
      | (with_reducible exact creellaw01_shown.mono _)
      | (with_reducible exact vary_Fix.mono _ _ _ _)
      | (with_reducible exact vary_Unfix.mono _ _ _)
      | (with_reducible exact LeO.refl _)
      | (with_reducible exact LeO.none _)
      | (with_reducible refine LeO.ite ?_ ?_)
      | (with_reducible refine LeO.bind ?_ (fun _ => ?_))
      | exact ih0 _ _ _ _ _
      | exact ih1 _
      | exact creellaw01_shown.mono _
      | exact vary_Fix.mono _ _ _ _
      | exact vary_Unfix.mono _ _ _
      | exact LeO.none _
      | refine LeO.ite ?_ ?_
      | refine LeO.bind ?_ (fun _ => ?_)
theorem creellaw01_VaryOrder.mono : ∀ a0 a1 a2 k, LeO (creellaw01_VaryOrder.f k a0 a1 a2) (creellaw01_VaryOrder.f (k + 1) a0 a1 a2) := by
  intro a0 a1 a2 k
  obtain ⟨ih0, ih1⟩ := creellaw01_VaryOrder.mono_l k
  unfold creellaw01_VaryOrder.f
  repeat' first
      | (with_reducible exact ih0 _ _ _ _ _)
      | (with_reducible exact ih1 _)
      | (with_reducible exact creellaw01_shown.mono _)
      | (with_reducible exact vary_Fix.mono _ _ _ _)
      | (with_reducible exact vary_Unfix.mono _ _ _)
      | (with_reducible exact LeO.refl _)
      | (with_reducible exact LeO.none _)
      | (with_reducible refine LeO.ite ?_ ?_)
      | (with_reducible refine LeO.bind ?_ (fun _ => ?_))
      | exact ih0 _ _ _ _ _
      | exact ih1 _
      | exact creellaw01_shown.mono _
      | exact vary_Fix.mono _ _ _ _
      | exact vary_Unfix.mono _ _ _
      | exact LeO.none _
      | refine LeO.ite ?_ ?_
      | refine LeO.bind ?_ (fun _ => ?_)
def creellaw01_VaryOrder.T5 : Bool × List (List Nat × List Nat) := (true, [([], []), ([], []), ([1], [1]), ([2], [2]), ([0, 3], [0, 3]), ([], []), ([], []), ([6], [6]), ([7], [7]), ([5, 8], [5, 8]), ([4, 0, 1, 2, 3, 4], [4]), ([9, 10, 0, 1, 2, 3, 4, 5, 6, 7, 8, 9, 10], [9])])
def creellaw01_VaryOrder.B5 : List Nat := [0, 0, 2, 6, 15, 0, 0, 64, 192, 480, 31, 2047]
theorem creellaw01_VaryOrder.tab5 : rtab .any (opsOf Try.f14 5) = creellaw01_VaryOrder.T5 := by kernel_rfl
theorem creellaw01_VaryOrder.bits5 : waitsOk creellaw01_VaryOrder.T5.2 creellaw01_VaryOrder.B5 = true := by kernel_rfl
def creellaw01_VaryOrder.T9 : Bool × List (List Nat × List Nat) := (true, [([], []), ([0], [0]), ([1], [1]), ([2, 1], [1, 2]), ([1], [1]), ([3, 4, 1], [1, 3, 4]), ([1, 5], [1, 5]), ([6, 1], [6]), ([7], [7]), ([8, 7], [7, 8]), ([7], [7]), ([9, 10, 7], [7, 9, 10]), ([7, 11], [7, 11]), ([12, 7], [12]), ([13], [13]), ([13], [13]), ([14, 15, 13], [13, 14, 15]), ([13], [13]), ([17, 13], [13, 17]), ([13], [13]), ([19, 13], [13, 19]), ([18, 20, 13], [13, 18, 20]), ([16, 21, 13], [13, 16, 21]), ([13, 22], [13, 22]), ([23, 13], [23]), ([24], [24]), ([24], [24]), ([25, 26, 24], [24, 25, 26]), ([24, 27], [24, 27]), ([28, 24], [28]), ([29], [29]), ([30, 29], [29, 30]), ([31, 29], [29, 31]), ([29, 32], [29, 32]), ([33, 29], [33]), ([34], [34]), ([35, 34], [34, 35]), ([34, 36], [34, 36]), ([37, 34], [37]), ([38], [38]), ([39, 38], [38, 39]), ([38, 40], [38, 40]), ([41, 38], [41]), ([42], [42]), ([42], [42]), ([43, 44, 42, 42], [42, 43, 44]), ([45, 42], [42, 45]), ([42], [42]), ([47, 42], [42, 47]), ([46, 48, 42], [42, 46, 48]), ([42, 49], [42, 49]), ([50, 45, 0, 1, 2, 3, 4, 5, 6, 7, 8, 9, 10, 11, 12, 13, 14, 15, 16, 17, 18, 19, 20, 21, 22, 23, 24, 25, 26, 27, 28, 29, 30, 31, 32, 33, 34, 35, 36, 37, 38, 39, 40, 41, 42, 43, 44, 45, 46, 47, 48, 49, 50], [50])])
def creellaw01_VaryOrder.B9 : List Nat := [0, 1, 3, 7, 3, 31, 63, 127, 255, 511, 255, 2047, 4095, 8191, 16383, 16383, 65535, 16383, 147455, 16383, 540671, 1982463, 4194303, 8388607, 16777215, 33554431, 33554431, 134217727, 268435455, 536870911, 1073741823, 2147483647, 4294967295, 8589934591, 17179869183, 34359738367, 68719476735, 137438953471, 274877906943, 549755813887, 1099511627775, 2199023255551, 4398046511103, 8796093022207, 8796093022207, 35184372088831, 70368744177663, 8796093022207, 149533581377535, 562949953421311, 1125899906842623, 2251799813685247]
theorem creellaw01_VaryOrder.tab9 : rtab .any (opsOf Try.f14 9) = creellaw01_VaryOrder.T9 := by kernel_rfl
theorem creellaw01_VaryOrder.bits9 : waitsOk creellaw01_VaryOrder.T9.2 creellaw01_VaryOrder.B9 = true := by kernel_rfl
set_option maxHeartbeats 8000000 in
set_option maxRecDepth 100000 in
theorem creellaw01_VaryOrder.calls (k : Nat) (a0 : Int) (a1 : Int) (a2 : Int) (r : Bool) (w : World) (hr_ : r = true) (h : creellaw01_VaryOrder.f k a0 a1 a2 = some r) :
    Calls Try.prog 14 #[.int .u64 a0, .int .u64 a1, .int .u8 a2] w fun e w' => e = .returned (.bool r) ∧ Below w.heap.size w w' := by
  have HB := Aside0.mk (Below.refl w.heap.size w)
  have H : ((creellaw01_shown.f k).bind fun t420 => (if (wrap64 ((wrap64 (Int.tmod a2 8)) + 1)) < 8 then (if 0 ≤ (wrap64 (8 * (wrap64 ((wrap64 (Int.tmod a2 8)) + 1)))) then (if (shl .u64 1 (wrap64 (8 * (wrap64 ((wrap64 (Int.tmod a2 8)) + 1))))) = 0 then (none) else (creellaw01_VaryOrder.j0 k a0 t420 (wrap64 ((wrap64 (Int.tmod a2 8)) + 1)) (Int.tmod a0 (shl .u64 1 (wrap64 (8 * (wrap64 ((wrap64 (Int.tmod a2 8)) + 1)))))) (Int.tmod a1 (shl .u64 1 (wrap64 (8 * (wrap64 ((wrap64 (Int.tmod a2 8)) + 1)))))))) else (none)) else (creellaw01_VaryOrder.j0 k a0 t420 (wrap64 ((wrap64 (Int.tmod a2 8)) + 1)) a0 a1))) = some r := h
  clear h
  replace H := Option.bind_eq_some_iff.mp H
  obtain ⟨t420, A40, H⟩ := H
  replace H : (if (wrap64 ((wrap64 (Int.tmod a2 8)) + 1)) < 8 then (if 0 ≤ (wrap64 (8 * (wrap64 ((wrap64 (Int.tmod a2 8)) + 1)))) then (if (shl .u64 1 (wrap64 (8 * (wrap64 ((wrap64 (Int.tmod a2 8)) + 1))))) = 0 then (none) else (creellaw01_VaryOrder.j0 k a0 t420 (wrap64 ((wrap64 (Int.tmod a2 8)) + 1)) (Int.tmod a0 (shl .u64 1 (wrap64 (8 * (wrap64 ((wrap64 (Int.tmod a2 8)) + 1)))))) (Int.tmod a1 (shl .u64 1 (wrap64 (8 * (wrap64 ((wrap64 (Int.tmod a2 8)) + 1)))))))) else (none)) else (creellaw01_VaryOrder.j0 k a0 t420 (wrap64 ((wrap64 (Int.tmod a2 8)) + 1)) a0 a1)) = some r := H
  have A4 := Aside0.mk A40
  clear A40
  have HC5 := Aside0.mk H
  clear H
  go_enter Try.func14, Try.ntmps14
  go_upto_if 27 with (first | ((with_reducible refine gate_callee (f := 27) rfl ?_); refine goesL_ (some 19) rfl rfl Try.func27 (by kernel_rfl) rfl #[] rfl (by (try simp only [List.map_toArray, List.map_cons, List.map_nil]); first | done | rfl | (simp only [List.length_drop, List.length_take]; rfl)) ?_; (with_reducible refine (creellaw01_shown.calls k  t420 _ A4.out).mono ?_); rintro e w6 ⟨rfl, hb⟩; refine ⟨_, rfl, ?_⟩; have n0_ := Aside0.mk (below_step (by repeat (first | (with_reducible first | exact HB.out | apply below_alloc | apply pw_below_drewN | apply below_drew1) | exact HB.out)) hb); clear HB; have HB := n0_; clear n0_; (try clear hb); (try clear hb2); (try clear hk); (try clear hi)))
  (try simp only [Act.put, List.setIfInBounds_toArray, List.set_cons_zero, List.set_cons_succ])
  go_cut [9, 10] (fun v9 v10 wc => ∃ (kq : Nat) (x9_4 : Int) (x10_4 : Int), v9 = .int .u64 x9_4 ∧ v10 = .int .u64 x10_4 ∧ Aside0 (creellaw01_VaryOrder.j0 kq a0 t420 (wrap64 ((wrap64 (Int.tmod a2 8)) + 1)) x9_4 x10_4 = some r) ∧ Aside0 (kq ≤ k) ∧ Aside0 (Below w.heap.size w wc))
  case first =>
    have H := HC5.out
    clear HC5
    by_cases c7 : (wrap64 ((wrap64 (Int.tmod a2 8)) + 1)) < 8
    · rw [if_pos c7] at H
      have c7b0 : decide ((wrap64 ((wrap64 (Int.tmod a2 8)) + 1)) < 8) = true := decide_eq_true c7
      clear c7
      (first | rw [c7b0] | (simp only [i64_w, i32_w]; rw [c7b0]) | skip)
      obtain ⟨ji8, hji8⟩ : ∃ j_ : Int, (wrap64 (8 * (wrap64 ((wrap64 (Int.tmod a2 8)) + 1)))) = j_ := ⟨_, rfl⟩
      replace H : (if 0 ≤ (ji8) then (if (shl .u64 1 (ji8)) = 0 then (none) else (creellaw01_VaryOrder.j0 k a0 t420 (wrap64 ((wrap64 (Int.tmod a2 8)) + 1)) (Int.tmod a0 (shl .u64 1 (ji8))) (Int.tmod a1 (shl .u64 1 (ji8))))) else (none)) = some r := by first | (rw [hji8] at H; exact H) | (simp only [hji8] at H ⊢; exact H)
      have hji8w : (IntKind.i64.wrap (8 * (wrap64 ((wrap64 (Int.tmod a2 8)) + 1)))) = ji8 := (i64_w _).trans hji8
      by_cases c9 : 0 ≤ (ji8)
      · rw [if_pos c9] at H
        have c9b0 := eq_true c9
        have c9b1 : decide (0 ≤ (ji8)) = true := decide_eq_true c9
        clear c9
        obtain ⟨ji10, hji10⟩ : ∃ j_ : Int, (shl .u64 1 (ji8)) = j_ := ⟨_, rfl⟩
        replace H : (if (ji10) = 0 then (none) else (creellaw01_VaryOrder.j0 k a0 t420 (wrap64 ((wrap64 (Int.tmod a2 8)) + 1)) (Int.tmod a0 (ji10)) (Int.tmod a1 (ji10)))) = some r := by first | (rw [hji10] at H; exact H) | (simp only [hji10] at H ⊢; exact H)
        have hji10_ : (IntKind.u64.wrap (1 * 2 ^ min (ji8).toNat 64)) = ji10 := hji10
        have hji10z : (ji8) ≤ 64 → (IntKind.u64.wrap (1 * 2 ^ (ji8).toNat)) = ji10 := shl_small hji10
        have hji10u : (IntKind.u64.wrap (2 ^ min (ji8).toNat 64)) = ji10 := by have h_ := hji10_; rw [Int.one_mul] at h_; exact h_
        have hji10v : (ji8) ≤ 64 → (IntKind.u64.wrap (2 ^ (ji8).toNat)) = ji10 := fun hle_ => by have h_ := hji10z hle_; rw [Int.one_mul] at h_; exact h_
        by_cases c11 : (ji10) = 0
        · rw [if_pos c11] at H
          exact absurd H (by simp)
        · rw [if_neg c11] at H
          have c11b0 : ((ji10) == 0) = false := beq_eq_false_iff_ne.mpr c11
          have c11b1 : ((ji10) != 0) = true := bne_iff_ne.mpr c11
          have c12b0 := eq_true (of_decide_eq_true (by first | (with_reducible assumption) | assumption) : 0 ≤ (ji8))
          have H' := Aside0.mk H
          clear H
          try go_wp2
          have n0_ := Aside0.mk (below_drew1 HB.out)
          clear HB
          have HB := n0_
          clear n0_
          refine start_ (n := 12) (S := fun w' => True) (ds := []) #[false, false, false, false, false, false, false, false, false, false, false, false] (by kernel_rfl) rfl rfl trivial (fun hHeld => ?_); refine with_tabW creellaw01_VaryOrder.tab5 creellaw01_VaryOrder.bits5 (fun HT_ HW_ => ?_)
          generalize w6.drew = w14 at HB hHeld ⊢
          refine pure_ (i := 0) (N := some 28) (v := ?_) (a' := ?_) #[true, false, false, false, false, false, false, false, false, false, false, false] rfl rfl (any_of HT_.out (by kernel_rfl)) (fun _ _ _ h => h) (Or.inl ⟨by rfl, ?_⟩) ?_ ?_
          rotate_left
          · intro w'
            go_simp
            with_reducible rfl
          rotate_left
          · simp only [Act.put, List.setIfInBounds_toArray, List.set_cons_zero, List.set_cons_succ, i64_w, i32_w]
            rfl
          refine pure_ (i := 1) (N := some 29) (v := ?_) (a' := ?_) #[true, true, false, false, false, false, false, false, false, false, false, false] rfl rfl (any_of HT_.out (by kernel_rfl)) (fun _ _ _ h => h) (Or.inl ⟨by rfl, ?_⟩) ?_ ?_
          rotate_left
          · intro w'
            go_simp
            with_reducible rfl
          rotate_left
          · simp only [Act.put, List.setIfInBounds_toArray, List.set_cons_zero, List.set_cons_succ, i64_w, i32_w]
            rfl
          refine pure_ (i := 2) (N := some 30) (v := ?_) (a' := ?_) #[true, true, true, false, false, false, false, false, false, false, false, false] rfl rfl (any_of HT_.out (by kernel_rfl)) (fun _ _ _ h => h) (Or.inl ⟨by rfl, ?_⟩) ?_ ?_
          rotate_left
          · intro w'
            go_simp
            with_reducible rfl
          rotate_left
          · simp only [Act.put, List.setIfInBounds_toArray, List.set_cons_zero, List.set_cons_succ, i64_w, i32_w]
            rfl
          refine pure_ (i := 3) (N := some 31) (v := ?_) (a' := ?_) #[true, true, true, true, false, false, false, false, false, false, false, false] rfl rfl (any_of HT_.out (by kernel_rfl)) (fun _ _ _ h => h) (Or.inl ⟨by rfl, ?_⟩) ?_ ?_
          rotate_left
          · intro w'
            go_simp
            with_reducible rfl
          rotate_left
          · simp only [Act.put, List.setIfInBounds_toArray, List.set_cons_zero, List.set_cons_succ, i64_w, i32_w]
            rfl
          refine pure_ (i := 4) (N := some 32) (v := ?_) (a' := ?_) #[true, true, true, true, true, false, false, false, false, false, false, false] rfl rfl (any_of HT_.out (by kernel_rfl)) (fun _ _ _ h => h) (Or.inl ⟨by rfl, ?_⟩) ?_ ?_
          rotate_left
          · intro w'
            go_simp
            with_reducible rfl
          rotate_left
          · simp only [Act.put, List.setIfInBounds_toArray, List.set_cons_zero, List.set_cons_succ, i64_w, i32_w]
            rfl
          refine pure_ (i := 5) (N := some 33) (v := ?_) (a' := ?_) #[true, true, true, true, true, true, false, false, false, false, false, false] rfl rfl (any_of HT_.out (by kernel_rfl)) (fun _ _ _ h => h) (Or.inl ⟨by rfl, ?_⟩) ?_ ?_
          rotate_left
          · intro w'
            go_simp
            with_reducible rfl
          rotate_left
          · simp only [Act.put, List.setIfInBounds_toArray, List.set_cons_zero, List.set_cons_succ, i64_w, i32_w]
            rfl
          refine pure_ (i := 6) (N := some 34) (v := ?_) (a' := ?_) #[true, true, true, true, true, true, true, false, false, false, false, false] rfl rfl (any_of HT_.out (by kernel_rfl)) (fun _ _ _ h => h) (Or.inl ⟨by rfl, ?_⟩) ?_ ?_
          rotate_left
          · intro w'
            go_simp
            with_reducible rfl
          rotate_left
          · simp only [Act.put, List.setIfInBounds_toArray, List.set_cons_zero, List.set_cons_succ, i64_w, i32_w]
            rfl
          refine pure_ (i := 7) (N := some 35) (v := ?_) (a' := ?_) #[true, true, true, true, true, true, true, true, false, false, false, false] rfl rfl (any_of HT_.out (by kernel_rfl)) (fun _ _ _ h => h) (Or.inl ⟨by rfl, ?_⟩) ?_ ?_
          rotate_left
          · intro w'
            go_simp
            with_reducible rfl
          rotate_left
          · simp only [Act.put, List.setIfInBounds_toArray, List.set_cons_zero, List.set_cons_succ, i64_w, i32_w]
            rfl
          refine pure_ (i := 8) (N := some 36) (v := ?_) (a' := ?_) #[true, true, true, true, true, true, true, true, true, false, false, false] rfl rfl (any_of HT_.out (by kernel_rfl)) (fun _ _ _ h => h) (Or.inl ⟨by rfl, ?_⟩) ?_ ?_
          rotate_left
          · intro w'
            go_simp
            with_reducible rfl
          rotate_left
          · simp only [Act.put, List.setIfInBounds_toArray, List.set_cons_zero, List.set_cons_succ, i64_w, i32_w]
            rfl
          refine pure_ (i := 9) (N := some 37) (v := ?_) (a' := ?_) #[true, true, true, true, true, true, true, true, true, true, false, false] rfl rfl (any_of HT_.out (by kernel_rfl)) (fun _ _ _ h => h) (Or.inl ⟨by rfl, ?_⟩) ?_ ?_
          rotate_left
          · intro w'
            go_simp
            with_reducible rfl
          rotate_left
          · simp only [Act.put, List.setIfInBounds_toArray, List.set_cons_zero, List.set_cons_succ, i64_w, i32_w]
            rfl
          refine pure_ (i := 10) (N := some 9) (v := ?_) (a' := ?_) #[true, true, true, true, true, true, true, true, true, true, true, false] rfl rfl (any_of HT_.out (by kernel_rfl)) (fun _ _ _ h => h) (Or.inl ⟨by rfl, ?_⟩) ?_ ?_
          rotate_left
          · intro w'
            go_simp
            with_reducible rfl
          rotate_left
          · simp only [Act.put, List.setIfInBounds_toArray, List.set_cons_zero, List.set_cons_succ, i64_w, i32_w]
            rfl
          refine pure_ (i := 11) (N := some 10) (v := ?_) (a' := ?_) #[true, true, true, true, true, true, true, true, true, true, true, true] rfl rfl (any_of HT_.out (by kernel_rfl)) (fun _ _ _ h => h) (Or.inl ⟨by rfl, ?_⟩) ?_ ?_
          rotate_left
          · intro w'
            go_simp
            with_reducible rfl
          rotate_left
          · simp only [Act.put, List.setIfInBounds_toArray, List.set_cons_zero, List.set_cons_succ, i64_w, i32_w]
            rfl
          refine done_ (done_of HT_.out (by kernel_rfl)) ?_
          try go_wp2
          go_meet
          case rel => exact ⟨_, (Int.tmod a0 (ji10)), (Int.tmod a1 (ji10)), (by first | rfl | (simp; done) | (simp only [← hji10] <;> (first | rfl | simp)) | (simp [*]; done)), (by first | rfl | (simp; done) | (simp only [← hji10] <;> (first | rfl | simp)) | (simp [*]; done)), H', ⟨by first | omega | exact Nat.le_refl _⟩, ⟨by repeat (first | (with_reducible first | exact HB.out | apply below_alloc | apply pw_below_drewN | apply below_drew1) | exact HB.out)⟩⟩
      · rw [if_neg c9] at H
        exact absurd H (by simp)
    · rw [if_neg c7] at H
      have c7b0 : decide ((wrap64 ((wrap64 (Int.tmod a2 8)) + 1)) < 8) = false := decide_eq_false c7
      clear c7
      (first | rw [c7b0] | (simp only [i64_w, i32_w]; rw [c7b0]) | skip)
      have H' := Aside0.mk H
      clear H
      go_wp2
      go_meet
      case rel => exact ⟨_, (a0), (a1), (by first | rfl | (simp; done) | (simp [*]; done)), (by first | rfl | (simp; done) | (simp [*]; done)), H', ⟨by first | omega | exact Nat.le_refl _⟩, ⟨by repeat (first | (with_reducible first | exact HB.out | apply below_alloc | apply pw_below_drewN | apply below_drew1) | exact HB.out)⟩⟩
  case rest =>
    clear HC5
    try clear c1
    try clear c2
    try clear p2
    try clear p6
    try clear c7
    try clear c7b0
    try clear c9
    try clear c9b0
    try clear c9b1
    try clear c11
    try clear c11b0
    try clear c11b1
    try clear c12
    try clear c12b0
    try clear c13
    try clear c13b0
    try clear c14
    obtain ⟨kq, x9_4, x10_4, rfl, rfl, HA, HJ4, HB⟩ := hcut
    cases kq with
    | zero => exact absurd HA.out (by simp [creellaw01_VaryOrder.j0])
    | succ kj4 =>
      have H := HA.out
      clear HA
      simp only [creellaw01_VaryOrder.j0] at H
      replace H := Option.bind_eq_some_iff.mp H
      obtain ⟨t421, A150, H⟩ := H
      replace H : ((vary_Fix.f kj4 ([] : List Int) x10_4 (wrap64 ((wrap64 (Int.tmod a2 8)) + 1))).bind fun t424 => ((vary_Unfix.f kj4 t421 (wrap64 ((wrap64 (Int.tmod a2 8)) + 1))).bind fun bt427 => (if 0 ≤ (mn (t421.length : Int) (wrap64 ((wrap64 ((wrap64 (Int.tmod a2 8)) + 1)) - 1))) then (if (mn (t421.length : Int) (wrap64 ((wrap64 ((wrap64 (Int.tmod a2 8)) + 1)) - 1))) ≤ (t421.length : Int) then ((vary_Unfix.f kj4 (t421.take ((mn (t421.length : Int) (wrap64 ((wrap64 ((wrap64 (Int.tmod a2 8)) + 1)) - 1))) : Int).toNat) (wrap64 ((wrap64 (Int.tmod a2 8)) + 1))).bind fun bt436 => (if t420 = true then (if (t421.length : Int) = (wrap64 ((wrap64 (Int.tmod a2 8)) + 1)) then (if (t424.length : Int) = (wrap64 ((wrap64 (Int.tmod a2 8)) + 1)) then (if ((decide (x9_4 < x10_4)) == (Op.bytesLess ((strOfNums t421).toList) ((strOfNums t424).toList))) = true then (if bt427.1 = x9_4 then (if (bt427.2.1.length : Int) = 0 then (if bt427.2.2 = 0 then (if bt436.2.2 = 5 then ((vary_Fix.f kj4 ([] : List Int) a0 (wrap64 ((wrap64 (Int.tmod a2 8)) + 1))).bind fun t441 => (creellaw01_VaryOrder.j1 kj4 ((strOfNums t441).toList == (strOfNums t421).toList))) else (creellaw01_VaryOrder.j1 kj4 false)) else (creellaw01_VaryOrder.j1 kj4 false)) else (creellaw01_VaryOrder.j1 kj4 false)) else (creellaw01_VaryOrder.j1 kj4 false)) else (creellaw01_VaryOrder.j1 kj4 false)) else (creellaw01_VaryOrder.j1 kj4 false)) else (creellaw01_VaryOrder.j1 kj4 false)) else (creellaw01_VaryOrder.j1 kj4 false))) else (none)) else (none)))) = some r := H
      have A15 := Aside0.mk A150
      clear A150
      replace H := Option.bind_eq_some_iff.mp H
      obtain ⟨t424, A160, H⟩ := H
      replace H : ((vary_Unfix.f kj4 t421 (wrap64 ((wrap64 (Int.tmod a2 8)) + 1))).bind fun bt427 => (if 0 ≤ (mn (t421.length : Int) (wrap64 ((wrap64 ((wrap64 (Int.tmod a2 8)) + 1)) - 1))) then (if (mn (t421.length : Int) (wrap64 ((wrap64 ((wrap64 (Int.tmod a2 8)) + 1)) - 1))) ≤ (t421.length : Int) then ((vary_Unfix.f kj4 (t421.take ((mn (t421.length : Int) (wrap64 ((wrap64 ((wrap64 (Int.tmod a2 8)) + 1)) - 1))) : Int).toNat) (wrap64 ((wrap64 (Int.tmod a2 8)) + 1))).bind fun bt436 => (if t420 = true then (if (t421.length : Int) = (wrap64 ((wrap64 (Int.tmod a2 8)) + 1)) then (if (t424.length : Int) = (wrap64 ((wrap64 (Int.tmod a2 8)) + 1)) then (if ((decide (x9_4 < x10_4)) == (Op.bytesLess ((strOfNums t421).toList) ((strOfNums t424).toList))) = true then (if bt427.1 = x9_4 then (if (bt427.2.1.length : Int) = 0 then (if bt427.2.2 = 0 then (if bt436.2.2 = 5 then ((vary_Fix.f kj4 ([] : List Int) a0 (wrap64 ((wrap64 (Int.tmod a2 8)) + 1))).bind fun t441 => (creellaw01_VaryOrder.j1 kj4 ((strOfNums t441).toList == (strOfNums t421).toList))) else (creellaw01_VaryOrder.j1 kj4 false)) else (creellaw01_VaryOrder.j1 kj4 false)) else (creellaw01_VaryOrder.j1 kj4 false)) else (creellaw01_VaryOrder.j1 kj4 false)) else (creellaw01_VaryOrder.j1 kj4 false)) else (creellaw01_VaryOrder.j1 kj4 false)) else (creellaw01_VaryOrder.j1 kj4 false)) else (creellaw01_VaryOrder.j1 kj4 false))) else (none)) else (none))) = some r := H
      have A16 := Aside0.mk A160
      clear A160
      replace H := Option.bind_eq_some_iff.mp H
      obtain ⟨⟨t427, t428, t429⟩, A170, H⟩ := H
      replace H : (if 0 ≤ (mn (t421.length : Int) (wrap64 ((wrap64 ((wrap64 (Int.tmod a2 8)) + 1)) - 1))) then (if (mn (t421.length : Int) (wrap64 ((wrap64 ((wrap64 (Int.tmod a2 8)) + 1)) - 1))) ≤ (t421.length : Int) then ((vary_Unfix.f kj4 (t421.take ((mn (t421.length : Int) (wrap64 ((wrap64 ((wrap64 (Int.tmod a2 8)) + 1)) - 1))) : Int).toNat) (wrap64 ((wrap64 (Int.tmod a2 8)) + 1))).bind fun bt436 => (if t420 = true then (if (t421.length : Int) = (wrap64 ((wrap64 (Int.tmod a2 8)) + 1)) then (if (t424.length : Int) = (wrap64 ((wrap64 (Int.tmod a2 8)) + 1)) then (if ((decide (x9_4 < x10_4)) == (Op.bytesLess ((strOfNums t421).toList) ((strOfNums t424).toList))) = true then (if t427 = x9_4 then (if (t428.length : Int) = 0 then (if t429 = 0 then (if bt436.2.2 = 5 then ((vary_Fix.f kj4 ([] : List Int) a0 (wrap64 ((wrap64 (Int.tmod a2 8)) + 1))).bind fun t441 => (creellaw01_VaryOrder.j1 kj4 ((strOfNums t441).toList == (strOfNums t421).toList))) else (creellaw01_VaryOrder.j1 kj4 false)) else (creellaw01_VaryOrder.j1 kj4 false)) else (creellaw01_VaryOrder.j1 kj4 false)) else (creellaw01_VaryOrder.j1 kj4 false)) else (creellaw01_VaryOrder.j1 kj4 false)) else (creellaw01_VaryOrder.j1 kj4 false)) else (creellaw01_VaryOrder.j1 kj4 false)) else (creellaw01_VaryOrder.j1 kj4 false))) else (none)) else (none)) = some r := H
      have A17 := Aside0.mk A170
      clear A170
      obtain ⟨ji18, hji18⟩ : ∃ j_ : Int, (mn (t421.length : Int) (wrap64 ((wrap64 ((wrap64 (Int.tmod a2 8)) + 1)) - 1))) = j_ := ⟨_, rfl⟩
      replace H : (if 0 ≤ (ji18) then (if (ji18) ≤ (t421.length : Int) then ((vary_Unfix.f kj4 (t421.take ((ji18) : Int).toNat) (wrap64 ((wrap64 (Int.tmod a2 8)) + 1))).bind fun bt436 => (if t420 = true then (if (t421.length : Int) = (wrap64 ((wrap64 (Int.tmod a2 8)) + 1)) then (if (t424.length : Int) = (wrap64 ((wrap64 (Int.tmod a2 8)) + 1)) then (if ((decide (x9_4 < x10_4)) == (Op.bytesLess ((strOfNums t421).toList) ((strOfNums t424).toList))) = true then (if t427 = x9_4 then (if (t428.length : Int) = 0 then (if t429 = 0 then (if bt436.2.2 = 5 then ((vary_Fix.f kj4 ([] : List Int) a0 (wrap64 ((wrap64 (Int.tmod a2 8)) + 1))).bind fun t441 => (creellaw01_VaryOrder.j1 kj4 ((strOfNums t441).toList == (strOfNums t421).toList))) else (creellaw01_VaryOrder.j1 kj4 false)) else (creellaw01_VaryOrder.j1 kj4 false)) else (creellaw01_VaryOrder.j1 kj4 false)) else (creellaw01_VaryOrder.j1 kj4 false)) else (creellaw01_VaryOrder.j1 kj4 false)) else (creellaw01_VaryOrder.j1 kj4 false)) else (creellaw01_VaryOrder.j1 kj4 false)) else (creellaw01_VaryOrder.j1 kj4 false))) else (none)) else (none)) = some r := by first | (rw [hji18] at H; exact H) | (simp only [hji18] at H ⊢; exact H)
      (try rw [hji18] at A15)
      (try rw [hji18] at A16)
      (try rw [hji18] at A17)
      have hji18_ : (if (wrap64 ((wrap64 ((wrap64 (Int.tmod a2 8)) + 1)) - 1)) < (t421.length : Int) then (wrap64 ((wrap64 ((wrap64 (Int.tmod a2 8)) + 1)) - 1)) else (t421.length : Int)) = ji18 := hji18
      by_cases c19 : 0 ≤ (ji18)
      · rw [if_pos c19] at H
        have c19b0 := eq_true c19
        have c19b1 : decide (0 ≤ (ji18)) = true := decide_eq_true c19
        clear c19
        by_cases c20 : (ji18) ≤ (t421.length : Int)
        · rw [if_pos c20] at H
          have c20b0 := eq_true c20
          have c20b1 : decide ((ji18) ≤ (t421.length : Int)) = true := decide_eq_true c20
          clear c20
          obtain ⟨y432, hy432⟩ : ∃ y_ : List Int, y_ = (t421.take ((ji18) : Int).toNat) := ⟨_, rfl⟩
          replace H : ((vary_Unfix.f kj4 y432 (wrap64 ((wrap64 (Int.tmod a2 8)) + 1))).bind fun bt436 => (if t420 = true then (if (t421.length : Int) = (wrap64 ((wrap64 (Int.tmod a2 8)) + 1)) then (if (t424.length : Int) = (wrap64 ((wrap64 (Int.tmod a2 8)) + 1)) then (if ((decide (x9_4 < x10_4)) == (Op.bytesLess ((strOfNums t421).toList) ((strOfNums t424).toList))) = true then (if t427 = x9_4 then (if (t428.length : Int) = 0 then (if t429 = 0 then (if bt436.2.2 = 5 then ((vary_Fix.f kj4 ([] : List Int) a0 (wrap64 ((wrap64 (Int.tmod a2 8)) + 1))).bind fun t441 => (creellaw01_VaryOrder.j1 kj4 ((strOfNums t441).toList == (strOfNums t421).toList))) else (creellaw01_VaryOrder.j1 kj4 false)) else (creellaw01_VaryOrder.j1 kj4 false)) else (creellaw01_VaryOrder.j1 kj4 false)) else (creellaw01_VaryOrder.j1 kj4 false)) else (creellaw01_VaryOrder.j1 kj4 false)) else (creellaw01_VaryOrder.j1 kj4 false)) else (creellaw01_VaryOrder.j1 kj4 false)) else (creellaw01_VaryOrder.j1 kj4 false))) = some r := by first | (rw [hy432]; with_reducible exact H) | (have H2_ := (Option.bind_some _ _).symm.trans H; rw [hy432]; with_reducible exact H2_) | (have H2_ := (Option.bind_some _ _).symm.trans H; with_reducible exact H2_) | with_reducible exact H | (rw [hy432]; exact H) | exact H
          have Ny432 := Aside0.mk hy432
          clear hy432
          replace H := Option.bind_eq_some_iff.mp H
          obtain ⟨⟨t436, t437, t438⟩, A210, H⟩ := H
          replace H : (if t420 = true then (if (t421.length : Int) = (wrap64 ((wrap64 (Int.tmod a2 8)) + 1)) then (if (t424.length : Int) = (wrap64 ((wrap64 (Int.tmod a2 8)) + 1)) then (if ((decide (x9_4 < x10_4)) == (Op.bytesLess ((strOfNums t421).toList) ((strOfNums t424).toList))) = true then (if t427 = x9_4 then (if (t428.length : Int) = 0 then (if t429 = 0 then (if t438 = 5 then ((vary_Fix.f kj4 ([] : List Int) a0 (wrap64 ((wrap64 (Int.tmod a2 8)) + 1))).bind fun t441 => (creellaw01_VaryOrder.j1 kj4 ((strOfNums t441).toList == (strOfNums t421).toList))) else (creellaw01_VaryOrder.j1 kj4 false)) else (creellaw01_VaryOrder.j1 kj4 false)) else (creellaw01_VaryOrder.j1 kj4 false)) else (creellaw01_VaryOrder.j1 kj4 false)) else (creellaw01_VaryOrder.j1 kj4 false)) else (creellaw01_VaryOrder.j1 kj4 false)) else (creellaw01_VaryOrder.j1 kj4 false)) else (creellaw01_VaryOrder.j1 kj4 false)) = some r := H
          have A21 := Aside0.mk A210
          clear A210
          have HC22 := Aside0.mk H
          clear H
          go_upto_region 9 with (first | ((with_reducible refine gate_callee (f := 36) rfl ?_); refine goesL_ (some 40) rfl rfl Try.func36 (by kernel_rfl) rfl #[.slice none 0 0, .int .u64 x9_4, .int .i64 (wrap64 ((wrap64 (Int.tmod a2 8)) + 1))] rfl (by (try simp only [List.map_toArray, List.map_cons, List.map_nil]); first | done | rfl | (simp only [List.length_drop, List.length_take]; rfl)) ?_; (refine (vary_Fix.calls kj4 _ _ ([] : List Int) x9_4 (wrap64 ((wrap64 (Int.tmod a2 8)) + 1)) t421 _ ?side1 ?side2 A15.out).mono ?_); (case side1 => exact Kd.C_nil _ _); (case side2 => exact Nat.le_refl _); rintro e w23 ⟨v422, rfl, ho0, hb⟩; refine ⟨_, rfl, ?_⟩; have n0_ := Aside0.mk (Kd.R_lower ho0 (below_size (by repeat (first | (with_reducible first | exact HB.out | apply below_alloc | apply pw_below_drewN | apply below_drew1) | exact HB.out)))); have n1_ := Aside0.mk (below_step (by repeat (first | (with_reducible first | exact HB.out | apply below_alloc | apply pw_below_drewN | apply below_drew1) | exact HB.out)) hb); clear HB; have HO423 := n0_; have HB := n1_; clear n0_ n1_; (try clear hb); (try clear hb2); (try clear hk); (try clear hi); (try clear ho0)) | ((with_reducible refine gate_callee (f := 36) rfl ?_); refine goesL_ (some 43) rfl rfl Try.func36 (by kernel_rfl) rfl #[.slice none 0 0, .int .u64 x10_4, .int .i64 (wrap64 ((wrap64 (Int.tmod a2 8)) + 1))] rfl (by (try simp only [List.map_toArray, List.map_cons, List.map_nil]); first | done | rfl | (simp only [List.length_drop, List.length_take]; rfl)) ?_; (refine (vary_Fix.calls kj4 _ _ ([] : List Int) x10_4 (wrap64 ((wrap64 (Int.tmod a2 8)) + 1)) t424 _ ?side1 ?side2 A16.out).mono ?_); (case side1 => exact Kd.C_nil _ _); (case side2 => exact Nat.le_refl _); rintro e w24 ⟨v425, rfl, ho0, hb⟩; refine ⟨_, rfl, ?_⟩; have n0_ := Aside0.mk (Kd.R_elder' (by (with_reducible repeat (first | apply Kd.R_alloc | apply Kd.R_drewN | apply Kd.R_drew)); exact HO423.out) (Kd.R_base ho0) hb); have n1_ := Aside0.mk (Kd.R_lower (Kd.R_new' ho0 (Kd.R_lt (by (with_reducible repeat (first | apply Kd.R_alloc | apply Kd.R_drewN | apply Kd.R_drew)); exact HO423.out))) (below_size (by repeat (first | (with_reducible first | exact HB.out | apply below_alloc | apply pw_below_drewN | apply below_drew1) | exact HB.out)))); have n2_ := Aside0.mk (below_step (by repeat (first | (with_reducible first | exact HB.out | apply below_alloc | apply pw_below_drewN | apply below_drew1) | exact HB.out)) hb); clear HO423; clear HB; have HO423 := n0_; have HO426 := n1_; have HB := n2_; clear n0_ n1_ n2_; (try clear hb); (try clear hb2); (try clear hk); (try clear hi); (try clear ho0); obtain ⟨Ao25, co25, eo25⟩ := Kd.R_slice HO423.out; subst eo25) | ((with_reducible refine gate_callee (f := 34) rfl ?_); refine goesL_ (some 47) rfl rfl Try.func34 (by kernel_rfl) rfl #[.slice Ao25 t421.length co25, .int .i64 (wrap64 ((wrap64 (Int.tmod a2 8)) + 1))] rfl (by (try simp only [List.map_toArray, List.map_cons, List.map_nil]); first | done | rfl | (simp only [List.length_drop, List.length_take]; rfl)) ?_; (with_reducible refine (vary_Unfix.calls kj4 _ _ t421 (wrap64 ((wrap64 (Int.tmod a2 8)) + 1)) t427 t428 t429 _ ?side1 ?side2 A17.out).mono ?_); (case side1 => repeat (first | exact (Kd.R_reads' HO423.out).2.2 | (with_reducible refine Kd.C_alloc ?_ _) | (with_reducible refine Kd.C_drewN ?_ _) | (with_reducible refine Kd.C_drew ?_))); (case side2 => exact (Kd.R_reads' HO423.out).2.1); rintro e w26 ⟨v430, rfl, ho0, hb⟩; refine ⟨_, rfl, ?_⟩; have n0_ := Aside0.mk (Kd.R_elder' (by (with_reducible repeat (first | apply Kd.R_alloc | apply Kd.R_drewN | apply Kd.R_drew)); exact HO423.out) (Kd.R_base ho0) hb); have n1_ := Aside0.mk (Kd.R_elder' (by (with_reducible repeat (first | apply Kd.R_alloc | apply Kd.R_drewN | apply Kd.R_drew)); exact HO426.out) (Kd.R_base ho0) hb); have n2_ := Aside0.mk (Kd.R_lower (Kd.R_new' (Kd.R_new' ho0 (Kd.R_lt (by (with_reducible repeat (first | apply Kd.R_alloc | apply Kd.R_drewN | apply Kd.R_drew)); exact HO423.out))) (Kd.R_lt (by (with_reducible repeat (first | apply Kd.R_alloc | apply Kd.R_drewN | apply Kd.R_drew)); exact HO426.out))) (below_size (by repeat (first | (with_reducible first | exact HB.out | apply below_alloc | apply pw_below_drewN | apply below_drew1) | exact HB.out)))); have n3_ := Aside0.mk (below_step (by repeat (first | (with_reducible first | exact HB.out | apply below_alloc | apply pw_below_drewN | apply below_drew1) | exact HB.out)) hb); clear HO423; clear HO426; clear HB; have HO423 := n0_; have HO426 := n1_; have HO431 := n2_; have HB := n3_; clear n0_ n1_ n2_ n3_; (try clear hb); (try clear hb2); (try clear hk); (try clear hi); (try clear ho0); have q27 : ((ji18) : Int) ≤ ((t421.length : Int) : Int) := of_decide_eq_true (by first | (with_reducible assumption) | assumption); obtain ⟨i027, hi027, _, hsz27, _⟩ := info_parts info5; have hroom27 : t421.length ≤ co25 := (Kd.R_reads' HO423.out).2.1; have hC27 : Kd.C (Kd.int .u8) _ Ao25 t421.length t421 := (Kd.R_reads' HO423.out).2.2; have hcut27 := cut_to (P := Try.prog) 39 5 .i64 Try.underlying39 hi027 Ao25 t421.length co25 (ji18) (of_decide_eq_true (by first | (with_reducible assumption) | assumption)) q27 hroom27; have hr27 := Kd.C_take (m := ((ji18) : Int).toNat) hC27 (by omega); have hy27 : y432.length = ((ji18) : Int).toNat := (by rw [Ny432.out, List.length_take]; omega); rw [← Ny432.out] at hr27; rw [← hy27] at hcut27; have HR435 := Aside0.mk hr27; have HC435 := Aside0.mk (show y432.length ≤ co25 from by omega); clear hr27 hC27 hroom27 hi027 hsz27; have KY27 := Aside0.mk hy27; clear hy27; have KL27 := Aside0.mk (show ((ji18) : Int).toNat ≤ t421.length from by omega); replace q27 := eq_true q27) | ((with_reducible refine gate_callee (f := 34) rfl ?_); refine goesL_ (some 60) rfl rfl Try.func34 (by kernel_rfl) rfl #[.slice Ao25 y432.length co25, .int .i64 (wrap64 ((wrap64 (Int.tmod a2 8)) + 1))] rfl (by (try simp only [List.map_toArray, List.map_cons, List.map_nil]); first | done | rfl | (simp only [List.length_drop, List.length_take]; rfl)) ?_; (with_reducible refine (vary_Unfix.calls kj4 _ _ y432 (wrap64 ((wrap64 (Int.tmod a2 8)) + 1)) t436 t437 t438 _ ?side1 ?side2 A21.out).mono ?_); (case side1 => repeat (first | exact (by repeat (first | (with_reducible exact HR435.out) | (with_reducible refine Kd.C_alloc ?_ _) | (with_reducible refine Kd.C_drewN ?_ _) | (with_reducible refine Kd.C_drew ?_) | exact HR435.out)) | (with_reducible refine Kd.C_alloc ?_ _) | (with_reducible refine Kd.C_drewN ?_ _) | (with_reducible refine Kd.C_drew ?_))); (case side2 => exact HC435.out); rintro e w28 ⟨v439, rfl, ho0, hb⟩; refine ⟨_, rfl, ?_⟩; have n0_ := Aside0.mk (Kd.R_elder' (by (with_reducible repeat (first | apply Kd.R_alloc | apply Kd.R_drewN | apply Kd.R_drew)); exact HO423.out) (Kd.R_base ho0) hb); have n1_ := Aside0.mk (Kd.R_elder' (by (with_reducible repeat (first | apply Kd.R_alloc | apply Kd.R_drewN | apply Kd.R_drew)); exact HO426.out) (Kd.R_base ho0) hb); have n2_ := Aside0.mk (Kd.R_elder' (by (with_reducible repeat (first | apply Kd.R_alloc | apply Kd.R_drewN | apply Kd.R_drew)); exact HO431.out) (Kd.R_base ho0) hb); have n3_ := Aside0.mk (Kd.R_lower (Kd.R_new' (Kd.R_new' (Kd.R_new' ho0 (Kd.R_lt (by (with_reducible repeat (first | apply Kd.R_alloc | apply Kd.R_drewN | apply Kd.R_drew)); exact HO423.out))) (Kd.R_lt (by (with_reducible repeat (first | apply Kd.R_alloc | apply Kd.R_drewN | apply Kd.R_drew)); exact HO426.out))) (Kd.R_lt (by (with_reducible repeat (first | apply Kd.R_alloc | apply Kd.R_drewN | apply Kd.R_drew)); exact HO431.out))) (below_size (by repeat (first | (with_reducible first | exact HB.out | apply below_alloc | apply pw_below_drewN | apply below_drew1) | exact HB.out)))); have n4_ := Aside0.mk (Kd.C_below (by repeat (first | (with_reducible exact HR435.out) | (with_reducible refine Kd.C_alloc ?_ _) | (with_reducible refine Kd.C_drewN ?_ _) | (with_reducible refine Kd.C_drew ?_) | exact HR435.out)) hb); have n5_ := Aside0.mk (below_step (by repeat (first | (with_reducible first | exact HB.out | apply below_alloc | apply pw_below_drewN | apply below_drew1) | exact HB.out)) hb); clear HO423; clear HO426; clear HO431; clear HR435; clear HB; have HO423 := n0_; have HO426 := n1_; have HO431 := n2_; have HO440 := n3_; have HR435 := n4_; have HB := n5_; clear n0_ n1_ n2_ n3_ n4_ n5_; (try clear hb); (try clear hb2); (try clear hk); (try clear hi); (try clear ho0)))
          (try simp only [Act.put, List.setIfInBounds_toArray, List.set_cons_zero, List.set_cons_succ])
          go_cut [6] (fun v6 wc => ∃ (kq : Nat) (x6_21 : Bool), v6 = .bool x6_21 ∧ Aside0 (creellaw01_VaryOrder.j1 kq x6_21 = some r) ∧ Aside0 (kq ≤ kj4) ∧ Aside0 (Below w.heap.size w wc))
          case first =>
            have H := HC22.out
            clear HC22
            by_cases c29 : t420 = true
            · subst c29
              have H1 : (if (t421.length : Int) = (wrap64 ((wrap64 (Int.tmod a2 8)) + 1)) then (if (t424.length : Int) = (wrap64 ((wrap64 (Int.tmod a2 8)) + 1)) then (if ((decide (x9_4 < x10_4)) == (Op.bytesLess ((strOfNums t421).toList) ((strOfNums t424).toList))) = true then (if t427 = x9_4 then (if (t428.length : Int) = 0 then (if t429 = 0 then (if t438 = 5 then ((vary_Fix.f kj4 ([] : List Int) a0 (wrap64 ((wrap64 (Int.tmod a2 8)) + 1))).bind fun t441 => (creellaw01_VaryOrder.j1 kj4 ((strOfNums t441).toList == (strOfNums t421).toList))) else (creellaw01_VaryOrder.j1 kj4 false)) else (creellaw01_VaryOrder.j1 kj4 false)) else (creellaw01_VaryOrder.j1 kj4 false)) else (creellaw01_VaryOrder.j1 kj4 false)) else (creellaw01_VaryOrder.j1 kj4 false)) else (creellaw01_VaryOrder.j1 kj4 false)) else (creellaw01_VaryOrder.j1 kj4 false)) = some r := by rw [if_pos rfl] at H; exact H
              clear H
              have H := H1
              clear H1
              by_cases c30 : (t421.length : Int) = (wrap64 ((wrap64 (Int.tmod a2 8)) + 1))
              · rw [if_pos c30] at H
                have c30b0 : ((t421.length : Int) == (wrap64 ((wrap64 (Int.tmod a2 8)) + 1))) = true := beq_iff_eq.mpr c30
                have c30b1 : ((t421.length : Int) != (wrap64 ((wrap64 (Int.tmod a2 8)) + 1))) = false := bne_eq_false_iff_eq.mpr c30
                clear c30
                (first | rw [c30b0] | (simp only [i64_w, i32_w]; rw [c30b0]) | skip)
                by_cases c31 : (t424.length : Int) = (wrap64 ((wrap64 (Int.tmod a2 8)) + 1))
                · rw [if_pos c31] at H
                  have c31b0 : ((t424.length : Int) == (wrap64 ((wrap64 (Int.tmod a2 8)) + 1))) = true := beq_iff_eq.mpr c31
                  have c31b1 : ((t424.length : Int) != (wrap64 ((wrap64 (Int.tmod a2 8)) + 1))) = false := bne_eq_false_iff_eq.mpr c31
                  clear c31
                  by_cases c32 : ((decide (x9_4 < x10_4)) == (Op.bytesLess ((strOfNums t421).toList) ((strOfNums t424).toList))) = true
                  · rw [if_pos c32] at H
                    have c32b0 : ((decide (x9_4 < x10_4)) == (Op.bytesLess ((strOfNums t421).toList) ((strOfNums t424).toList))) = true := c32
                    (try (have c32b1 : decide ((decide (x9_4 < x10_4)) = (Op.bytesLess ((strOfNums t421).toList) ((strOfNums t424).toList))) = true := by simpa using c32))
                    (try (have c32b2 : ((decide (x9_4 < x10_4)) == (Op.bytesLess ((strOfNums t421).toList) ((strOfNums t424).toList))) = true := by simpa using c32))
                    clear c32
                    by_cases c33 : t427 = x9_4
                    · rw [if_pos c33] at H
                      have c33b0 : (t427 == x9_4) = true := beq_iff_eq.mpr c33
                      have c33b1 : (t427 != x9_4) = false := bne_eq_false_iff_eq.mpr c33
                      clear c33
                      by_cases c34 : (t428.length : Int) = 0
                      · rw [if_pos c34] at H
                        have c34b0 : ((t428.length : Int) == 0) = true := beq_iff_eq.mpr c34
                        have c34b1 : ((t428.length : Int) != 0) = false := bne_eq_false_iff_eq.mpr c34
                        clear c34
                        by_cases c35 : t429 = 0
                        · rw [if_pos c35] at H
                          have c35b0 : (t429 == 0) = true := beq_iff_eq.mpr c35
                          have c35b1 : (t429 != 0) = false := bne_eq_false_iff_eq.mpr c35
                          clear c35
                          by_cases c36 : t438 = 5
                          · rw [if_pos c36] at H
                            have c36b0 : (t438 == 5) = true := beq_iff_eq.mpr c36
                            have c36b1 : (t438 != 5) = false := bne_eq_false_iff_eq.mpr c36
                            clear c36
                            replace H := Option.bind_eq_some_iff.mp H
                            obtain ⟨t441, A370, H⟩ := H
                            replace H : (creellaw01_VaryOrder.j1 kj4 ((strOfNums t441).toList == (strOfNums t421).toList)) = some r := H
                            have A37 := Aside0.mk A370
                            clear A370
                            have H' := Aside0.mk H
                            clear H
                            try go_wp2
                            have n0_ := Aside0.mk (Kd.R_drew HO423.out)
                            have n1_ := Aside0.mk (Kd.R_drew HO426.out)
                            have n2_ := Aside0.mk (Kd.R_drew HO431.out)
                            have n3_ := Aside0.mk (Kd.R_drew HO440.out)
                            have n4_ := Aside0.mk (Kd.C_drew HR435.out)
                            have n5_ := Aside0.mk (below_drew1 HB.out)
                            clear HO423
                            clear HO426
                            clear HO431
                            clear HO440
                            clear HR435
                            clear HB
                            have HO423 := n0_
                            have HO426 := n1_
                            have HO431 := n2_
                            have HO440 := n3_
                            have HR435 := n4_
                            have HB := n5_
                            clear n0_ n1_ n2_ n3_ n4_ n5_
                            obtain ⟨Ao39, co39, eo39⟩ := Kd.R_slice HO426.out
                            (first | subst eo39 | (injection eo39 with f1_ f2_ f3_; have f4_ := f1_.symm; have f5_ := f3_.symm; clear f1_ f2_ f3_; subst f4_; subst f5_))
                            obtain ⟨Ao42, co42, eo42⟩ := Kd.R_slice HO431.out
                            (first | subst eo42 | (injection eo42 with f1_ f2_ f3_; have f4_ := f1_.symm; have f5_ := f3_.symm; clear f1_ f2_ f3_; subst f4_; subst f5_))
                            refine start_ (n := 52) (S := fun w' => True) (ds := []) #[false, false, false, false, false, false, false, false, false, false, false, false, false, false, false, false, false, false, false, false, false, false, false, false, false, false, false, false, false, false, false, false, false, false, false, false, false, false, false, false, false, false, false, false, false, false, false, false, false, false, false, false] (by kernel_rfl) rfl rfl trivial (fun hHeld => ?_); refine with_tabW creellaw01_VaryOrder.tab9 creellaw01_VaryOrder.bits9 (fun HT_ HW_ => ?_)
                            generalize w28.drew = w38 at HO423 HO426 HO431 HO440 HR435 HB hHeld ⊢
                            refine pure_ (i := 0) (N := some 64) (v := ?_) (a' := ?_) #[true, false, false, false, false, false, false, false, false, false, false, false, false, false, false, false, false, false, false, false, false, false, false, false, false, false, false, false, false, false, false, false, false, false, false, false, false, false, false, false, false, false, false, false, false, false, false, false, false, false, false, false] rfl rfl (any_of HT_.out (by kernel_rfl)) (fun _ _ _ h => h) (Or.inl ⟨by rfl, ?_⟩) ?_ ?_
                            rotate_left
                            · intro w'
                              go_simp
                              with_reducible rfl
                            rotate_left
                            · simp only [Act.put, List.setIfInBounds_toArray, List.set_cons_zero, List.set_cons_succ, i64_w, i32_w]
                              rfl
                            refine pure_ (i := 1) (N := some 65) (v := ?_) (a' := ?_) #[true, true, false, false, false, false, false, false, false, false, false, false, false, false, false, false, false, false, false, false, false, false, false, false, false, false, false, false, false, false, false, false, false, false, false, false, false, false, false, false, false, false, false, false, false, false, false, false, false, false, false, false] rfl rfl (any_of HT_.out (by kernel_rfl)) (fun _ _ _ h => h) (Or.inl ⟨by rfl, ?_⟩) ?_ ?_
                            rotate_left
                            · intro w'
                              go_simp
                              with_reducible rfl
                            rotate_left
                            · simp only [Act.put, List.setIfInBounds_toArray, List.set_cons_zero, List.set_cons_succ, i64_w, i32_w]
                              rfl
                            refine pure_ (i := 2) (N := some 66) (v := ?_) (a' := ?_) #[true, true, true, false, false, false, false, false, false, false, false, false, false, false, false, false, false, false, false, false, false, false, false, false, false, false, false, false, false, false, false, false, false, false, false, false, false, false, false, false, false, false, false, false, false, false, false, false, false, false, false, false] rfl rfl (any_of HT_.out (by kernel_rfl)) (fun _ _ _ h => h) (Or.inl ⟨by rfl, ?_⟩) ?_ ?_
                            rotate_left
                            · intro w'
                              go_simp
                              with_reducible rfl
                            rotate_left
                            · simp only [Act.put, List.setIfInBounds_toArray, List.set_cons_zero, List.set_cons_succ, i64_w, i32_w]
                              rfl
                            refine pure_ (i := 3) (N := some 67) (v := ?_) (a' := ?_) #[true, true, true, true, false, false, false, false, false, false, false, false, false, false, false, false, false, false, false, false, false, false, false, false, false, false, false, false, false, false, false, false, false, false, false, false, false, false, false, false, false, false, false, false, false, false, false, false, false, false, false, false] rfl rfl (any_of HT_.out (by kernel_rfl)) (fun _ _ _ h => h) (Or.inl ⟨by rfl, ?_⟩) ?_ ?_
                            rotate_left
                            · intro w'
                              go_simp
                              with_reducible rfl
                            rotate_left
                            · simp only [Act.put, List.setIfInBounds_toArray, List.set_cons_zero, List.set_cons_succ, i64_w, i32_w]
                              rfl
                            refine pure_ (i := 4) (N := some 68) (v := ?_) (a' := ?_) #[true, true, true, true, true, false, false, false, false, false, false, false, false, false, false, false, false, false, false, false, false, false, false, false, false, false, false, false, false, false, false, false, false, false, false, false, false, false, false, false, false, false, false, false, false, false, false, false, false, false, false, false] rfl rfl (any_of HT_.out (by kernel_rfl)) (fun _ _ _ h => h) (Or.inl ⟨by rfl, ?_⟩) ?_ ?_
                            rotate_left
                            · intro w'
                              go_simp
                              with_reducible rfl
                            rotate_left
                            · simp only [Act.put, List.setIfInBounds_toArray, List.set_cons_zero, List.set_cons_succ, i64_w, i32_w]
                              rfl
                            refine pure_ (i := 5) (N := some 69) (v := ?_) (a' := ?_) #[true, true, true, true, true, true, false, false, false, false, false, false, false, false, false, false, false, false, false, false, false, false, false, false, false, false, false, false, false, false, false, false, false, false, false, false, false, false, false, false, false, false, false, false, false, false, false, false, false, false, false, false] rfl rfl (any_of HT_.out (by kernel_rfl)) (fun _ _ _ h => h) (Or.inl ⟨by rfl, ?_⟩) ?_ ?_
                            rotate_left
                            · intro w'
                              go_simp
                              with_reducible rfl
                            rotate_left
                            · simp only [Act.put, List.setIfInBounds_toArray, List.set_cons_zero, List.set_cons_succ, i64_w, i32_w]
                              rfl
                            refine pure_ (i := 6) (N := some 70) (v := ?_) (a' := ?_) #[true, true, true, true, true, true, true, false, false, false, false, false, false, false, false, false, false, false, false, false, false, false, false, false, false, false, false, false, false, false, false, false, false, false, false, false, false, false, false, false, false, false, false, false, false, false, false, false, false, false, false, false] rfl rfl (any_of HT_.out (by kernel_rfl)) (fun _ _ _ h => h) (Or.inl ⟨by rfl, ?_⟩) ?_ ?_
                            rotate_left
                            · intro w'
                              go_simp
                              with_reducible rfl
                            rotate_left
                            · simp only [Act.put, List.setIfInBounds_toArray, List.set_cons_zero, List.set_cons_succ, i64_w, i32_w]
                              rfl
                            refine pure_ (i := 7) (N := some 71) (v := ?_) (a' := ?_) #[true, true, true, true, true, true, true, true, false, false, false, false, false, false, false, false, false, false, false, false, false, false, false, false, false, false, false, false, false, false, false, false, false, false, false, false, false, false, false, false, false, false, false, false, false, false, false, false, false, false, false, false] rfl rfl (any_of HT_.out (by kernel_rfl)) (fun _ _ _ h => h) (Or.inl ⟨by rfl, ?_⟩) ?_ ?_
                            rotate_left
                            · intro w'
                              go_simp
                              with_reducible rfl
                            rotate_left
                            · simp only [Act.put, List.setIfInBounds_toArray, List.set_cons_zero, List.set_cons_succ, i64_w, i32_w]
                              rfl
                            refine pure_ (i := 8) (N := some 72) (v := ?_) (a' := ?_) #[true, true, true, true, true, true, true, true, true, false, false, false, false, false, false, false, false, false, false, false, false, false, false, false, false, false, false, false, false, false, false, false, false, false, false, false, false, false, false, false, false, false, false, false, false, false, false, false, false, false, false, false] rfl rfl (any_of HT_.out (by kernel_rfl)) (fun _ _ _ h => h) (Or.inl ⟨by rfl, ?_⟩) ?_ ?_
                            rotate_left
                            · intro w'
                              go_simp
                              with_reducible rfl
                            rotate_left
                            · simp only [Act.put, List.setIfInBounds_toArray, List.set_cons_zero, List.set_cons_succ, i64_w, i32_w]
                              rfl
                            refine pure_ (i := 9) (N := some 73) (v := ?_) (a' := ?_) #[true, true, true, true, true, true, true, true, true, true, false, false, false, false, false, false, false, false, false, false, false, false, false, false, false, false, false, false, false, false, false, false, false, false, false, false, false, false, false, false, false, false, false, false, false, false, false, false, false, false, false, false] rfl rfl (any_of HT_.out (by kernel_rfl)) (fun _ _ _ h => h) (Or.inl ⟨by rfl, ?_⟩) ?_ ?_
                            rotate_left
                            · intro w'
                              go_simp
                              with_reducible rfl
                            rotate_left
                            · simp only [Act.put, List.setIfInBounds_toArray, List.set_cons_zero, List.set_cons_succ, i64_w, i32_w]
                              rfl
                            refine pure_ (i := 10) (N := some 74) (v := ?_) (a' := ?_) #[true, true, true, true, true, true, true, true, true, true, true, false, false, false, false, false, false, false, false, false, false, false, false, false, false, false, false, false, false, false, false, false, false, false, false, false, false, false, false, false, false, false, false, false, false, false, false, false, false, false, false, false] rfl rfl (any_of HT_.out (by kernel_rfl)) (fun _ _ _ h => h) (Or.inl ⟨by rfl, ?_⟩) ?_ ?_
                            rotate_left
                            · intro w'
                              go_simp
                              with_reducible rfl
                            rotate_left
                            · simp only [Act.put, List.setIfInBounds_toArray, List.set_cons_zero, List.set_cons_succ, i64_w, i32_w]
                              rfl
                            refine pure_ (i := 11) (N := some 75) (v := ?_) (a' := ?_) #[true, true, true, true, true, true, true, true, true, true, true, true, false, false, false, false, false, false, false, false, false, false, false, false, false, false, false, false, false, false, false, false, false, false, false, false, false, false, false, false, false, false, false, false, false, false, false, false, false, false, false, false] rfl rfl (any_of HT_.out (by kernel_rfl)) (fun _ _ _ h => h) (Or.inl ⟨by rfl, ?_⟩) ?_ ?_
                            rotate_left
                            · intro w'
                              go_simp
                              with_reducible rfl
                            rotate_left
                            · simp only [Act.put, List.setIfInBounds_toArray, List.set_cons_zero, List.set_cons_succ, i64_w, i32_w]
                              rfl
                            refine pure_ (i := 12) (N := some 76) (v := ?_) (a' := ?_) #[true, true, true, true, true, true, true, true, true, true, true, true, true, false, false, false, false, false, false, false, false, false, false, false, false, false, false, false, false, false, false, false, false, false, false, false, false, false, false, false, false, false, false, false, false, false, false, false, false, false, false, false] rfl rfl (any_of HT_.out (by kernel_rfl)) (fun _ _ _ h => h) (Or.inl ⟨by rfl, ?_⟩) ?_ ?_
                            rotate_left
                            · intro w'
                              go_simp
                              with_reducible rfl
                            rotate_left
                            · simp only [Act.put, List.setIfInBounds_toArray, List.set_cons_zero, List.set_cons_succ, i64_w, i32_w]
                              rfl
                            refine pure_ (i := 13) (N := some 77) (v := ?_) (a' := ?_) #[true, true, true, true, true, true, true, true, true, true, true, true, true, true, false, false, false, false, false, false, false, false, false, false, false, false, false, false, false, false, false, false, false, false, false, false, false, false, false, false, false, false, false, false, false, false, false, false, false, false, false, false] rfl rfl (any_of HT_.out (by kernel_rfl)) (fun _ _ _ h => h) (Or.inl ⟨by rfl, ?_⟩) ?_ ?_
                            rotate_left
                            · intro w'
                              go_simp
                              with_reducible rfl
                            rotate_left
                            · simp only [Act.put, List.setIfInBounds_toArray, List.set_cons_zero, List.set_cons_succ, i64_w, i32_w]
                              rfl
                            refine pure_ (i := 14) (N := some 78) (v := ?_) (a' := ?_) #[true, true, true, true, true, true, true, true, true, true, true, true, true, true, true, false, false, false, false, false, false, false, false, false, false, false, false, false, false, false, false, false, false, false, false, false, false, false, false, false, false, false, false, false, false, false, false, false, false, false, false, false] rfl rfl (any_of HT_.out (by kernel_rfl)) (fun _ _ _ h => h) (Or.inl ⟨by rfl, ?_⟩) ?_ ?_
                            rotate_left
                            · intro w'
                              go_simp
                              with_reducible rfl
                            rotate_left
                            · simp only [Act.put, List.setIfInBounds_toArray, List.set_cons_zero, List.set_cons_succ, i64_w, i32_w]
                              rfl
                            refine pure_ (i := 15) (N := some 79) (v := ?_) (a' := ?_) #[true, true, true, true, true, true, true, true, true, true, true, true, true, true, true, true, false, false, false, false, false, false, false, false, false, false, false, false, false, false, false, false, false, false, false, false, false, false, false, false, false, false, false, false, false, false, false, false, false, false, false, false] rfl rfl (any_of HT_.out (by kernel_rfl)) (fun _ _ _ h => h) (Or.inl ⟨by rfl, ?_⟩) ?_ ?_
                            rotate_left
                            · intro w'
                              go_simp
                              with_reducible rfl
                            rotate_left
                            · simp only [Act.put, List.setIfInBounds_toArray, List.set_cons_zero, List.set_cons_succ, i64_w, i32_w]
                              rfl
                            refine pure_ (i := 16) (N := some 80) (v := ?_) (a' := ?_) #[true, true, true, true, true, true, true, true, true, true, true, true, true, true, true, true, true, false, false, false, false, false, false, false, false, false, false, false, false, false, false, false, false, false, false, false, false, false, false, false, false, false, false, false, false, false, false, false, false, false, false, false] rfl rfl (any_of HT_.out (by kernel_rfl)) (fun _ _ _ h => h) (Or.inl ⟨by rfl, ?_⟩) ?_ ?_
                            rotate_left
                            · intro w'
                              go_simp
                              with_reducible rfl
                            rotate_left
                            · simp only [Act.put, List.setIfInBounds_toArray, List.set_cons_zero, List.set_cons_succ, i64_w, i32_w]
                              rfl
                            refine pure_ (i := 17) (N := some 81) (v := ?_) (a' := ?_) #[true, true, true, true, true, true, true, true, true, true, true, true, true, true, true, true, true, true, false, false, false, false, false, false, false, false, false, false, false, false, false, false, false, false, false, false, false, false, false, false, false, false, false, false, false, false, false, false, false, false, false, false] rfl rfl (any_of HT_.out (by kernel_rfl)) (fun _ _ _ h => h) (Or.inl ⟨by rfl, ?_⟩) ?_ ?_
                            rotate_left
                            · intro w'
                              go_simp
                              with_reducible rfl
                            rotate_left
                            · simp only [Act.put, List.setIfInBounds_toArray, List.set_cons_zero, List.set_cons_succ, i64_w, i32_w]
                              rfl
                            refine pure_ (i := 19) (N := some 83) (v := ?_) (a' := ?_) #[true, true, true, true, true, true, true, true, true, true, true, true, true, true, true, true, true, true, false, true, false, false, false, false, false, false, false, false, false, false, false, false, false, false, false, false, false, false, false, false, false, false, false, false, false, false, false, false, false, false, false, false] rfl rfl (any_of HT_.out (by kernel_rfl)) (fun _ _ _ h => h) (Or.inl ⟨by rfl, ?_⟩) ?_ ?_
                            rotate_left
                            · intro w'
                              go_simp
                              with_reducible rfl
                            rotate_left
                            · simp only [Act.put, List.setIfInBounds_toArray, List.set_cons_zero, List.set_cons_succ, i64_w, i32_w]
                              rfl
                            refine join_ (σ := Value) 3 #[true, true, true, true, true, true, true, true, true, true, true, true, true, true, true, true, true, true, true, true, true, true, true, true, true, true, true, true, true, true, true, true, true, true, true, true, true, true, true, true, true, true, true, true, true, true, true, true, true, false, false, false] (fun s_ => [(82, .string (strOfNums t421)), (84, .string (strOfNums t424)), (109, s_), (110, .string (strOfNums t441)), (112, .string (strOfNums t421)), (85, .bool (Op.bytesLess ((strOfNums t421).toList) ((strOfNums t424).toList))), (86, .bool true), (87, .bool true), (88, .bool true), (89, .int .u64 t427), (90, .int .u64 x9_4), (91, .bool true), (92, .bool true), (93, .bool true), (94, .slice Ao42 t428.length co42), (95, .int .i64 (t428.length : Int)), (96, .bool true), (97, .bool true), (98, .bool true), (99, .int .i64 t429), (100, .bool true), (101, .bool true), (102, .bool true), (103, .int .i64 t438), (104, .bool true), (105, .bool true), (106, .bool true), (107, .int .u64 a0), (108, .int .i64 (wrap64 ((wrap64 (Int.tmod a2 8)) + 1))), (111, .slice Ao25 t421.length co25)]) (fun s_ w' => (Kd.R (Kd.int .u8) 5 w' w.heap.size (fun k_ => some k_ ≠ (.slice Ao39 t424.length co39 : Value).ownBlock ∧ some k_ ≠ (.slice Ao42 t428.length co42 : Value).ownBlock ∧ some k_ ≠ (v439 : Value).ownBlock ∧ some k_ ≠ (s_ : Value).ownBlock) (.slice Ao25 t421.length co25) t421) ∧ (Kd.R (Kd.int .u8) 5 w' w.heap.size (fun k_ => some k_ ≠ (.slice Ao25 t421.length co25 : Value).ownBlock ∧ some k_ ≠ (.slice Ao42 t428.length co42 : Value).ownBlock ∧ some k_ ≠ (v439 : Value).ownBlock ∧ some k_ ≠ (s_ : Value).ownBlock) (.slice Ao39 t424.length co39) t424) ∧ (Kd.R (Kd.int .u8) 5 w' w.heap.size (fun k_ => some k_ ≠ (.slice Ao25 t421.length co25 : Value).ownBlock ∧ some k_ ≠ (.slice Ao39 t424.length co39 : Value).ownBlock ∧ some k_ ≠ (v439 : Value).ownBlock ∧ some k_ ≠ (s_ : Value).ownBlock) (.slice Ao42 t428.length co42) t428) ∧ (Kd.R (Kd.int .u8) 5 w' w.heap.size (fun k_ => some k_ ≠ (.slice Ao25 t421.length co25 : Value).ownBlock ∧ some k_ ≠ (.slice Ao39 t424.length co39 : Value).ownBlock ∧ some k_ ≠ (.slice Ao42 t428.length co42 : Value).ownBlock ∧ some k_ ≠ (s_ : Value).ownBlock) v439 t437) ∧ (Kd.R (Kd.int .u8) 5 w' w.heap.size (fun k_ => some k_ ≠ (.slice Ao25 t421.length co25 : Value).ownBlock ∧ some k_ ≠ (.slice Ao39 t424.length co39 : Value).ownBlock ∧ some k_ ≠ (.slice Ao42 t428.length co42 : Value).ownBlock ∧ some k_ ≠ (v439 : Value).ownBlock) s_ t441) ∧ (Below w.heap.size w w')) ?_ ?_
                            rotate_left
                            · intro hJ18_20_45_46_48
                              refine join_ (σ := Value) 4 #[true, true, true, true, true, true, true, true, true, true, true, true, true, true, true, true, true, true, true, true, true, true, true, true, true, true, true, true, true, true, true, true, true, true, true, true, true, true, true, true, true, true, true, true, true, true, true, true, false, false, false, false] (fun s_ => [(82, .string (strOfNums t421)), (84, .string (strOfNums t424)), (109, s_), (110, .string (strOfNums t441)), (85, .bool (Op.bytesLess ((strOfNums t421).toList) ((strOfNums t424).toList))), (86, .bool true), (87, .bool true), (88, .bool true), (89, .int .u64 t427), (90, .int .u64 x9_4), (91, .bool true), (92, .bool true), (93, .bool true), (94, .slice Ao42 t428.length co42), (95, .int .i64 (t428.length : Int)), (96, .bool true), (97, .bool true), (98, .bool true), (99, .int .i64 t429), (100, .bool true), (101, .bool true), (102, .bool true), (103, .int .i64 t438), (104, .bool true), (105, .bool true), (106, .bool true), (107, .int .u64 a0), (108, .int .i64 (wrap64 ((wrap64 (Int.tmod a2 8)) + 1))), (111, .slice Ao25 t421.length co25)]) (fun s_ w' => (Kd.R (Kd.int .u8) 5 w' w.heap.size (fun k_ => some k_ ≠ (.slice Ao39 t424.length co39 : Value).ownBlock ∧ some k_ ≠ (.slice Ao42 t428.length co42 : Value).ownBlock ∧ some k_ ≠ (v439 : Value).ownBlock ∧ some k_ ≠ (s_ : Value).ownBlock) (.slice Ao25 t421.length co25) t421) ∧ (Kd.R (Kd.int .u8) 5 w' w.heap.size (fun k_ => some k_ ≠ (.slice Ao25 t421.length co25 : Value).ownBlock ∧ some k_ ≠ (.slice Ao42 t428.length co42 : Value).ownBlock ∧ some k_ ≠ (v439 : Value).ownBlock ∧ some k_ ≠ (s_ : Value).ownBlock) (.slice Ao39 t424.length co39) t424) ∧ (Kd.R (Kd.int .u8) 5 w' w.heap.size (fun k_ => some k_ ≠ (.slice Ao25 t421.length co25 : Value).ownBlock ∧ some k_ ≠ (.slice Ao39 t424.length co39 : Value).ownBlock ∧ some k_ ≠ (v439 : Value).ownBlock ∧ some k_ ≠ (s_ : Value).ownBlock) (.slice Ao42 t428.length co42) t428) ∧ (Kd.R (Kd.int .u8) 5 w' w.heap.size (fun k_ => some k_ ≠ (.slice Ao25 t421.length co25 : Value).ownBlock ∧ some k_ ≠ (.slice Ao39 t424.length co39 : Value).ownBlock ∧ some k_ ≠ (.slice Ao42 t428.length co42 : Value).ownBlock ∧ some k_ ≠ (s_ : Value).ownBlock) v439 t437) ∧ (Kd.R (Kd.int .u8) 5 w' w.heap.size (fun k_ => some k_ ≠ (.slice Ao25 t421.length co25 : Value).ownBlock ∧ some k_ ≠ (.slice Ao39 t424.length co39 : Value).ownBlock ∧ some k_ ≠ (.slice Ao42 t428.length co42 : Value).ownBlock ∧ some k_ ≠ (v439 : Value).ownBlock) s_ t441) ∧ (Below w.heap.size w w')) ?_ ?_
                              rotate_left
                              · intro hJ18_20_45_46
                                refine join_ (σ := Value) 4 #[true, true, true, true, true, true, true, true, true, true, true, true, true, true, true, true, true, true, true, true, true, true, true, true, true, true, true, true, true, true, true, true, true, true, true, true, true, true, true, true, true, true, true, true, true, true, false, true, true, false, false, false] (fun s_ => [(82, .string (strOfNums t421)), (84, .string (strOfNums t424)), (109, s_), (112, .string (strOfNums t421)), (85, .bool (Op.bytesLess ((strOfNums t421).toList) ((strOfNums t424).toList))), (86, .bool true), (87, .bool true), (88, .bool true), (89, .int .u64 t427), (90, .int .u64 x9_4), (91, .bool true), (92, .bool true), (93, .bool true), (94, .slice Ao42 t428.length co42), (95, .int .i64 (t428.length : Int)), (96, .bool true), (97, .bool true), (98, .bool true), (99, .int .i64 t429), (100, .bool true), (101, .bool true), (102, .bool true), (103, .int .i64 t438), (104, .bool true), (105, .bool true), (106, .bool true), (107, .int .u64 a0), (108, .int .i64 (wrap64 ((wrap64 (Int.tmod a2 8)) + 1))), (111, .slice Ao25 t421.length co25)]) (fun s_ w' => (Kd.R (Kd.int .u8) 5 w' w.heap.size (fun k_ => some k_ ≠ (.slice Ao39 t424.length co39 : Value).ownBlock ∧ some k_ ≠ (.slice Ao42 t428.length co42 : Value).ownBlock ∧ some k_ ≠ (v439 : Value).ownBlock ∧ some k_ ≠ (s_ : Value).ownBlock) (.slice Ao25 t421.length co25) t421) ∧ (Kd.R (Kd.int .u8) 5 w' w.heap.size (fun k_ => some k_ ≠ (.slice Ao25 t421.length co25 : Value).ownBlock ∧ some k_ ≠ (.slice Ao42 t428.length co42 : Value).ownBlock ∧ some k_ ≠ (v439 : Value).ownBlock ∧ some k_ ≠ (s_ : Value).ownBlock) (.slice Ao39 t424.length co39) t424) ∧ (Kd.R (Kd.int .u8) 5 w' w.heap.size (fun k_ => some k_ ≠ (.slice Ao25 t421.length co25 : Value).ownBlock ∧ some k_ ≠ (.slice Ao39 t424.length co39 : Value).ownBlock ∧ some k_ ≠ (v439 : Value).ownBlock ∧ some k_ ≠ (s_ : Value).ownBlock) (.slice Ao42 t428.length co42) t428) ∧ (Kd.R (Kd.int .u8) 5 w' w.heap.size (fun k_ => some k_ ≠ (.slice Ao25 t421.length co25 : Value).ownBlock ∧ some k_ ≠ (.slice Ao39 t424.length co39 : Value).ownBlock ∧ some k_ ≠ (.slice Ao42 t428.length co42 : Value).ownBlock ∧ some k_ ≠ (s_ : Value).ownBlock) v439 t437) ∧ (Kd.R (Kd.int .u8) 5 w' w.heap.size (fun k_ => some k_ ≠ (.slice Ao25 t421.length co25 : Value).ownBlock ∧ some k_ ≠ (.slice Ao39 t424.length co39 : Value).ownBlock ∧ some k_ ≠ (.slice Ao42 t428.length co42 : Value).ownBlock ∧ some k_ ≠ (v439 : Value).ownBlock) s_ t441) ∧ (Below w.heap.size w w')) ?_ ?_
                                rotate_left
                                · intro hJ18_20_45_48
                                  refine join_ (σ := Value) 5 #[true, true, true, true, true, true, true, true, true, true, true, true, true, true, true, true, true, true, true, true, true, true, true, true, true, true, true, true, true, true, true, true, true, true, true, true, true, true, true, true, true, true, true, true, true, true, false, true, false, false, false, false] (fun s_ => [(82, .string (strOfNums t421)), (84, .string (strOfNums t424)), (109, s_), (85, .bool (Op.bytesLess ((strOfNums t421).toList) ((strOfNums t424).toList))), (86, .bool true), (87, .bool true), (88, .bool true), (89, .int .u64 t427), (90, .int .u64 x9_4), (91, .bool true), (92, .bool true), (93, .bool true), (94, .slice Ao42 t428.length co42), (95, .int .i64 (t428.length : Int)), (96, .bool true), (97, .bool true), (98, .bool true), (99, .int .i64 t429), (100, .bool true), (101, .bool true), (102, .bool true), (103, .int .i64 t438), (104, .bool true), (105, .bool true), (106, .bool true), (107, .int .u64 a0), (108, .int .i64 (wrap64 ((wrap64 (Int.tmod a2 8)) + 1))), (111, .slice Ao25 t421.length co25)]) (fun s_ w' => (Kd.R (Kd.int .u8) 5 w' w.heap.size (fun k_ => some k_ ≠ (.slice Ao39 t424.length co39 : Value).ownBlock ∧ some k_ ≠ (.slice Ao42 t428.length co42 : Value).ownBlock ∧ some k_ ≠ (v439 : Value).ownBlock ∧ some k_ ≠ (s_ : Value).ownBlock) (.slice Ao25 t421.length co25) t421) ∧ (Kd.R (Kd.int .u8) 5 w' w.heap.size (fun k_ => some k_ ≠ (.slice Ao25 t421.length co25 : Value).ownBlock ∧ some k_ ≠ (.slice Ao42 t428.length co42 : Value).ownBlock ∧ some k_ ≠ (v439 : Value).ownBlock ∧ some k_ ≠ (s_ : Value).ownBlock) (.slice Ao39 t424.length co39) t424) ∧ (Kd.R (Kd.int .u8) 5 w' w.heap.size (fun k_ => some k_ ≠ (.slice Ao25 t421.length co25 : Value).ownBlock ∧ some k_ ≠ (.slice Ao39 t424.length co39 : Value).ownBlock ∧ some k_ ≠ (v439 : Value).ownBlock ∧ some k_ ≠ (s_ : Value).ownBlock) (.slice Ao42 t428.length co42) t428) ∧ (Kd.R (Kd.int .u8) 5 w' w.heap.size (fun k_ => some k_ ≠ (.slice Ao25 t421.length co25 : Value).ownBlock ∧ some k_ ≠ (.slice Ao39 t424.length co39 : Value).ownBlock ∧ some k_ ≠ (.slice Ao42 t428.length co42 : Value).ownBlock ∧ some k_ ≠ (s_ : Value).ownBlock) v439 t437) ∧ (Kd.R (Kd.int .u8) 5 w' w.heap.size (fun k_ => some k_ ≠ (.slice Ao25 t421.length co25 : Value).ownBlock ∧ some k_ ≠ (.slice Ao39 t424.length co39 : Value).ownBlock ∧ some k_ ≠ (.slice Ao42 t428.length co42 : Value).ownBlock ∧ some k_ ≠ (v439 : Value).ownBlock) s_ t441) ∧ (Below w.heap.size w w')) ?_ ?_
                                  rotate_left
                                  · intro hJ18_20_45
                                    refine join_ (σ := Unit) 5 #[true, true, true, true, true, true, true, true, true, true, true, true, true, true, true, true, true, true, true, true, true, true, true, true, true, true, true, true, true, true, true, true, true, true, true, true, true, true, true, true, true, true, true, true, true, false, false, true, true, false, false, false] (fun s_ => [(82, .string (strOfNums t421)), (84, .string (strOfNums t424)), (112, .string (strOfNums t421)), (85, .bool (Op.bytesLess ((strOfNums t421).toList) ((strOfNums t424).toList))), (86, .bool true), (87, .bool true), (88, .bool true), (89, .int .u64 t427), (90, .int .u64 x9_4), (91, .bool true), (92, .bool true), (93, .bool true), (94, .slice Ao42 t428.length co42), (95, .int .i64 (t428.length : Int)), (96, .bool true), (97, .bool true), (98, .bool true), (99, .int .i64 t429), (100, .bool true), (101, .bool true), (102, .bool true), (103, .int .i64 t438), (104, .bool true), (105, .bool true), (106, .bool true), (107, .int .u64 a0), (108, .int .i64 (wrap64 ((wrap64 (Int.tmod a2 8)) + 1))), (111, .slice Ao25 t421.length co25)]) (fun s_ w' => (Kd.R (Kd.int .u8) 5 w' w.heap.size (fun k_ => some k_ ≠ (.slice Ao39 t424.length co39 : Value).ownBlock ∧ some k_ ≠ (.slice Ao42 t428.length co42 : Value).ownBlock ∧ some k_ ≠ (v439 : Value).ownBlock) (.slice Ao25 t421.length co25) t421) ∧ (Kd.R (Kd.int .u8) 5 w' w.heap.size (fun k_ => some k_ ≠ (.slice Ao25 t421.length co25 : Value).ownBlock ∧ some k_ ≠ (.slice Ao42 t428.length co42 : Value).ownBlock ∧ some k_ ≠ (v439 : Value).ownBlock) (.slice Ao39 t424.length co39) t424) ∧ (Kd.R (Kd.int .u8) 5 w' w.heap.size (fun k_ => some k_ ≠ (.slice Ao25 t421.length co25 : Value).ownBlock ∧ some k_ ≠ (.slice Ao39 t424.length co39 : Value).ownBlock ∧ some k_ ≠ (v439 : Value).ownBlock) (.slice Ao42 t428.length co42) t428) ∧ (Kd.R (Kd.int .u8) 5 w' w.heap.size (fun k_ => some k_ ≠ (.slice Ao25 t421.length co25 : Value).ownBlock ∧ some k_ ≠ (.slice Ao39 t424.length co39 : Value).ownBlock ∧ some k_ ≠ (.slice Ao42 t428.length co42 : Value).ownBlock) v439 t437) ∧ (Below w.heap.size w w')) ?_ ?_
                                    rotate_left
                                    · intro hJ18_20_48
                                      refine join_ (σ := Unit) 6 #[true, true, true, true, true, true, true, true, true, true, true, true, true, true, true, true, true, true, true, true, true, true, true, true, true, true, true, true, true, true, true, true, true, true, true, true, true, true, true, true, true, true, true, true, true, false, false, true, false, false, false, false] (fun s_ => [(82, .string (strOfNums t421)), (84, .string (strOfNums t424)), (85, .bool (Op.bytesLess ((strOfNums t421).toList) ((strOfNums t424).toList))), (86, .bool true), (87, .bool true), (88, .bool true), (89, .int .u64 t427), (90, .int .u64 x9_4), (91, .bool true), (92, .bool true), (93, .bool true), (94, .slice Ao42 t428.length co42), (95, .int .i64 (t428.length : Int)), (96, .bool true), (97, .bool true), (98, .bool true), (99, .int .i64 t429), (100, .bool true), (101, .bool true), (102, .bool true), (103, .int .i64 t438), (104, .bool true), (105, .bool true), (106, .bool true), (107, .int .u64 a0), (108, .int .i64 (wrap64 ((wrap64 (Int.tmod a2 8)) + 1))), (111, .slice Ao25 t421.length co25)]) (fun s_ w' => (Kd.R (Kd.int .u8) 5 w' w.heap.size (fun k_ => some k_ ≠ (.slice Ao39 t424.length co39 : Value).ownBlock ∧ some k_ ≠ (.slice Ao42 t428.length co42 : Value).ownBlock ∧ some k_ ≠ (v439 : Value).ownBlock) (.slice Ao25 t421.length co25) t421) ∧ (Kd.R (Kd.int .u8) 5 w' w.heap.size (fun k_ => some k_ ≠ (.slice Ao25 t421.length co25 : Value).ownBlock ∧ some k_ ≠ (.slice Ao42 t428.length co42 : Value).ownBlock ∧ some k_ ≠ (v439 : Value).ownBlock) (.slice Ao39 t424.length co39) t424) ∧ (Kd.R (Kd.int .u8) 5 w' w.heap.size (fun k_ => some k_ ≠ (.slice Ao25 t421.length co25 : Value).ownBlock ∧ some k_ ≠ (.slice Ao39 t424.length co39 : Value).ownBlock ∧ some k_ ≠ (v439 : Value).ownBlock) (.slice Ao42 t428.length co42) t428) ∧ (Kd.R (Kd.int .u8) 5 w' w.heap.size (fun k_ => some k_ ≠ (.slice Ao25 t421.length co25 : Value).ownBlock ∧ some k_ ≠ (.slice Ao39 t424.length co39 : Value).ownBlock ∧ some k_ ≠ (.slice Ao42 t428.length co42 : Value).ownBlock) v439 t437) ∧ (Below w.heap.size w w')) ?_ ?_
                                      rotate_left
                                      · intro hJ18_20
                                        refine join_ (σ := Unit) 32 #[true, true, true, true, true, true, true, true, true, true, true, true, true, true, true, true, true, true, true, true, false, false, false, false, false, false, false, false, false, false, false, false, false, false, false, false, false, false, false, false, false, false, false, false, false, false, false, false, false, false, false, false] (fun s_ => [(82, .string (strOfNums t421))]) (fun s_ w' => (Kd.R (Kd.int .u8) 5 w' w.heap.size (fun k_ => some k_ ≠ (.slice Ao39 t424.length co39 : Value).ownBlock ∧ some k_ ≠ (.slice Ao42 t428.length co42 : Value).ownBlock ∧ some k_ ≠ (v439 : Value).ownBlock) (.slice Ao25 t421.length co25) t421) ∧ (Kd.R (Kd.int .u8) 5 w' w.heap.size (fun k_ => some k_ ≠ (.slice Ao25 t421.length co25 : Value).ownBlock ∧ some k_ ≠ (.slice Ao42 t428.length co42 : Value).ownBlock ∧ some k_ ≠ (v439 : Value).ownBlock) (.slice Ao39 t424.length co39) t424) ∧ (Kd.R (Kd.int .u8) 5 w' w.heap.size (fun k_ => some k_ ≠ (.slice Ao25 t421.length co25 : Value).ownBlock ∧ some k_ ≠ (.slice Ao39 t424.length co39 : Value).ownBlock ∧ some k_ ≠ (v439 : Value).ownBlock) (.slice Ao42 t428.length co42) t428) ∧ (Kd.R (Kd.int .u8) 5 w' w.heap.size (fun k_ => some k_ ≠ (.slice Ao25 t421.length co25 : Value).ownBlock ∧ some k_ ≠ (.slice Ao39 t424.length co39 : Value).ownBlock ∧ some k_ ≠ (.slice Ao42 t428.length co42 : Value).ownBlock) v439 t437) ∧ (Below w.heap.size w w')) ?_ ?_
                                        rotate_left
                                        · intro hJ18
                                          refine join_ (σ := Unit) 32 #[true, true, true, true, true, true, true, true, true, true, true, true, true, true, true, true, true, true, false, true, true, false, false, false, false, false, false, false, false, false, false, false, false, false, false, false, false, false, false, false, false, false, false, false, false, false, false, false, false, false, false, false] (fun s_ => [(84, .string (strOfNums t424))]) (fun s_ w' => (Kd.R (Kd.int .u8) 5 w' w.heap.size (fun k_ => some k_ ≠ (.slice Ao39 t424.length co39 : Value).ownBlock ∧ some k_ ≠ (.slice Ao42 t428.length co42 : Value).ownBlock ∧ some k_ ≠ (v439 : Value).ownBlock) (.slice Ao25 t421.length co25) t421) ∧ (Kd.R (Kd.int .u8) 5 w' w.heap.size (fun k_ => some k_ ≠ (.slice Ao25 t421.length co25 : Value).ownBlock ∧ some k_ ≠ (.slice Ao42 t428.length co42 : Value).ownBlock ∧ some k_ ≠ (v439 : Value).ownBlock) (.slice Ao39 t424.length co39) t424) ∧ (Kd.R (Kd.int .u8) 5 w' w.heap.size (fun k_ => some k_ ≠ (.slice Ao25 t421.length co25 : Value).ownBlock ∧ some k_ ≠ (.slice Ao39 t424.length co39 : Value).ownBlock ∧ some k_ ≠ (v439 : Value).ownBlock) (.slice Ao42 t428.length co42) t428) ∧ (Kd.R (Kd.int .u8) 5 w' w.heap.size (fun k_ => some k_ ≠ (.slice Ao25 t421.length co25 : Value).ownBlock ∧ some k_ ≠ (.slice Ao39 t424.length co39 : Value).ownBlock ∧ some k_ ≠ (.slice Ao42 t428.length co42 : Value).ownBlock) v439 t437) ∧ (Below w.heap.size w w')) ?_ ?_
                                          rotate_left
                                          · intro hJ20
                                            refine two_ (i := 18) (j := 20) (Ni := some 82) (Nj := some 84) #[true, true, true, true, true, true, true, true, true, true, true, true, true, true, true, true, true, true, true, true, false, false, false, false, false, false, false, false, false, false, false, false, false, false, false, false, false, false, false, false, false, false, false, false, false, false, false, false, false, false, false, false] #[true, true, true, true, true, true, true, true, true, true, true, true, true, true, true, true, true, true, false, true, true, false, false, false, false, false, false, false, false, false, false, false, false, false, false, false, false, false, false, false, false, false, false, false, false, false, false, false, false, false, false, false] rfl rfl rfl rfl (two_of HT_.out (by kernel_rfl)) (by decide) (by decide) (fun K hK => ?_) (fun K hK => ?_)
                                            · skip
                                              (first | have hcv40 := own_string (P := Try.prog) Try.underlying39 Try.underlying5 Try.underlying9 (Kd.own_of_R HO423.out) | have hcv40 := Hand.V_string (P := Try.prog) Try.underlying39 Try.underlying5 Try.underlying9 HO423.out)
                                              refine value_ (w1 := ?_) (v := ?_) (by rfl) rfl ?_ ?_
                                              rotate_left 2
                                              · go_simp
                                                constructor
                                                · rfl
                                                · rfl
                                              clear hcv40
                                              refine hK.out _ _ trivial (fun hHeld => ?_)
                                              clear hK K
                                              refine norm_ (a' := ?_) ?_ ?_
                                              rotate_left
                                              · show Act.put _ (some 82) _ = _
                                                simp only [Act.put, List.setIfInBounds_toArray, List.set_cons_zero, List.set_cons_succ, i64_w, i32_w]
                                                rfl
                                              exact norm_ (by first | (simp only [putAll, Act.put, List.setIfInBounds_toArray, List.set_cons_zero, List.set_cons_succ]; done) | (simp only [putAll, Act.put, List.setIfInBounds_toArray, List.set_cons_zero, List.set_cons_succ]; rfl)) (hJ18 () _ ⟨(by (with_reducible repeat (first | apply Kd.R_alloc | apply Kd.R_drewN | apply Kd.R_drew)); exact Kd.R_mono HO423.out (fun _ hk => ⟨hk.1.1.2, ⟨hk.1.2, hk.2⟩⟩)), (by (with_reducible repeat (first | apply Kd.R_alloc | apply Kd.R_drewN | apply Kd.R_drew)); exact Kd.R_mono HO426.out (fun _ hk => ⟨hk.1.1.2, ⟨hk.1.2, hk.2⟩⟩)), (by (with_reducible repeat (first | apply Kd.R_alloc | apply Kd.R_drewN | apply Kd.R_drew)); exact Kd.R_mono HO431.out (fun _ hk => ⟨hk.1.1.2, ⟨hk.1.2, hk.2⟩⟩)), (by (with_reducible repeat (first | apply Kd.R_alloc | apply Kd.R_drewN | apply Kd.R_drew)); exact Kd.R_mono HO440.out (fun _ hk => ⟨hk.1.1.2, ⟨hk.1.2, hk.2⟩⟩)), (by repeat (first | (with_reducible first | exact HB.out | apply below_alloc | apply pw_below_drewN | apply below_drew1) | exact HB.out))⟩)
                                            · skip
                                              (first | have hcv40 := own_string (P := Try.prog) Try.underlying39 Try.underlying5 Try.underlying9 (Kd.own_of_R HO426.out) | have hcv40 := Hand.V_string (P := Try.prog) Try.underlying39 Try.underlying5 Try.underlying9 HO426.out)
                                              refine value_ (w1 := ?_) (v := ?_) (by rfl) rfl ?_ ?_
                                              rotate_left 2
                                              · go_simp
                                                constructor
                                                · rfl
                                                · rfl
                                              clear hcv40
                                              refine hK.out _ _ trivial (fun hHeld => ?_)
                                              clear hK K
                                              refine norm_ (a' := ?_) ?_ ?_
                                              rotate_left
                                              · show Act.put _ (some 84) _ = _
                                                simp only [Act.put, List.setIfInBounds_toArray, List.set_cons_zero, List.set_cons_succ, i64_w, i32_w]
                                                rfl
                                              exact norm_ (by first | (simp only [putAll, Act.put, List.setIfInBounds_toArray, List.set_cons_zero, List.set_cons_succ]; done) | (simp only [putAll, Act.put, List.setIfInBounds_toArray, List.set_cons_zero, List.set_cons_succ]; rfl)) (hJ20 () _ ⟨(by (with_reducible repeat (first | apply Kd.R_alloc | apply Kd.R_drewN | apply Kd.R_drew)); exact Kd.R_mono HO423.out (fun _ hk => ⟨hk.1.1.2, ⟨hk.1.2, hk.2⟩⟩)), (by (with_reducible repeat (first | apply Kd.R_alloc | apply Kd.R_drewN | apply Kd.R_drew)); exact Kd.R_mono HO426.out (fun _ hk => ⟨hk.1.1.2, ⟨hk.1.2, hk.2⟩⟩)), (by (with_reducible repeat (first | apply Kd.R_alloc | apply Kd.R_drewN | apply Kd.R_drew)); exact Kd.R_mono HO431.out (fun _ hk => ⟨hk.1.1.2, ⟨hk.1.2, hk.2⟩⟩)), (by (with_reducible repeat (first | apply Kd.R_alloc | apply Kd.R_drewN | apply Kd.R_drew)); exact Kd.R_mono HO440.out (fun _ hk => ⟨hk.1.1.2, ⟨hk.1.2, hk.2⟩⟩)), (by repeat (first | (with_reducible first | exact HB.out | apply below_alloc | apply pw_below_drewN | apply below_drew1) | exact HB.out))⟩)
                                          · skip
                                            rintro _ w41 ⟨h0_, h1_, h2_, h3_, h4_⟩
                                            have n0_ : Aside0 (Kd.R (Kd.int .u8) 5 w41 w.heap.size (fun k_ => some k_ ≠ (.slice Ao39 t424.length co39 : Value).ownBlock ∧ some k_ ≠ (.slice Ao42 t428.length co42 : Value).ownBlock ∧ some k_ ≠ (v439 : Value).ownBlock) (.slice Ao25 t421.length co25) t421) := ⟨h0_⟩
                                            have n1_ : Aside0 (Kd.R (Kd.int .u8) 5 w41 w.heap.size (fun k_ => some k_ ≠ (.slice Ao25 t421.length co25 : Value).ownBlock ∧ some k_ ≠ (.slice Ao42 t428.length co42 : Value).ownBlock ∧ some k_ ≠ (v439 : Value).ownBlock) (.slice Ao39 t424.length co39) t424) := ⟨h1_⟩
                                            have n2_ : Aside0 (Kd.R (Kd.int .u8) 5 w41 w.heap.size (fun k_ => some k_ ≠ (.slice Ao25 t421.length co25 : Value).ownBlock ∧ some k_ ≠ (.slice Ao39 t424.length co39 : Value).ownBlock ∧ some k_ ≠ (v439 : Value).ownBlock) (.slice Ao42 t428.length co42) t428) := ⟨h2_⟩
                                            have n3_ : Aside0 (Kd.R (Kd.int .u8) 5 w41 w.heap.size (fun k_ => some k_ ≠ (.slice Ao25 t421.length co25 : Value).ownBlock ∧ some k_ ≠ (.slice Ao39 t424.length co39 : Value).ownBlock ∧ some k_ ≠ (.slice Ao42 t428.length co42 : Value).ownBlock) v439 t437) := ⟨h3_⟩
                                            have n4_ : Aside0 (Below w.heap.size w w41) := ⟨h4_⟩
                                            clear HO423
                                            clear HO426
                                            clear HO431
                                            clear HO440
                                            clear HR435
                                            clear HB
                                            clear h0_ h1_ h2_ h3_ h4_
                                            have HO423 := n0_
                                            have HO426 := n1_
                                            have HO431 := n2_
                                            have HO440 := n3_
                                            have HB := n4_
                                            clear n0_ n1_ n2_ n3_ n4_
                                            have hHeld := trivial
                                            obtain ⟨Ao43, co43, eo43⟩ := Kd.R_slice HO431.out
                                            (first | subst eo43 | (injection eo43 with f1_ f2_ f3_; have f4_ := f1_.symm; have f5_ := f3_.symm; clear f1_ f2_ f3_; subst f4_; subst f5_))
                                            refine norm_ (a' := ?_) ?_ ?_
                                            rotate_left
                                            · simp only [putAll, Act.put, List.setIfInBounds_toArray, List.set_cons_zero, List.set_cons_succ]
                                              rfl
                                            refine one_ (i := 18) (N := some 82) #[true, true, true, true, true, true, true, true, true, true, true, true, true, true, true, true, true, true, true, true, true, false, false, false, false, false, false, false, false, false, false, false, false, false, false, false, false, false, false, false, false, false, false, false, false, false, false, false, false, false, false, false] rfl rfl (one_of HT_.out (by kernel_rfl)) (by decide) (fun K hK => ?_)
                                            (first | have hcv42 := own_string (P := Try.prog) Try.underlying39 Try.underlying5 Try.underlying9 (Kd.own_of_R HO423.out) | have hcv42 := Hand.V_string (P := Try.prog) Try.underlying39 Try.underlying5 Try.underlying9 HO423.out)
                                            refine value_ (w1 := ?_) (v := ?_) (by rfl) rfl ?_ ?_
                                            rotate_left 2
                                            · go_simp
                                              constructor
                                              · rfl
                                              · rfl
                                            clear hcv42
                                            refine hK.out _ _ trivial (fun hHeld => ?_)
                                            clear hK K
                                            refine norm_ (a' := ?_) ?_ ?_
                                            rotate_left
                                            · show Act.put _ (some 82) _ = _
                                              simp only [Act.put, List.setIfInBounds_toArray, List.set_cons_zero, List.set_cons_succ, i64_w, i32_w]
                                              rfl
                                            refine pure_ (i := 21) (N := some 85) (v := ?_) (a' := ?_) #[true, true, true, true, true, true, true, true, true, true, true, true, true, true, true, true, true, true, true, true, true, true, false, false, false, false, false, false, false, false, false, false, false, false, false, false, false, false, false, false, false, false, false, false, false, false, false, false, false, false, false, false] rfl rfl (any_of HT_.out (by kernel_rfl)) (fun _ _ _ h => h) (Or.inl ⟨by rfl, ?_⟩) ?_ ?_
                                            rotate_left
                                            · intro w'
                                              go_simp
                                              with_reducible rfl
                                            rotate_left
                                            · simp only [Act.put, List.setIfInBounds_toArray, List.set_cons_zero, List.set_cons_succ, i64_w, i32_w]
                                              rfl
                                            refine pure_ (i := 22) (N := some 86) (v := ?_) (a' := ?_) #[true, true, true, true, true, true, true, true, true, true, true, true, true, true, true, true, true, true, true, true, true, true, true, false, false, false, false, false, false, false, false, false, false, false, false, false, false, false, false, false, false, false, false, false, false, false, false, false, false, false, false, false] rfl rfl (any_of HT_.out (by kernel_rfl)) (fun _ _ _ h => h) (Or.inl ⟨by rfl, ?_⟩) ?_ ?_
                                            rotate_left
                                            · intro w'
                                              go_simp
                                              with_reducible rfl
                                            rotate_left
                                            · simp only [Act.put, List.setIfInBounds_toArray, List.set_cons_zero, List.set_cons_succ, i64_w, i32_w]
                                              rfl
                                            refine pure_ (i := 23) (N := some 87) (v := ?_) (a' := ?_) #[true, true, true, true, true, true, true, true, true, true, true, true, true, true, true, true, true, true, true, true, true, true, true, true, false, false, false, false, false, false, false, false, false, false, false, false, false, false, false, false, false, false, false, false, false, false, false, false, false, false, false, false] rfl rfl (any_of HT_.out (by kernel_rfl)) (fun _ _ _ h => h) (Or.inl ⟨by rfl, ?_⟩) ?_ ?_
                                            rotate_left
                                            · intro w'
                                              go_simp
                                              with_reducible rfl
                                            rotate_left
                                            · simp only [Act.put, List.setIfInBounds_toArray, List.set_cons_zero, List.set_cons_succ, i64_w, i32_w]
                                              rfl
                                            refine pure_ (i := 24) (N := some 88) (v := ?_) (a' := ?_) #[true, true, true, true, true, true, true, true, true, true, true, true, true, true, true, true, true, true, true, true, true, true, true, true, true, false, false, false, false, false, false, false, false, false, false, false, false, false, false, false, false, false, false, false, false, false, false, false, false, false, false, false] rfl rfl (any_of HT_.out (by kernel_rfl)) (fun _ _ _ h => h) (Or.inl ⟨by rfl, ?_⟩) ?_ ?_
                                            rotate_left
                                            · intro w'
                                              go_simp
                                              with_reducible rfl
                                            rotate_left
                                            · simp only [Act.put, List.setIfInBounds_toArray, List.set_cons_zero, List.set_cons_succ, i64_w, i32_w]
                                              rfl
                                            refine pure_ (i := 25) (N := some 89) (v := ?_) (a' := ?_) #[true, true, true, true, true, true, true, true, true, true, true, true, true, true, true, true, true, true, true, true, true, true, true, true, true, true, false, false, false, false, false, false, false, false, false, false, false, false, false, false, false, false, false, false, false, false, false, false, false, false, false, false] rfl rfl (any_of HT_.out (by kernel_rfl)) (fun _ _ _ h => h) (Or.inl ⟨by rfl, ?_⟩) ?_ ?_
                                            rotate_left
                                            · intro w'
                                              go_simp
                                              with_reducible rfl
                                            rotate_left
                                            · simp only [Act.put, List.setIfInBounds_toArray, List.set_cons_zero, List.set_cons_succ, i64_w, i32_w]
                                              rfl
                                            refine pure_ (i := 26) (N := some 90) (v := ?_) (a' := ?_) #[true, true, true, true, true, true, true, true, true, true, true, true, true, true, true, true, true, true, true, true, true, true, true, true, true, true, true, false, false, false, false, false, false, false, false, false, false, false, false, false, false, false, false, false, false, false, false, false, false, false, false, false] rfl rfl (any_of HT_.out (by kernel_rfl)) (fun _ _ _ h => h) (Or.inl ⟨by rfl, ?_⟩) ?_ ?_
                                            rotate_left
                                            · intro w'
                                              go_simp
                                              with_reducible rfl
                                            rotate_left
                                            · simp only [Act.put, List.setIfInBounds_toArray, List.set_cons_zero, List.set_cons_succ, i64_w, i32_w]
                                              rfl
                                            refine pure_ (i := 27) (N := some 91) (v := ?_) (a' := ?_) #[true, true, true, true, true, true, true, true, true, true, true, true, true, true, true, true, true, true, true, true, true, true, true, true, true, true, true, true, false, false, false, false, false, false, false, false, false, false, false, false, false, false, false, false, false, false, false, false, false, false, false, false] rfl rfl (any_of HT_.out (by kernel_rfl)) (fun _ _ _ h => h) (Or.inl ⟨by rfl, ?_⟩) ?_ ?_
                                            rotate_left
                                            · intro w'
                                              go_simp
                                              with_reducible rfl
                                            rotate_left
                                            · simp only [Act.put, List.setIfInBounds_toArray, List.set_cons_zero, List.set_cons_succ, i64_w, i32_w]
                                              rfl
                                            refine pure_ (i := 28) (N := some 92) (v := ?_) (a' := ?_) #[true, true, true, true, true, true, true, true, true, true, true, true, true, true, true, true, true, true, true, true, true, true, true, true, true, true, true, true, true, false, false, false, false, false, false, false, false, false, false, false, false, false, false, false, false, false, false, false, false, false, false, false] rfl rfl (any_of HT_.out (by kernel_rfl)) (fun _ _ _ h => h) (Or.inl ⟨by rfl, ?_⟩) ?_ ?_
                                            rotate_left
                                            · intro w'
                                              go_simp
                                              with_reducible rfl
                                            rotate_left
                                            · simp only [Act.put, List.setIfInBounds_toArray, List.set_cons_zero, List.set_cons_succ, i64_w, i32_w]
                                              rfl
                                            refine pure_ (i := 29) (N := some 93) (v := ?_) (a' := ?_) #[true, true, true, true, true, true, true, true, true, true, true, true, true, true, true, true, true, true, true, true, true, true, true, true, true, true, true, true, true, true, false, false, false, false, false, false, false, false, false, false, false, false, false, false, false, false, false, false, false, false, false, false] rfl rfl (any_of HT_.out (by kernel_rfl)) (fun _ _ _ h => h) (Or.inl ⟨by rfl, ?_⟩) ?_ ?_
                                            rotate_left
                                            · intro w'
                                              go_simp
                                              with_reducible rfl
                                            rotate_left
                                            · simp only [Act.put, List.setIfInBounds_toArray, List.set_cons_zero, List.set_cons_succ, i64_w, i32_w]
                                              rfl
                                            refine pure_ (i := 30) (N := some 94) (v := ?_) (a' := ?_) #[true, true, true, true, true, true, true, true, true, true, true, true, true, true, true, true, true, true, true, true, true, true, true, true, true, true, true, true, true, true, true, false, false, false, false, false, false, false, false, false, false, false, false, false, false, false, false, false, false, false, false, false] rfl rfl (any_of HT_.out (by kernel_rfl)) (fun _ _ _ h => h) (Or.inl ⟨by rfl, ?_⟩) ?_ ?_
                                            rotate_left
                                            · intro w'
                                              go_simp
                                              with_reducible rfl
                                            rotate_left
                                            · simp only [Act.put, List.setIfInBounds_toArray, List.set_cons_zero, List.set_cons_succ, i64_w, i32_w]
                                              rfl
                                            refine pure_ (i := 31) (N := some 95) (v := ?_) (a' := ?_) #[true, true, true, true, true, true, true, true, true, true, true, true, true, true, true, true, true, true, true, true, true, true, true, true, true, true, true, true, true, true, true, true, false, false, false, false, false, false, false, false, false, false, false, false, false, false, false, false, false, false, false, false] rfl rfl (any_of HT_.out (by kernel_rfl)) (fun _ _ _ h => h) (Or.inl ⟨by rfl, ?_⟩) ?_ ?_
                                            rotate_left
                                            · intro w'
                                              go_simp
                                              with_reducible rfl
                                            rotate_left
                                            · simp only [Act.put, List.setIfInBounds_toArray, List.set_cons_zero, List.set_cons_succ, i64_w, i32_w]
                                              rfl
                                            refine pure_ (i := 32) (N := some 96) (v := ?_) (a' := ?_) #[true, true, true, true, true, true, true, true, true, true, true, true, true, true, true, true, true, true, true, true, true, true, true, true, true, true, true, true, true, true, true, true, true, false, false, false, false, false, false, false, false, false, false, false, false, false, false, false, false, false, false, false] rfl rfl (any_of HT_.out (by kernel_rfl)) (fun _ _ _ h => h) (Or.inl ⟨by rfl, ?_⟩) ?_ ?_
                                            rotate_left
                                            · intro w'
                                              go_simp
                                              with_reducible rfl
                                            rotate_left
                                            · simp only [Act.put, List.setIfInBounds_toArray, List.set_cons_zero, List.set_cons_succ, i64_w, i32_w]
                                              rfl
                                            refine pure_ (i := 33) (N := some 97) (v := ?_) (a' := ?_) #[true, true, true, true, true, true, true, true, true, true, true, true, true, true, true, true, true, true, true, true, true, true, true, true, true, true, true, true, true, true, true, true, true, true, false, false, false, false, false, false, false, false, false, false, false, false, false, false, false, false, false, false] rfl rfl (any_of HT_.out (by kernel_rfl)) (fun _ _ _ h => h) (Or.inl ⟨by rfl, ?_⟩) ?_ ?_
                                            rotate_left
                                            · intro w'
                                              go_simp
                                              with_reducible rfl
                                            rotate_left
                                            · simp only [Act.put, List.setIfInBounds_toArray, List.set_cons_zero, List.set_cons_succ, i64_w, i32_w]
                                              rfl
                                            refine pure_ (i := 34) (N := some 98) (v := ?_) (a' := ?_) #[true, true, true, true, true, true, true, true, true, true, true, true, true, true, true, true, true, true, true, true, true, true, true, true, true, true, true, true, true, true, true, true, true, true, true, false, false, false, false, false, false, false, false, false, false, false, false, false, false, false, false, false] rfl rfl (any_of HT_.out (by kernel_rfl)) (fun _ _ _ h => h) (Or.inl ⟨by rfl, ?_⟩) ?_ ?_
                                            rotate_left
                                            · intro w'
                                              go_simp
                                              with_reducible rfl
                                            rotate_left
                                            · simp only [Act.put, List.setIfInBounds_toArray, List.set_cons_zero, List.set_cons_succ, i64_w, i32_w]
                                              rfl
                                            refine pure_ (i := 35) (N := some 99) (v := ?_) (a' := ?_) #[true, true, true, true, true, true, true, true, true, true, true, true, true, true, true, true, true, true, true, true, true, true, true, true, true, true, true, true, true, true, true, true, true, true, true, true, false, false, false, false, false, false, false, false, false, false, false, false, false, false, false, false] rfl rfl (any_of HT_.out (by kernel_rfl)) (fun _ _ _ h => h) (Or.inl ⟨by rfl, ?_⟩) ?_ ?_
                                            rotate_left
                                            · intro w'
                                              go_simp
                                              with_reducible rfl
                                            rotate_left
                                            · simp only [Act.put, List.setIfInBounds_toArray, List.set_cons_zero, List.set_cons_succ, i64_w, i32_w]
                                              rfl
                                            refine pure_ (i := 36) (N := some 100) (v := ?_) (a' := ?_) #[true, true, true, true, true, true, true, true, true, true, true, true, true, true, true, true, true, true, true, true, true, true, true, true, true, true, true, true, true, true, true, true, true, true, true, true, true, false, false, false, false, false, false, false, false, false, false, false, false, false, false, false] rfl rfl (any_of HT_.out (by kernel_rfl)) (fun _ _ _ h => h) (Or.inl ⟨by rfl, ?_⟩) ?_ ?_
                                            rotate_left
                                            · intro w'
                                              go_simp
                                              with_reducible rfl
                                            rotate_left
                                            · simp only [Act.put, List.setIfInBounds_toArray, List.set_cons_zero, List.set_cons_succ, i64_w, i32_w]
                                              rfl
                                            refine pure_ (i := 37) (N := some 101) (v := ?_) (a' := ?_) #[true, true, true, true, true, true, true, true, true, true, true, true, true, true, true, true, true, true, true, true, true, true, true, true, true, true, true, true, true, true, true, true, true, true, true, true, true, true, false, false, false, false, false, false, false, false, false, false, false, false, false, false] rfl rfl (any_of HT_.out (by kernel_rfl)) (fun _ _ _ h => h) (Or.inl ⟨by rfl, ?_⟩) ?_ ?_
                                            rotate_left
                                            · intro w'
                                              go_simp
                                              with_reducible rfl
                                            rotate_left
                                            · simp only [Act.put, List.setIfInBounds_toArray, List.set_cons_zero, List.set_cons_succ, i64_w, i32_w]
                                              rfl
                                            refine pure_ (i := 38) (N := some 102) (v := ?_) (a' := ?_) #[true, true, true, true, true, true, true, true, true, true, true, true, true, true, true, true, true, true, true, true, true, true, true, true, true, true, true, true, true, true, true, true, true, true, true, true, true, true, true, false, false, false, false, false, false, false, false, false, false, false, false, false] rfl rfl (any_of HT_.out (by kernel_rfl)) (fun _ _ _ h => h) (Or.inl ⟨by rfl, ?_⟩) ?_ ?_
                                            rotate_left
                                            · intro w'
                                              go_simp
                                              with_reducible rfl
                                            rotate_left
                                            · simp only [Act.put, List.setIfInBounds_toArray, List.set_cons_zero, List.set_cons_succ, i64_w, i32_w]
                                              rfl
                                            refine pure_ (i := 39) (N := some 103) (v := ?_) (a' := ?_) #[true, true, true, true, true, true, true, true, true, true, true, true, true, true, true, true, true, true, true, true, true, true, true, true, true, true, true, true, true, true, true, true, true, true, true, true, true, true, true, true, false, false, false, false, false, false, false, false, false, false, false, false] rfl rfl (any_of HT_.out (by kernel_rfl)) (fun _ _ _ h => h) (Or.inl ⟨by rfl, ?_⟩) ?_ ?_
                                            rotate_left
                                            · intro w'
                                              go_simp
                                              with_reducible rfl
                                            rotate_left
                                            · simp only [Act.put, List.setIfInBounds_toArray, List.set_cons_zero, List.set_cons_succ, i64_w, i32_w]
                                              rfl
                                            refine pure_ (i := 40) (N := some 104) (v := ?_) (a' := ?_) #[true, true, true, true, true, true, true, true, true, true, true, true, true, true, true, true, true, true, true, true, true, true, true, true, true, true, true, true, true, true, true, true, true, true, true, true, true, true, true, true, true, false, false, false, false, false, false, false, false, false, false, false] rfl rfl (any_of HT_.out (by kernel_rfl)) (fun _ _ _ h => h) (Or.inl ⟨by rfl, ?_⟩) ?_ ?_
                                            rotate_left
                                            · intro w'
                                              go_simp
                                              with_reducible rfl
                                            rotate_left
                                            · simp only [Act.put, List.setIfInBounds_toArray, List.set_cons_zero, List.set_cons_succ, i64_w, i32_w]
                                              rfl
                                            refine pure_ (i := 41) (N := some 105) (v := ?_) (a' := ?_) #[true, true, true, true, true, true, true, true, true, true, true, true, true, true, true, true, true, true, true, true, true, true, true, true, true, true, true, true, true, true, true, true, true, true, true, true, true, true, true, true, true, true, false, false, false, false, false, false, false, false, false, false] rfl rfl (any_of HT_.out (by kernel_rfl)) (fun _ _ _ h => h) (Or.inl ⟨by rfl, ?_⟩) ?_ ?_
                                            rotate_left
                                            · intro w'
                                              go_simp
                                              with_reducible rfl
                                            rotate_left
                                            · simp only [Act.put, List.setIfInBounds_toArray, List.set_cons_zero, List.set_cons_succ, i64_w, i32_w]
                                              rfl
                                            refine pure_ (i := 42) (N := some 106) (v := ?_) (a' := ?_) #[true, true, true, true, true, true, true, true, true, true, true, true, true, true, true, true, true, true, true, true, true, true, true, true, true, true, true, true, true, true, true, true, true, true, true, true, true, true, true, true, true, true, true, false, false, false, false, false, false, false, false, false] rfl rfl (any_of HT_.out (by kernel_rfl)) (fun _ _ _ h => h) (Or.inl ⟨by rfl, ?_⟩) ?_ ?_
                                            rotate_left
                                            · intro w'
                                              go_simp
                                              with_reducible rfl
                                            rotate_left
                                            · simp only [Act.put, List.setIfInBounds_toArray, List.set_cons_zero, List.set_cons_succ, i64_w, i32_w]
                                              rfl
                                            refine pure_ (i := 43) (N := some 107) (v := ?_) (a' := ?_) #[true, true, true, true, true, true, true, true, true, true, true, true, true, true, true, true, true, true, true, true, true, true, true, true, true, true, true, true, true, true, true, true, true, true, true, true, true, true, true, true, true, true, true, true, false, false, false, false, false, false, false, false] rfl rfl (any_of HT_.out (by kernel_rfl)) (fun _ _ _ h => h) (Or.inl ⟨by rfl, ?_⟩) ?_ ?_
                                            rotate_left
                                            · intro w'
                                              go_simp
                                              with_reducible rfl
                                            rotate_left
                                            · simp only [Act.put, List.setIfInBounds_toArray, List.set_cons_zero, List.set_cons_succ, i64_w, i32_w]
                                              rfl
                                            refine pure_ (i := 44) (N := some 108) (v := ?_) (a' := ?_) #[true, true, true, true, true, true, true, true, true, true, true, true, true, true, true, true, true, true, true, true, true, true, true, true, true, true, true, true, true, true, true, true, true, true, true, true, true, true, true, true, true, true, true, true, true, false, false, false, false, false, false, false] rfl rfl (any_of HT_.out (by kernel_rfl)) (fun _ _ _ h => h) (Or.inl ⟨by rfl, ?_⟩) ?_ ?_
                                            rotate_left
                                            · intro w'
                                              go_simp
                                              with_reducible rfl
                                            rotate_left
                                            · simp only [Act.put, List.setIfInBounds_toArray, List.set_cons_zero, List.set_cons_succ, i64_w, i32_w]
                                              rfl
                                            refine pure_ (i := 47) (N := some 111) (v := ?_) (a' := ?_) #[true, true, true, true, true, true, true, true, true, true, true, true, true, true, true, true, true, true, true, true, true, true, true, true, true, true, true, true, true, true, true, true, true, true, true, true, true, true, true, true, true, true, true, true, true, false, false, true, false, false, false, false] rfl rfl (any_of HT_.out (by kernel_rfl)) (fun _ _ _ h => h) (Or.inl ⟨by rfl, ?_⟩) ?_ ?_
                                            rotate_left
                                            · intro w'
                                              go_simp
                                              with_reducible rfl
                                            rotate_left
                                            · simp only [Act.put, List.setIfInBounds_toArray, List.set_cons_zero, List.set_cons_succ, i64_w, i32_w]
                                              rfl
                                            exact norm_ (by first | (simp only [putAll, Act.put, List.setIfInBounds_toArray, List.set_cons_zero, List.set_cons_succ]; done) | (simp only [putAll, Act.put, List.setIfInBounds_toArray, List.set_cons_zero, List.set_cons_succ]; rfl)) (hJ18_20 () _ ⟨(by (with_reducible repeat (first | apply Kd.R_alloc | apply Kd.R_drewN | apply Kd.R_drew)); exact HO423.out), (by (with_reducible repeat (first | apply Kd.R_alloc | apply Kd.R_drewN | apply Kd.R_drew)); exact HO426.out), (by (with_reducible repeat (first | apply Kd.R_alloc | apply Kd.R_drewN | apply Kd.R_drew)); exact HO431.out), (by (with_reducible repeat (first | apply Kd.R_alloc | apply Kd.R_drewN | apply Kd.R_drew)); exact HO440.out), (by repeat (first | (with_reducible first | exact HB.out | apply below_alloc | apply pw_below_drewN | apply below_drew1) | exact HB.out))⟩)
                                        · skip
                                          rintro _ w41 ⟨h0_, h1_, h2_, h3_, h4_⟩
                                          have n0_ : Aside0 (Kd.R (Kd.int .u8) 5 w41 w.heap.size (fun k_ => some k_ ≠ (.slice Ao39 t424.length co39 : Value).ownBlock ∧ some k_ ≠ (.slice Ao42 t428.length co42 : Value).ownBlock ∧ some k_ ≠ (v439 : Value).ownBlock) (.slice Ao25 t421.length co25) t421) := ⟨h0_⟩
                                          have n1_ : Aside0 (Kd.R (Kd.int .u8) 5 w41 w.heap.size (fun k_ => some k_ ≠ (.slice Ao25 t421.length co25 : Value).ownBlock ∧ some k_ ≠ (.slice Ao42 t428.length co42 : Value).ownBlock ∧ some k_ ≠ (v439 : Value).ownBlock) (.slice Ao39 t424.length co39) t424) := ⟨h1_⟩
                                          have n2_ : Aside0 (Kd.R (Kd.int .u8) 5 w41 w.heap.size (fun k_ => some k_ ≠ (.slice Ao25 t421.length co25 : Value).ownBlock ∧ some k_ ≠ (.slice Ao39 t424.length co39 : Value).ownBlock ∧ some k_ ≠ (v439 : Value).ownBlock) (.slice Ao42 t428.length co42) t428) := ⟨h2_⟩
                                          have n3_ : Aside0 (Kd.R (Kd.int .u8) 5 w41 w.heap.size (fun k_ => some k_ ≠ (.slice Ao25 t421.length co25 : Value).ownBlock ∧ some k_ ≠ (.slice Ao39 t424.length co39 : Value).ownBlock ∧ some k_ ≠ (.slice Ao42 t428.length co42 : Value).ownBlock) v439 t437) := ⟨h3_⟩
                                          have n4_ : Aside0 (Below w.heap.size w w41) := ⟨h4_⟩
                                          clear HO423
                                          clear HO426
                                          clear HO431
                                          clear HO440
                                          clear HR435
                                          clear HB
                                          clear h0_ h1_ h2_ h3_ h4_
                                          have HO423 := n0_
                                          have HO426 := n1_
                                          have HO431 := n2_
                                          have HO440 := n3_
                                          have HB := n4_
                                          clear n0_ n1_ n2_ n3_ n4_
                                          have hHeld := trivial
                                          obtain ⟨Ao43, co43, eo43⟩ := Kd.R_slice HO431.out
                                          (first | subst eo43 | (injection eo43 with f1_ f2_ f3_; have f4_ := f1_.symm; have f5_ := f3_.symm; clear f1_ f2_ f3_; subst f4_; subst f5_))
                                          refine norm_ (a' := ?_) ?_ ?_
                                          rotate_left
                                          · simp only [putAll, Act.put, List.setIfInBounds_toArray, List.set_cons_zero, List.set_cons_succ]
                                            rfl
                                          refine one_ (i := 20) (N := some 84) #[true, true, true, true, true, true, true, true, true, true, true, true, true, true, true, true, true, true, true, true, true, false, false, false, false, false, false, false, false, false, false, false, false, false, false, false, false, false, false, false, false, false, false, false, false, false, false, false, false, false, false, false] rfl rfl (one_of HT_.out (by kernel_rfl)) (by decide) (fun K hK => ?_)
                                          (first | have hcv42 := own_string (P := Try.prog) Try.underlying39 Try.underlying5 Try.underlying9 (Kd.own_of_R HO426.out) | have hcv42 := Hand.V_string (P := Try.prog) Try.underlying39 Try.underlying5 Try.underlying9 HO426.out)
                                          refine value_ (w1 := ?_) (v := ?_) (by rfl) rfl ?_ ?_
                                          rotate_left 2
                                          · go_simp
                                            constructor
                                            · rfl
                                            · rfl
                                          clear hcv42
                                          refine hK.out _ _ trivial (fun hHeld => ?_)
                                          clear hK K
                                          refine norm_ (a' := ?_) ?_ ?_
                                          rotate_left
                                          · show Act.put _ (some 84) _ = _
                                            simp only [Act.put, List.setIfInBounds_toArray, List.set_cons_zero, List.set_cons_succ, i64_w, i32_w]
                                            rfl
                                          refine pure_ (i := 21) (N := some 85) (v := ?_) (a' := ?_) #[true, true, true, true, true, true, true, true, true, true, true, true, true, true, true, true, true, true, true, true, true, true, false, false, false, false, false, false, false, false, false, false, false, false, false, false, false, false, false, false, false, false, false, false, false, false, false, false, false, false, false, false] rfl rfl (any_of HT_.out (by kernel_rfl)) (fun _ _ _ h => h) (Or.inl ⟨by rfl, ?_⟩) ?_ ?_
                                          rotate_left
                                          · intro w'
                                            go_simp
                                            with_reducible rfl
                                          rotate_left
                                          · simp only [Act.put, List.setIfInBounds_toArray, List.set_cons_zero, List.set_cons_succ, i64_w, i32_w]
                                            rfl
                                          refine pure_ (i := 22) (N := some 86) (v := ?_) (a' := ?_) #[true, true, true, true, true, true, true, true, true, true, true, true, true, true, true, true, true, true, true, true, true, true, true, false, false, false, false, false, false, false, false, false, false, false, false, false, false, false, false, false, false, false, false, false, false, false, false, false, false, false, false, false] rfl rfl (any_of HT_.out (by kernel_rfl)) (fun _ _ _ h => h) (Or.inl ⟨by rfl, ?_⟩) ?_ ?_
                                          rotate_left
                                          · intro w'
                                            go_simp
                                            with_reducible rfl
                                          rotate_left
                                          · simp only [Act.put, List.setIfInBounds_toArray, List.set_cons_zero, List.set_cons_succ, i64_w, i32_w]
                                            rfl
                                          refine pure_ (i := 23) (N := some 87) (v := ?_) (a' := ?_) #[true, true, true, true, true, true, true, true, true, true, true, true, true, true, true, true, true, true, true, true, true, true, true, true, false, false, false, false, false, false, false, false, false, false, false, false, false, false, false, false, false, false, false, false, false, false, false, false, false, false, false, false] rfl rfl (any_of HT_.out (by kernel_rfl)) (fun _ _ _ h => h) (Or.inl ⟨by rfl, ?_⟩) ?_ ?_
                                          rotate_left
                                          · intro w'
                                            go_simp
                                            with_reducible rfl
                                          rotate_left
                                          · simp only [Act.put, List.setIfInBounds_toArray, List.set_cons_zero, List.set_cons_succ, i64_w, i32_w]
                                            rfl
                                          refine pure_ (i := 24) (N := some 88) (v := ?_) (a' := ?_) #[true, true, true, true, true, true, true, true, true, true, true, true, true, true, true, true, true, true, true, true, true, true, true, true, true, false, false, false, false, false, false, false, false, false, false, false, false, false, false, false, false, false, false, false, false, false, false, false, false, false, false, false] rfl rfl (any_of HT_.out (by kernel_rfl)) (fun _ _ _ h => h) (Or.inl ⟨by rfl, ?_⟩) ?_ ?_
                                          rotate_left
                                          · intro w'
                                            go_simp
                                            with_reducible rfl
                                          rotate_left
                                          · simp only [Act.put, List.setIfInBounds_toArray, List.set_cons_zero, List.set_cons_succ, i64_w, i32_w]
                                            rfl
                                          refine pure_ (i := 25) (N := some 89) (v := ?_) (a' := ?_) #[true, true, true, true, true, true, true, true, true, true, true, true, true, true, true, true, true, true, true, true, true, true, true, true, true, true, false, false, false, false, false, false, false, false, false, false, false, false, false, false, false, false, false, false, false, false, false, false, false, false, false, false] rfl rfl (any_of HT_.out (by kernel_rfl)) (fun _ _ _ h => h) (Or.inl ⟨by rfl, ?_⟩) ?_ ?_
                                          rotate_left
                                          · intro w'
                                            go_simp
                                            with_reducible rfl
                                          rotate_left
                                          · simp only [Act.put, List.setIfInBounds_toArray, List.set_cons_zero, List.set_cons_succ, i64_w, i32_w]
                                            rfl
                                          refine pure_ (i := 26) (N := some 90) (v := ?_) (a' := ?_) #[true, true, true, true, true, true, true, true, true, true, true, true, true, true, true, true, true, true, true, true, true, true, true, true, true, true, true, false, false, false, false, false, false, false, false, false, false, false, false, false, false, false, false, false, false, false, false, false, false, false, false, false] rfl rfl (any_of HT_.out (by kernel_rfl)) (fun _ _ _ h => h) (Or.inl ⟨by rfl, ?_⟩) ?_ ?_
                                          rotate_left
                                          · intro w'
                                            go_simp
                                            with_reducible rfl
                                          rotate_left
                                          · simp only [Act.put, List.setIfInBounds_toArray, List.set_cons_zero, List.set_cons_succ, i64_w, i32_w]
                                            rfl
                                          refine pure_ (i := 27) (N := some 91) (v := ?_) (a' := ?_) #[true, true, true, true, true, true, true, true, true, true, true, true, true, true, true, true, true, true, true, true, true, true, true, true, true, true, true, true, false, false, false, false, false, false, false, false, false, false, false, false, false, false, false, false, false, false, false, false, false, false, false, false] rfl rfl (any_of HT_.out (by kernel_rfl)) (fun _ _ _ h => h) (Or.inl ⟨by rfl, ?_⟩) ?_ ?_
                                          rotate_left
                                          · intro w'
                                            go_simp
                                            with_reducible rfl
                                          rotate_left
                                          · simp only [Act.put, List.setIfInBounds_toArray, List.set_cons_zero, List.set_cons_succ, i64_w, i32_w]
                                            rfl
                                          refine pure_ (i := 28) (N := some 92) (v := ?_) (a' := ?_) #[true, true, true, true, true, true, true, true, true, true, true, true, true, true, true, true, true, true, true, true, true, true, true, true, true, true, true, true, true, false, false, false, false, false, false, false, false, false, false, false, false, false, false, false, false, false, false, false, false, false, false, false] rfl rfl (any_of HT_.out (by kernel_rfl)) (fun _ _ _ h => h) (Or.inl ⟨by rfl, ?_⟩) ?_ ?_
                                          rotate_left
                                          · intro w'
                                            go_simp
                                            with_reducible rfl
                                          rotate_left
                                          · simp only [Act.put, List.setIfInBounds_toArray, List.set_cons_zero, List.set_cons_succ, i64_w, i32_w]
                                            rfl
                                          refine pure_ (i := 29) (N := some 93) (v := ?_) (a' := ?_) #[true, true, true, true, true, true, true, true, true, true, true, true, true, true, true, true, true, true, true, true, true, true, true, true, true, true, true, true, true, true, false, false, false, false, false, false, false, false, false, false, false, false, false, false, false, false, false, false, false, false, false, false] rfl rfl (any_of HT_.out (by kernel_rfl)) (fun _ _ _ h => h) (Or.inl ⟨by rfl, ?_⟩) ?_ ?_
                                          rotate_left
                                          · intro w'
                                            go_simp
                                            with_reducible rfl
                                          rotate_left
                                          · simp only [Act.put, List.setIfInBounds_toArray, List.set_cons_zero, List.set_cons_succ, i64_w, i32_w]
                                            rfl
                                          refine pure_ (i := 30) (N := some 94) (v := ?_) (a' := ?_) #[true, true, true, true, true, true, true, true, true, true, true, true, true, true, true, true, true, true, true, true, true, true, true, true, true, true, true, true, true, true, true, false, false, false, false, false, false, false, false, false, false, false, false, false, false, false, false, false, false, false, false, false] rfl rfl (any_of HT_.out (by kernel_rfl)) (fun _ _ _ h => h) (Or.inl ⟨by rfl, ?_⟩) ?_ ?_
                                          rotate_left
                                          · intro w'
                                            go_simp
                                            with_reducible rfl
                                          rotate_left
                                          · simp only [Act.put, List.setIfInBounds_toArray, List.set_cons_zero, List.set_cons_succ, i64_w, i32_w]
                                            rfl
                                          refine pure_ (i := 31) (N := some 95) (v := ?_) (a' := ?_) #[true, true, true, true, true, true, true, true, true, true, true, true, true, true, true, true, true, true, true, true, true, true, true, true, true, true, true, true, true, true, true, true, false, false, false, false, false, false, false, false, false, false, false, false, false, false, false, false, false, false, false, false] rfl rfl (any_of HT_.out (by kernel_rfl)) (fun _ _ _ h => h) (Or.inl ⟨by rfl, ?_⟩) ?_ ?_
                                          rotate_left
                                          · intro w'
                                            go_simp
                                            with_reducible rfl
                                          rotate_left
                                          · simp only [Act.put, List.setIfInBounds_toArray, List.set_cons_zero, List.set_cons_succ, i64_w, i32_w]
                                            rfl
                                          refine pure_ (i := 32) (N := some 96) (v := ?_) (a' := ?_) #[true, true, true, true, true, true, true, true, true, true, true, true, true, true, true, true, true, true, true, true, true, true, true, true, true, true, true, true, true, true, true, true, true, false, false, false, false, false, false, false, false, false, false, false, false, false, false, false, false, false, false, false] rfl rfl (any_of HT_.out (by kernel_rfl)) (fun _ _ _ h => h) (Or.inl ⟨by rfl, ?_⟩) ?_ ?_
                                          rotate_left
                                          · intro w'
                                            go_simp
                                            with_reducible rfl
                                          rotate_left
                                          · simp only [Act.put, List.setIfInBounds_toArray, List.set_cons_zero, List.set_cons_succ, i64_w, i32_w]
                                            rfl
                                          refine pure_ (i := 33) (N := some 97) (v := ?_) (a' := ?_) #[true, true, true, true, true, true, true, true, true, true, true, true, true, true, true, true, true, true, true, true, true, true, true, true, true, true, true, true, true, true, true, true, true, true, false, false, false, false, false, false, false, false, false, false, false, false, false, false, false, false, false, false] rfl rfl (any_of HT_.out (by kernel_rfl)) (fun _ _ _ h => h) (Or.inl ⟨by rfl, ?_⟩) ?_ ?_
                                          rotate_left
                                          · intro w'
                                            go_simp
                                            with_reducible rfl
                                          rotate_left
                                          · simp only [Act.put, List.setIfInBounds_toArray, List.set_cons_zero, List.set_cons_succ, i64_w, i32_w]
                                            rfl
                                          refine pure_ (i := 34) (N := some 98) (v := ?_) (a' := ?_) #[true, true, true, true, true, true, true, true, true, true, true, true, true, true, true, true, true, true, true, true, true, true, true, true, true, true, true, true, true, true, true, true, true, true, true, false, false, false, false, false, false, false, false, false, false, false, false, false, false, false, false, false] rfl rfl (any_of HT_.out (by kernel_rfl)) (fun _ _ _ h => h) (Or.inl ⟨by rfl, ?_⟩) ?_ ?_
                                          rotate_left
                                          · intro w'
                                            go_simp
                                            with_reducible rfl
                                          rotate_left
                                          · simp only [Act.put, List.setIfInBounds_toArray, List.set_cons_zero, List.set_cons_succ, i64_w, i32_w]
                                            rfl
                                          refine pure_ (i := 35) (N := some 99) (v := ?_) (a' := ?_) #[true, true, true, true, true, true, true, true, true, true, true, true, true, true, true, true, true, true, true, true, true, true, true, true, true, true, true, true, true, true, true, true, true, true, true, true, false, false, false, false, false, false, false, false, false, false, false, false, false, false, false, false] rfl rfl (any_of HT_.out (by kernel_rfl)) (fun _ _ _ h => h) (Or.inl ⟨by rfl, ?_⟩) ?_ ?_
                                          rotate_left
                                          · intro w'
                                            go_simp
                                            with_reducible rfl
                                          rotate_left
                                          · simp only [Act.put, List.setIfInBounds_toArray, List.set_cons_zero, List.set_cons_succ, i64_w, i32_w]
                                            rfl
                                          refine pure_ (i := 36) (N := some 100) (v := ?_) (a' := ?_) #[true, true, true, true, true, true, true, true, true, true, true, true, true, true, true, true, true, true, true, true, true, true, true, true, true, true, true, true, true, true, true, true, true, true, true, true, true, false, false, false, false, false, false, false, false, false, false, false, false, false, false, false] rfl rfl (any_of HT_.out (by kernel_rfl)) (fun _ _ _ h => h) (Or.inl ⟨by rfl, ?_⟩) ?_ ?_
                                          rotate_left
                                          · intro w'
                                            go_simp
                                            with_reducible rfl
                                          rotate_left
                                          · simp only [Act.put, List.setIfInBounds_toArray, List.set_cons_zero, List.set_cons_succ, i64_w, i32_w]
                                            rfl
                                          refine pure_ (i := 37) (N := some 101) (v := ?_) (a' := ?_) #[true, true, true, true, true, true, true, true, true, true, true, true, true, true, true, true, true, true, true, true, true, true, true, true, true, true, true, true, true, true, true, true, true, true, true, true, true, true, false, false, false, false, false, false, false, false, false, false, false, false, false, false] rfl rfl (any_of HT_.out (by kernel_rfl)) (fun _ _ _ h => h) (Or.inl ⟨by rfl, ?_⟩) ?_ ?_
                                          rotate_left
                                          · intro w'
                                            go_simp
                                            with_reducible rfl
                                          rotate_left
                                          · simp only [Act.put, List.setIfInBounds_toArray, List.set_cons_zero, List.set_cons_succ, i64_w, i32_w]
                                            rfl
                                          refine pure_ (i := 38) (N := some 102) (v := ?_) (a' := ?_) #[true, true, true, true, true, true, true, true, true, true, true, true, true, true, true, true, true, true, true, true, true, true, true, true, true, true, true, true, true, true, true, true, true, true, true, true, true, true, true, false, false, false, false, false, false, false, false, false, false, false, false, false] rfl rfl (any_of HT_.out (by kernel_rfl)) (fun _ _ _ h => h) (Or.inl ⟨by rfl, ?_⟩) ?_ ?_
                                          rotate_left
                                          · intro w'
                                            go_simp
                                            with_reducible rfl
                                          rotate_left
                                          · simp only [Act.put, List.setIfInBounds_toArray, List.set_cons_zero, List.set_cons_succ, i64_w, i32_w]
                                            rfl
                                          refine pure_ (i := 39) (N := some 103) (v := ?_) (a' := ?_) #[true, true, true, true, true, true, true, true, true, true, true, true, true, true, true, true, true, true, true, true, true, true, true, true, true, true, true, true, true, true, true, true, true, true, true, true, true, true, true, true, false, false, false, false, false, false, false, false, false, false, false, false] rfl rfl (any_of HT_.out (by kernel_rfl)) (fun _ _ _ h => h) (Or.inl ⟨by rfl, ?_⟩) ?_ ?_
                                          rotate_left
                                          · intro w'
                                            go_simp
                                            with_reducible rfl
                                          rotate_left
                                          · simp only [Act.put, List.setIfInBounds_toArray, List.set_cons_zero, List.set_cons_succ, i64_w, i32_w]
                                            rfl
                                          refine pure_ (i := 40) (N := some 104) (v := ?_) (a' := ?_) #[true, true, true, true, true, true, true, true, true, true, true, true, true, true, true, true, true, true, true, true, true, true, true, true, true, true, true, true, true, true, true, true, true, true, true, true, true, true, true, true, true, false, false, false, false, false, false, false, false, false, false, false] rfl rfl (any_of HT_.out (by kernel_rfl)) (fun _ _ _ h => h) (Or.inl ⟨by rfl, ?_⟩) ?_ ?_
                                          rotate_left
                                          · intro w'
                                            go_simp
                                            with_reducible rfl
                                          rotate_left
                                          · simp only [Act.put, List.setIfInBounds_toArray, List.set_cons_zero, List.set_cons_succ, i64_w, i32_w]
                                            rfl
                                          refine pure_ (i := 41) (N := some 105) (v := ?_) (a' := ?_) #[true, true, true, true, true, true, true, true, true, true, true, true, true, true, true, true, true, true, true, true, true, true, true, true, true, true, true, true, true, true, true, true, true, true, true, true, true, true, true, true, true, true, false, false, false, false, false, false, false, false, false, false] rfl rfl (any_of HT_.out (by kernel_rfl)) (fun _ _ _ h => h) (Or.inl ⟨by rfl, ?_⟩) ?_ ?_
                                          rotate_left
                                          · intro w'
                                            go_simp
                                            with_reducible rfl
                                          rotate_left
                                          · simp only [Act.put, List.setIfInBounds_toArray, List.set_cons_zero, List.set_cons_succ, i64_w, i32_w]
                                            rfl
                                          refine pure_ (i := 42) (N := some 106) (v := ?_) (a' := ?_) #[true, true, true, true, true, true, true, true, true, true, true, true, true, true, true, true, true, true, true, true, true, true, true, true, true, true, true, true, true, true, true, true, true, true, true, true, true, true, true, true, true, true, true, false, false, false, false, false, false, false, false, false] rfl rfl (any_of HT_.out (by kernel_rfl)) (fun _ _ _ h => h) (Or.inl ⟨by rfl, ?_⟩) ?_ ?_
                                          rotate_left
                                          · intro w'
                                            go_simp
                                            with_reducible rfl
                                          rotate_left
                                          · simp only [Act.put, List.setIfInBounds_toArray, List.set_cons_zero, List.set_cons_succ, i64_w, i32_w]
                                            rfl
                                          refine pure_ (i := 43) (N := some 107) (v := ?_) (a' := ?_) #[true, true, true, true, true, true, true, true, true, true, true, true, true, true, true, true, true, true, true, true, true, true, true, true, true, true, true, true, true, true, true, true, true, true, true, true, true, true, true, true, true, true, true, true, false, false, false, false, false, false, false, false] rfl rfl (any_of HT_.out (by kernel_rfl)) (fun _ _ _ h => h) (Or.inl ⟨by rfl, ?_⟩) ?_ ?_
                                          rotate_left
                                          · intro w'
                                            go_simp
                                            with_reducible rfl
                                          rotate_left
                                          · simp only [Act.put, List.setIfInBounds_toArray, List.set_cons_zero, List.set_cons_succ, i64_w, i32_w]
                                            rfl
                                          refine pure_ (i := 44) (N := some 108) (v := ?_) (a' := ?_) #[true, true, true, true, true, true, true, true, true, true, true, true, true, true, true, true, true, true, true, true, true, true, true, true, true, true, true, true, true, true, true, true, true, true, true, true, true, true, true, true, true, true, true, true, true, false, false, false, false, false, false, false] rfl rfl (any_of HT_.out (by kernel_rfl)) (fun _ _ _ h => h) (Or.inl ⟨by rfl, ?_⟩) ?_ ?_
                                          rotate_left
                                          · intro w'
                                            go_simp
                                            with_reducible rfl
                                          rotate_left
                                          · simp only [Act.put, List.setIfInBounds_toArray, List.set_cons_zero, List.set_cons_succ, i64_w, i32_w]
                                            rfl
                                          refine pure_ (i := 47) (N := some 111) (v := ?_) (a' := ?_) #[true, true, true, true, true, true, true, true, true, true, true, true, true, true, true, true, true, true, true, true, true, true, true, true, true, true, true, true, true, true, true, true, true, true, true, true, true, true, true, true, true, true, true, true, true, false, false, true, false, false, false, false] rfl rfl (any_of HT_.out (by kernel_rfl)) (fun _ _ _ h => h) (Or.inl ⟨by rfl, ?_⟩) ?_ ?_
                                          rotate_left
                                          · intro w'
                                            go_simp
                                            with_reducible rfl
                                          rotate_left
                                          · simp only [Act.put, List.setIfInBounds_toArray, List.set_cons_zero, List.set_cons_succ, i64_w, i32_w]
                                            rfl
                                          exact norm_ (by first | (simp only [putAll, Act.put, List.setIfInBounds_toArray, List.set_cons_zero, List.set_cons_succ]; done) | (simp only [putAll, Act.put, List.setIfInBounds_toArray, List.set_cons_zero, List.set_cons_succ]; rfl)) (hJ18_20 () _ ⟨(by (with_reducible repeat (first | apply Kd.R_alloc | apply Kd.R_drewN | apply Kd.R_drew)); exact HO423.out), (by (with_reducible repeat (first | apply Kd.R_alloc | apply Kd.R_drewN | apply Kd.R_drew)); exact HO426.out), (by (with_reducible repeat (first | apply Kd.R_alloc | apply Kd.R_drewN | apply Kd.R_drew)); exact HO431.out), (by (with_reducible repeat (first | apply Kd.R_alloc | apply Kd.R_drewN | apply Kd.R_drew)); exact HO440.out), (by repeat (first | (with_reducible first | exact HB.out | apply below_alloc | apply pw_below_drewN | apply below_drew1) | exact HB.out))⟩)
                                      · skip
                                        rintro _ w43 ⟨h0_, h1_, h2_, h3_, h4_⟩
                                        have n0_ : Aside0 (Kd.R (Kd.int .u8) 5 w43 w.heap.size (fun k_ => some k_ ≠ (.slice Ao39 t424.length co39 : Value).ownBlock ∧ some k_ ≠ (.slice Ao42 t428.length co42 : Value).ownBlock ∧ some k_ ≠ (v439 : Value).ownBlock) (.slice Ao25 t421.length co25) t421) := ⟨h0_⟩
                                        have n1_ : Aside0 (Kd.R (Kd.int .u8) 5 w43 w.heap.size (fun k_ => some k_ ≠ (.slice Ao25 t421.length co25 : Value).ownBlock ∧ some k_ ≠ (.slice Ao42 t428.length co42 : Value).ownBlock ∧ some k_ ≠ (v439 : Value).ownBlock) (.slice Ao39 t424.length co39) t424) := ⟨h1_⟩
                                        have n2_ : Aside0 (Kd.R (Kd.int .u8) 5 w43 w.heap.size (fun k_ => some k_ ≠ (.slice Ao25 t421.length co25 : Value).ownBlock ∧ some k_ ≠ (.slice Ao39 t424.length co39 : Value).ownBlock ∧ some k_ ≠ (v439 : Value).ownBlock) (.slice Ao42 t428.length co42) t428) := ⟨h2_⟩
                                        have n3_ : Aside0 (Kd.R (Kd.int .u8) 5 w43 w.heap.size (fun k_ => some k_ ≠ (.slice Ao25 t421.length co25 : Value).ownBlock ∧ some k_ ≠ (.slice Ao39 t424.length co39 : Value).ownBlock ∧ some k_ ≠ (.slice Ao42 t428.length co42 : Value).ownBlock) v439 t437) := ⟨h3_⟩
                                        have n4_ : Aside0 (Below w.heap.size w w43) := ⟨h4_⟩
                                        clear HO423
                                        clear HO426
                                        clear HO431
                                        clear HO440
                                        clear HR435
                                        clear HB
                                        clear h0_ h1_ h2_ h3_ h4_
                                        have HO423 := n0_
                                        have HO426 := n1_
                                        have HO431 := n2_
                                        have HO440 := n3_
                                        have HB := n4_
                                        clear n0_ n1_ n2_ n3_ n4_
                                        have hHeld := trivial
                                        refine norm_ (a' := ?_) ?_ ?_
                                        rotate_left
                                        · simp only [putAll, Act.put, List.setIfInBounds_toArray, List.set_cons_zero, List.set_cons_succ]
                                          rfl
                                        refine two_ (i := 45) (j := 48) (Ni := some 109) (Nj := some 112) #[true, true, true, true, true, true, true, true, true, true, true, true, true, true, true, true, true, true, true, true, true, true, true, true, true, true, true, true, true, true, true, true, true, true, true, true, true, true, true, true, true, true, true, true, true, true, false, true, false, false, false, false] #[true, true, true, true, true, true, true, true, true, true, true, true, true, true, true, true, true, true, true, true, true, true, true, true, true, true, true, true, true, true, true, true, true, true, true, true, true, true, true, true, true, true, true, true, true, false, false, true, true, false, false, false] rfl rfl rfl rfl (two_of HT_.out (by kernel_rfl)) (by decide) (by decide) (fun K hK => ?_) (fun K hK => ?_)
                                        · skip
                                          refine goes_ Try.func36 (by kernel_rfl) rfl #[.slice none 0 0, .int .u64 a0, .int .i64 (wrap64 ((wrap64 (Int.tmod a2 8)) + 1))] (by rfl) rfl rfl (by (try simp only [List.map_toArray, List.map_cons, List.map_nil]); first | done | rfl | (simp only [List.length_drop, List.length_take]; rfl)) ?_
                                          refine (vary_Fix.calls kj4 _ _ ([] : List Int) a0 (wrap64 ((wrap64 (Int.tmod a2 8)) + 1)) t441 _ ?side1 ?side2 A37.out).mono ?_
                                          (case side1 => exact Kd.C_nil _ _)
                                          (case side2 => exact Nat.le_refl _)
                                          rintro e w44 ⟨v442, rfl, ho0, hb⟩
                                          refine ⟨_, rfl, ?_⟩
                                          have n0_ := Aside0.mk (Kd.R_elder' (by (with_reducible repeat (first | apply Kd.R_alloc | apply Kd.R_drewN | apply Kd.R_drew)); exact HO423.out) (Kd.R_base ho0) hb)
                                          have n1_ := Aside0.mk (Kd.R_elder' (by (with_reducible repeat (first | apply Kd.R_alloc | apply Kd.R_drewN | apply Kd.R_drew)); exact HO426.out) (Kd.R_base ho0) hb)
                                          have n2_ := Aside0.mk (Kd.R_elder' (by (with_reducible repeat (first | apply Kd.R_alloc | apply Kd.R_drewN | apply Kd.R_drew)); exact HO431.out) (Kd.R_base ho0) hb)
                                          have n3_ := Aside0.mk (Kd.R_elder' (by (with_reducible repeat (first | apply Kd.R_alloc | apply Kd.R_drewN | apply Kd.R_drew)); exact HO440.out) (Kd.R_base ho0) hb)
                                          have n4_ := Aside0.mk (Kd.R_lower (Kd.R_new' (Kd.R_new' (Kd.R_new' (Kd.R_new' ho0 (Kd.R_lt (by (with_reducible repeat (first | apply Kd.R_alloc | apply Kd.R_drewN | apply Kd.R_drew)); exact HO423.out))) (Kd.R_lt (by (with_reducible repeat (first | apply Kd.R_alloc | apply Kd.R_drewN | apply Kd.R_drew)); exact HO426.out))) (Kd.R_lt (by (with_reducible repeat (first | apply Kd.R_alloc | apply Kd.R_drewN | apply Kd.R_drew)); exact HO431.out))) (Kd.R_lt (by (with_reducible repeat (first | apply Kd.R_alloc | apply Kd.R_drewN | apply Kd.R_drew)); exact HO440.out))) (below_size (by repeat (first | (with_reducible first | exact HB.out | apply below_alloc | apply pw_below_drewN | apply below_drew1) | exact HB.out))))
                                          have n5_ := Aside0.mk (below_step (by repeat (first | (with_reducible first | exact HB.out | apply below_alloc | apply pw_below_drewN | apply below_drew1) | exact HB.out)) hb)
                                          clear HO423
                                          clear HO426
                                          clear HO431
                                          clear HO440
                                          clear HB
                                          have HO423 := n0_
                                          have HO426 := n1_
                                          have HO431 := n2_
                                          have HO440 := n3_
                                          have HO443 := n4_
                                          have HB := n5_
                                          clear n0_ n1_ n2_ n3_ n4_ n5_
                                          (try clear hb)
                                          (try clear hb2)
                                          (try clear hk)
                                          (try clear hi)
                                          (try clear ho0)
                                          refine hK.out _ _ trivial (fun hHeld => ?_)
                                          clear hK K
                                          refine norm_ (a' := ?_) ?_ ?_
                                          rotate_left
                                          · show Act.put _ (some 109) _ = _
                                            simp only [Act.put, List.setIfInBounds_toArray, List.set_cons_zero, List.set_cons_succ, i64_w, i32_w]
                                            rfl
                                          exact norm_ (by first | (simp only [putAll, Act.put, List.setIfInBounds_toArray, List.set_cons_zero, List.set_cons_succ]; done) | (simp only [putAll, Act.put, List.setIfInBounds_toArray, List.set_cons_zero, List.set_cons_succ]; rfl)) (hJ18_20_45 (v442) _ ⟨(by (with_reducible repeat (first | apply Kd.R_alloc | apply Kd.R_drewN | apply Kd.R_drew)); exact Kd.R_mono HO423.out (fun _ hk => ⟨hk.1.1, ⟨hk.1.2.1, ⟨hk.1.2.2, hk.2⟩⟩⟩)), (by (with_reducible repeat (first | apply Kd.R_alloc | apply Kd.R_drewN | apply Kd.R_drew)); exact Kd.R_mono HO426.out (fun _ hk => ⟨hk.1.1, ⟨hk.1.2.1, ⟨hk.1.2.2, hk.2⟩⟩⟩)), (by (with_reducible repeat (first | apply Kd.R_alloc | apply Kd.R_drewN | apply Kd.R_drew)); exact Kd.R_mono HO431.out (fun _ hk => ⟨hk.1.1, ⟨hk.1.2.1, ⟨hk.1.2.2, hk.2⟩⟩⟩)), (by (with_reducible repeat (first | apply Kd.R_alloc | apply Kd.R_drewN | apply Kd.R_drew)); exact Kd.R_mono HO440.out (fun _ hk => ⟨hk.1.1, ⟨hk.1.2.1, ⟨hk.1.2.2, hk.2⟩⟩⟩)), (by (with_reducible repeat (first | apply Kd.R_alloc | apply Kd.R_drewN | apply Kd.R_drew)); exact Kd.R_mono HO443.out (fun _ hk => ⟨hk.1.1.1.2, ⟨hk.1.1.2, ⟨hk.1.2, hk.2⟩⟩⟩)), (by repeat (first | (with_reducible first | exact HB.out | apply below_alloc | apply pw_below_drewN | apply below_drew1) | exact HB.out))⟩)
                                        · skip
                                          (first | have hcv44 := own_string (P := Try.prog) Try.underlying39 Try.underlying5 Try.underlying9 (Kd.own_of_R HO423.out) | have hcv44 := Hand.V_string (P := Try.prog) Try.underlying39 Try.underlying5 Try.underlying9 HO423.out)
                                          refine value_ (w1 := ?_) (v := ?_) (by rfl) rfl ?_ ?_
                                          rotate_left 2
                                          · go_simp
                                            constructor
                                            · rfl
                                            · rfl
                                          clear hcv44
                                          refine hK.out _ _ trivial (fun hHeld => ?_)
                                          clear hK K
                                          refine norm_ (a' := ?_) ?_ ?_
                                          rotate_left
                                          · show Act.put _ (some 112) _ = _
                                            simp only [Act.put, List.setIfInBounds_toArray, List.set_cons_zero, List.set_cons_succ, i64_w, i32_w]
                                            rfl
                                          exact norm_ (by first | (simp only [putAll, Act.put, List.setIfInBounds_toArray, List.set_cons_zero, List.set_cons_succ]; done) | (simp only [putAll, Act.put, List.setIfInBounds_toArray, List.set_cons_zero, List.set_cons_succ]; rfl)) (hJ18_20_48 () _ ⟨(by (with_reducible repeat (first | apply Kd.R_alloc | apply Kd.R_drewN | apply Kd.R_drew)); exact HO423.out), (by (with_reducible repeat (first | apply Kd.R_alloc | apply Kd.R_drewN | apply Kd.R_drew)); exact HO426.out), (by (with_reducible repeat (first | apply Kd.R_alloc | apply Kd.R_drewN | apply Kd.R_drew)); exact HO431.out), (by (with_reducible repeat (first | apply Kd.R_alloc | apply Kd.R_drewN | apply Kd.R_drew)); exact HO440.out), (by repeat (first | (with_reducible first | exact HB.out | apply below_alloc | apply pw_below_drewN | apply below_drew1) | exact HB.out))⟩)
                                    · skip
                                      rintro _ w44 ⟨h0_, h1_, h2_, h3_, h4_⟩
                                      have n0_ : Aside0 (Kd.R (Kd.int .u8) 5 w44 w.heap.size (fun k_ => some k_ ≠ (.slice Ao39 t424.length co39 : Value).ownBlock ∧ some k_ ≠ (.slice Ao42 t428.length co42 : Value).ownBlock ∧ some k_ ≠ (v439 : Value).ownBlock) (.slice Ao25 t421.length co25) t421) := ⟨h0_⟩
                                      have n1_ : Aside0 (Kd.R (Kd.int .u8) 5 w44 w.heap.size (fun k_ => some k_ ≠ (.slice Ao25 t421.length co25 : Value).ownBlock ∧ some k_ ≠ (.slice Ao42 t428.length co42 : Value).ownBlock ∧ some k_ ≠ (v439 : Value).ownBlock) (.slice Ao39 t424.length co39) t424) := ⟨h1_⟩
                                      have n2_ : Aside0 (Kd.R (Kd.int .u8) 5 w44 w.heap.size (fun k_ => some k_ ≠ (.slice Ao25 t421.length co25 : Value).ownBlock ∧ some k_ ≠ (.slice Ao39 t424.length co39 : Value).ownBlock ∧ some k_ ≠ (v439 : Value).ownBlock) (.slice Ao42 t428.length co42) t428) := ⟨h2_⟩
                                      have n3_ : Aside0 (Kd.R (Kd.int .u8) 5 w44 w.heap.size (fun k_ => some k_ ≠ (.slice Ao25 t421.length co25 : Value).ownBlock ∧ some k_ ≠ (.slice Ao39 t424.length co39 : Value).ownBlock ∧ some k_ ≠ (.slice Ao42 t428.length co42 : Value).ownBlock) v439 t437) := ⟨h3_⟩
                                      have n4_ : Aside0 (Below w.heap.size w w44) := ⟨h4_⟩
                                      clear HO423
                                      clear HO426
                                      clear HO431
                                      clear HO440
                                      clear HR435
                                      clear HB
                                      clear h0_ h1_ h2_ h3_ h4_
                                      have HO423 := n0_
                                      have HO426 := n1_
                                      have HO431 := n2_
                                      have HO440 := n3_
                                      have HB := n4_
                                      clear n0_ n1_ n2_ n3_ n4_
                                      have hHeld := trivial
                                      refine norm_ (a' := ?_) ?_ ?_
                                      rotate_left
                                      · simp only [putAll, Act.put, List.setIfInBounds_toArray, List.set_cons_zero, List.set_cons_succ]
                                        rfl
                                      refine one_ (i := 45) (N := some 109) #[true, true, true, true, true, true, true, true, true, true, true, true, true, true, true, true, true, true, true, true, true, true, true, true, true, true, true, true, true, true, true, true, true, true, true, true, true, true, true, true, true, true, true, true, true, true, false, true, true, false, false, false] rfl rfl (one_of HT_.out (by kernel_rfl)) (by decide) (fun K hK => ?_)
                                      refine goes_ Try.func36 (by kernel_rfl) rfl #[.slice none 0 0, .int .u64 a0, .int .i64 (wrap64 ((wrap64 (Int.tmod a2 8)) + 1))] (by rfl) rfl rfl (by (try simp only [List.map_toArray, List.map_cons, List.map_nil]); first | done | rfl | (simp only [List.length_drop, List.length_take]; rfl)) ?_
                                      refine (vary_Fix.calls kj4 _ _ ([] : List Int) a0 (wrap64 ((wrap64 (Int.tmod a2 8)) + 1)) t441 _ ?side1 ?side2 A37.out).mono ?_
                                      (case side1 => exact Kd.C_nil _ _)
                                      (case side2 => exact Nat.le_refl _)
                                      rintro e w45 ⟨v442, rfl, ho0, hb⟩
                                      refine ⟨_, rfl, ?_⟩
                                      have n0_ := Aside0.mk (Kd.R_elder' (by (with_reducible repeat (first | apply Kd.R_alloc | apply Kd.R_drewN | apply Kd.R_drew)); exact HO423.out) (Kd.R_base ho0) hb)
                                      have n1_ := Aside0.mk (Kd.R_elder' (by (with_reducible repeat (first | apply Kd.R_alloc | apply Kd.R_drewN | apply Kd.R_drew)); exact HO426.out) (Kd.R_base ho0) hb)
                                      have n2_ := Aside0.mk (Kd.R_elder' (by (with_reducible repeat (first | apply Kd.R_alloc | apply Kd.R_drewN | apply Kd.R_drew)); exact HO431.out) (Kd.R_base ho0) hb)
                                      have n3_ := Aside0.mk (Kd.R_elder' (by (with_reducible repeat (first | apply Kd.R_alloc | apply Kd.R_drewN | apply Kd.R_drew)); exact HO440.out) (Kd.R_base ho0) hb)
                                      have n4_ := Aside0.mk (Kd.R_lower (Kd.R_new' (Kd.R_new' (Kd.R_new' (Kd.R_new' ho0 (Kd.R_lt (by (with_reducible repeat (first | apply Kd.R_alloc | apply Kd.R_drewN | apply Kd.R_drew)); exact HO423.out))) (Kd.R_lt (by (with_reducible repeat (first | apply Kd.R_alloc | apply Kd.R_drewN | apply Kd.R_drew)); exact HO426.out))) (Kd.R_lt (by (with_reducible repeat (first | apply Kd.R_alloc | apply Kd.R_drewN | apply Kd.R_drew)); exact HO431.out))) (Kd.R_lt (by (with_reducible repeat (first | apply Kd.R_alloc | apply Kd.R_drewN | apply Kd.R_drew)); exact HO440.out))) (below_size (by repeat (first | (with_reducible first | exact HB.out | apply below_alloc | apply pw_below_drewN | apply below_drew1) | exact HB.out))))
                                      have n5_ := Aside0.mk (below_step (by repeat (first | (with_reducible first | exact HB.out | apply below_alloc | apply pw_below_drewN | apply below_drew1) | exact HB.out)) hb)
                                      clear HO423
                                      clear HO426
                                      clear HO431
                                      clear HO440
                                      clear HB
                                      have HO423 := n0_
                                      have HO426 := n1_
                                      have HO431 := n2_
                                      have HO440 := n3_
                                      have HO443 := n4_
                                      have HB := n5_
                                      clear n0_ n1_ n2_ n3_ n4_ n5_
                                      (try clear hb)
                                      (try clear hb2)
                                      (try clear hk)
                                      (try clear hi)
                                      (try clear ho0)
                                      refine hK.out _ _ trivial (fun hHeld => ?_)
                                      clear hK K
                                      refine norm_ (a' := ?_) ?_ ?_
                                      rotate_left
                                      · show Act.put _ (some 109) _ = _
                                        simp only [Act.put, List.setIfInBounds_toArray, List.set_cons_zero, List.set_cons_succ, i64_w, i32_w]
                                        rfl
                                      exact norm_ (by first | (simp only [putAll, Act.put, List.setIfInBounds_toArray, List.set_cons_zero, List.set_cons_succ]; done) | (simp only [putAll, Act.put, List.setIfInBounds_toArray, List.set_cons_zero, List.set_cons_succ]; rfl)) (hJ18_20_45_48 (v442) _ ⟨(by (with_reducible repeat (first | apply Kd.R_alloc | apply Kd.R_drewN | apply Kd.R_drew)); exact Kd.R_mono HO423.out (fun _ hk => ⟨hk.1.1, ⟨hk.1.2.1, ⟨hk.1.2.2, hk.2⟩⟩⟩)), (by (with_reducible repeat (first | apply Kd.R_alloc | apply Kd.R_drewN | apply Kd.R_drew)); exact Kd.R_mono HO426.out (fun _ hk => ⟨hk.1.1, ⟨hk.1.2.1, ⟨hk.1.2.2, hk.2⟩⟩⟩)), (by (with_reducible repeat (first | apply Kd.R_alloc | apply Kd.R_drewN | apply Kd.R_drew)); exact Kd.R_mono HO431.out (fun _ hk => ⟨hk.1.1, ⟨hk.1.2.1, ⟨hk.1.2.2, hk.2⟩⟩⟩)), (by (with_reducible repeat (first | apply Kd.R_alloc | apply Kd.R_drewN | apply Kd.R_drew)); exact Kd.R_mono HO440.out (fun _ hk => ⟨hk.1.1, ⟨hk.1.2.1, ⟨hk.1.2.2, hk.2⟩⟩⟩)), (by (with_reducible repeat (first | apply Kd.R_alloc | apply Kd.R_drewN | apply Kd.R_drew)); exact Kd.R_mono HO443.out (fun _ hk => ⟨hk.1.1.1.2, ⟨hk.1.1.2, ⟨hk.1.2, hk.2⟩⟩⟩)), (by repeat (first | (with_reducible first | exact HB.out | apply below_alloc | apply pw_below_drewN | apply below_drew1) | exact HB.out))⟩)
                                  · skip
                                    rintro v442 w44 ⟨h0_, h1_, h2_, h3_, h4_, h5_⟩
                                    have n0_ : Aside0 (Kd.R (Kd.int .u8) 5 w44 w.heap.size (fun k_ => some k_ ≠ (.slice Ao39 t424.length co39 : Value).ownBlock ∧ some k_ ≠ (.slice Ao42 t428.length co42 : Value).ownBlock ∧ some k_ ≠ (v439 : Value).ownBlock ∧ some k_ ≠ (v442 : Value).ownBlock) (.slice Ao25 t421.length co25) t421) := ⟨h0_⟩
                                    have n1_ : Aside0 (Kd.R (Kd.int .u8) 5 w44 w.heap.size (fun k_ => some k_ ≠ (.slice Ao25 t421.length co25 : Value).ownBlock ∧ some k_ ≠ (.slice Ao42 t428.length co42 : Value).ownBlock ∧ some k_ ≠ (v439 : Value).ownBlock ∧ some k_ ≠ (v442 : Value).ownBlock) (.slice Ao39 t424.length co39) t424) := ⟨h1_⟩
                                    have n2_ : Aside0 (Kd.R (Kd.int .u8) 5 w44 w.heap.size (fun k_ => some k_ ≠ (.slice Ao25 t421.length co25 : Value).ownBlock ∧ some k_ ≠ (.slice Ao39 t424.length co39 : Value).ownBlock ∧ some k_ ≠ (v439 : Value).ownBlock ∧ some k_ ≠ (v442 : Value).ownBlock) (.slice Ao42 t428.length co42) t428) := ⟨h2_⟩
                                    have n3_ : Aside0 (Kd.R (Kd.int .u8) 5 w44 w.heap.size (fun k_ => some k_ ≠ (.slice Ao25 t421.length co25 : Value).ownBlock ∧ some k_ ≠ (.slice Ao39 t424.length co39 : Value).ownBlock ∧ some k_ ≠ (.slice Ao42 t428.length co42 : Value).ownBlock ∧ some k_ ≠ (v442 : Value).ownBlock) v439 t437) := ⟨h3_⟩
                                    have n4_ : Aside0 (Kd.R (Kd.int .u8) 5 w44 w.heap.size (fun k_ => some k_ ≠ (.slice Ao25 t421.length co25 : Value).ownBlock ∧ some k_ ≠ (.slice Ao39 t424.length co39 : Value).ownBlock ∧ some k_ ≠ (.slice Ao42 t428.length co42 : Value).ownBlock ∧ some k_ ≠ (v439 : Value).ownBlock) v442 t441) := ⟨h4_⟩
                                    have n5_ : Aside0 (Below w.heap.size w w44) := ⟨h5_⟩
                                    clear HO423
                                    clear HO426
                                    clear HO431
                                    clear HO440
                                    clear HR435
                                    clear HB
                                    clear h0_ h1_ h2_ h3_ h4_ h5_
                                    have HO423 := n0_
                                    have HO426 := n1_
                                    have HO431 := n2_
                                    have HO440 := n3_
                                    have HO443 := n4_
                                    have HB := n5_
                                    clear n0_ n1_ n2_ n3_ n4_ n5_
                                    have hHeld := trivial
                                    refine norm_ (a' := ?_) ?_ ?_
                                    rotate_left
                                    · simp only [putAll, Act.put, List.setIfInBounds_toArray, List.set_cons_zero, List.set_cons_succ]
                                      rfl
                                    refine two_ (i := 46) (j := 48) (Ni := some 110) (Nj := some 112) #[true, true, true, true, true, true, true, true, true, true, true, true, true, true, true, true, true, true, true, true, true, true, true, true, true, true, true, true, true, true, true, true, true, true, true, true, true, true, true, true, true, true, true, true, true, true, true, true, false, false, false, false] #[true, true, true, true, true, true, true, true, true, true, true, true, true, true, true, true, true, true, true, true, true, true, true, true, true, true, true, true, true, true, true, true, true, true, true, true, true, true, true, true, true, true, true, true, true, true, false, true, true, false, false, false] rfl rfl rfl rfl (two_of HT_.out (by kernel_rfl)) (by decide) (by decide) (fun K hK => ?_) (fun K hK => ?_)
                                    · skip
                                      (first | have hcv45 := own_string (P := Try.prog) Try.underlying39 Try.underlying5 Try.underlying9 (Kd.own_of_R HO443.out) | have hcv45 := Hand.V_string (P := Try.prog) Try.underlying39 Try.underlying5 Try.underlying9 HO443.out)
                                      refine value_ (w1 := ?_) (v := ?_) (by rfl) rfl ?_ ?_
                                      rotate_left 2
                                      · go_simp
                                        constructor
                                        · rfl
                                        · rfl
                                      clear hcv45
                                      refine hK.out _ _ trivial (fun hHeld => ?_)
                                      clear hK K
                                      refine norm_ (a' := ?_) ?_ ?_
                                      rotate_left
                                      · show Act.put _ (some 110) _ = _
                                        simp only [Act.put, List.setIfInBounds_toArray, List.set_cons_zero, List.set_cons_succ, i64_w, i32_w]
                                        rfl
                                      exact norm_ (by first | (simp only [putAll, Act.put, List.setIfInBounds_toArray, List.set_cons_zero, List.set_cons_succ]; done) | (simp only [putAll, Act.put, List.setIfInBounds_toArray, List.set_cons_zero, List.set_cons_succ]; rfl)) (hJ18_20_45_46 (v442) _ ⟨(by (with_reducible repeat (first | apply Kd.R_alloc | apply Kd.R_drewN | apply Kd.R_drew)); exact HO423.out), (by (with_reducible repeat (first | apply Kd.R_alloc | apply Kd.R_drewN | apply Kd.R_drew)); exact HO426.out), (by (with_reducible repeat (first | apply Kd.R_alloc | apply Kd.R_drewN | apply Kd.R_drew)); exact HO431.out), (by (with_reducible repeat (first | apply Kd.R_alloc | apply Kd.R_drewN | apply Kd.R_drew)); exact HO440.out), (by (with_reducible repeat (first | apply Kd.R_alloc | apply Kd.R_drewN | apply Kd.R_drew)); exact HO443.out), (by repeat (first | (with_reducible first | exact HB.out | apply below_alloc | apply pw_below_drewN | apply below_drew1) | exact HB.out))⟩)
                                    · skip
                                      (first | have hcv45 := own_string (P := Try.prog) Try.underlying39 Try.underlying5 Try.underlying9 (Kd.own_of_R HO423.out) | have hcv45 := Hand.V_string (P := Try.prog) Try.underlying39 Try.underlying5 Try.underlying9 HO423.out)
                                      refine value_ (w1 := ?_) (v := ?_) (by rfl) rfl ?_ ?_
                                      rotate_left 2
                                      · go_simp
                                        constructor
                                        · rfl
                                        · rfl
                                      clear hcv45
                                      refine hK.out _ _ trivial (fun hHeld => ?_)
                                      clear hK K
                                      refine norm_ (a' := ?_) ?_ ?_
                                      rotate_left
                                      · show Act.put _ (some 112) _ = _
                                        simp only [Act.put, List.setIfInBounds_toArray, List.set_cons_zero, List.set_cons_succ, i64_w, i32_w]
                                        rfl
                                      exact norm_ (by first | (simp only [putAll, Act.put, List.setIfInBounds_toArray, List.set_cons_zero, List.set_cons_succ]; done) | (simp only [putAll, Act.put, List.setIfInBounds_toArray, List.set_cons_zero, List.set_cons_succ]; rfl)) (hJ18_20_45_48 (v442) _ ⟨(by (with_reducible repeat (first | apply Kd.R_alloc | apply Kd.R_drewN | apply Kd.R_drew)); exact HO423.out), (by (with_reducible repeat (first | apply Kd.R_alloc | apply Kd.R_drewN | apply Kd.R_drew)); exact HO426.out), (by (with_reducible repeat (first | apply Kd.R_alloc | apply Kd.R_drewN | apply Kd.R_drew)); exact HO431.out), (by (with_reducible repeat (first | apply Kd.R_alloc | apply Kd.R_drewN | apply Kd.R_drew)); exact HO440.out), (by (with_reducible repeat (first | apply Kd.R_alloc | apply Kd.R_drewN | apply Kd.R_drew)); exact HO443.out), (by repeat (first | (with_reducible first | exact HB.out | apply below_alloc | apply pw_below_drewN | apply below_drew1) | exact HB.out))⟩)
                                · skip
                                  rintro v442 w45 ⟨h0_, h1_, h2_, h3_, h4_, h5_⟩
                                  have n0_ : Aside0 (Kd.R (Kd.int .u8) 5 w45 w.heap.size (fun k_ => some k_ ≠ (.slice Ao39 t424.length co39 : Value).ownBlock ∧ some k_ ≠ (.slice Ao42 t428.length co42 : Value).ownBlock ∧ some k_ ≠ (v439 : Value).ownBlock ∧ some k_ ≠ (v442 : Value).ownBlock) (.slice Ao25 t421.length co25) t421) := ⟨h0_⟩
                                  have n1_ : Aside0 (Kd.R (Kd.int .u8) 5 w45 w.heap.size (fun k_ => some k_ ≠ (.slice Ao25 t421.length co25 : Value).ownBlock ∧ some k_ ≠ (.slice Ao42 t428.length co42 : Value).ownBlock ∧ some k_ ≠ (v439 : Value).ownBlock ∧ some k_ ≠ (v442 : Value).ownBlock) (.slice Ao39 t424.length co39) t424) := ⟨h1_⟩
                                  have n2_ : Aside0 (Kd.R (Kd.int .u8) 5 w45 w.heap.size (fun k_ => some k_ ≠ (.slice Ao25 t421.length co25 : Value).ownBlock ∧ some k_ ≠ (.slice Ao39 t424.length co39 : Value).ownBlock ∧ some k_ ≠ (v439 : Value).ownBlock ∧ some k_ ≠ (v442 : Value).ownBlock) (.slice Ao42 t428.length co42) t428) := ⟨h2_⟩
                                  have n3_ : Aside0 (Kd.R (Kd.int .u8) 5 w45 w.heap.size (fun k_ => some k_ ≠ (.slice Ao25 t421.length co25 : Value).ownBlock ∧ some k_ ≠ (.slice Ao39 t424.length co39 : Value).ownBlock ∧ some k_ ≠ (.slice Ao42 t428.length co42 : Value).ownBlock ∧ some k_ ≠ (v442 : Value).ownBlock) v439 t437) := ⟨h3_⟩
                                  have n4_ : Aside0 (Kd.R (Kd.int .u8) 5 w45 w.heap.size (fun k_ => some k_ ≠ (.slice Ao25 t421.length co25 : Value).ownBlock ∧ some k_ ≠ (.slice Ao39 t424.length co39 : Value).ownBlock ∧ some k_ ≠ (.slice Ao42 t428.length co42 : Value).ownBlock ∧ some k_ ≠ (v439 : Value).ownBlock) v442 t441) := ⟨h4_⟩
                                  have n5_ : Aside0 (Below w.heap.size w w45) := ⟨h5_⟩
                                  clear HO423
                                  clear HO426
                                  clear HO431
                                  clear HO440
                                  clear HR435
                                  clear HB
                                  clear h0_ h1_ h2_ h3_ h4_ h5_
                                  have HO423 := n0_
                                  have HO426 := n1_
                                  have HO431 := n2_
                                  have HO440 := n3_
                                  have HO443 := n4_
                                  have HB := n5_
                                  clear n0_ n1_ n2_ n3_ n4_ n5_
                                  have hHeld := trivial
                                  refine norm_ (a' := ?_) ?_ ?_
                                  rotate_left
                                  · simp only [putAll, Act.put, List.setIfInBounds_toArray, List.set_cons_zero, List.set_cons_succ]
                                    rfl
                                  refine one_ (i := 46) (N := some 110) #[true, true, true, true, true, true, true, true, true, true, true, true, true, true, true, true, true, true, true, true, true, true, true, true, true, true, true, true, true, true, true, true, true, true, true, true, true, true, true, true, true, true, true, true, true, true, true, true, true, false, false, false] rfl rfl (one_of HT_.out (by kernel_rfl)) (by decide) (fun K hK => ?_)
                                  (first | have hcv46 := own_string (P := Try.prog) Try.underlying39 Try.underlying5 Try.underlying9 (Kd.own_of_R HO443.out) | have hcv46 := Hand.V_string (P := Try.prog) Try.underlying39 Try.underlying5 Try.underlying9 HO443.out)
                                  refine value_ (w1 := ?_) (v := ?_) (by rfl) rfl ?_ ?_
                                  rotate_left 2
                                  · go_simp
                                    constructor
                                    · rfl
                                    · rfl
                                  clear hcv46
                                  refine hK.out _ _ trivial (fun hHeld => ?_)
                                  clear hK K
                                  refine norm_ (a' := ?_) ?_ ?_
                                  rotate_left
                                  · show Act.put _ (some 110) _ = _
                                    simp only [Act.put, List.setIfInBounds_toArray, List.set_cons_zero, List.set_cons_succ, i64_w, i32_w]
                                    rfl
                                  exact norm_ (by first | (simp only [putAll, Act.put, List.setIfInBounds_toArray, List.set_cons_zero, List.set_cons_succ]; done) | (simp only [putAll, Act.put, List.setIfInBounds_toArray, List.set_cons_zero, List.set_cons_succ]; rfl)) (hJ18_20_45_46_48 (v442) _ ⟨(by (with_reducible repeat (first | apply Kd.R_alloc | apply Kd.R_drewN | apply Kd.R_drew)); exact HO423.out), (by (with_reducible repeat (first | apply Kd.R_alloc | apply Kd.R_drewN | apply Kd.R_drew)); exact HO426.out), (by (with_reducible repeat (first | apply Kd.R_alloc | apply Kd.R_drewN | apply Kd.R_drew)); exact HO431.out), (by (with_reducible repeat (first | apply Kd.R_alloc | apply Kd.R_drewN | apply Kd.R_drew)); exact HO440.out), (by (with_reducible repeat (first | apply Kd.R_alloc | apply Kd.R_drewN | apply Kd.R_drew)); exact HO443.out), (by repeat (first | (with_reducible first | exact HB.out | apply below_alloc | apply pw_below_drewN | apply below_drew1) | exact HB.out))⟩)
                              · skip
                                rintro v442 w45 ⟨h0_, h1_, h2_, h3_, h4_, h5_⟩
                                have n0_ : Aside0 (Kd.R (Kd.int .u8) 5 w45 w.heap.size (fun k_ => some k_ ≠ (.slice Ao39 t424.length co39 : Value).ownBlock ∧ some k_ ≠ (.slice Ao42 t428.length co42 : Value).ownBlock ∧ some k_ ≠ (v439 : Value).ownBlock ∧ some k_ ≠ (v442 : Value).ownBlock) (.slice Ao25 t421.length co25) t421) := ⟨h0_⟩
                                have n1_ : Aside0 (Kd.R (Kd.int .u8) 5 w45 w.heap.size (fun k_ => some k_ ≠ (.slice Ao25 t421.length co25 : Value).ownBlock ∧ some k_ ≠ (.slice Ao42 t428.length co42 : Value).ownBlock ∧ some k_ ≠ (v439 : Value).ownBlock ∧ some k_ ≠ (v442 : Value).ownBlock) (.slice Ao39 t424.length co39) t424) := ⟨h1_⟩
                                have n2_ : Aside0 (Kd.R (Kd.int .u8) 5 w45 w.heap.size (fun k_ => some k_ ≠ (.slice Ao25 t421.length co25 : Value).ownBlock ∧ some k_ ≠ (.slice Ao39 t424.length co39 : Value).ownBlock ∧ some k_ ≠ (v439 : Value).ownBlock ∧ some k_ ≠ (v442 : Value).ownBlock) (.slice Ao42 t428.length co42) t428) := ⟨h2_⟩
                                have n3_ : Aside0 (Kd.R (Kd.int .u8) 5 w45 w.heap.size (fun k_ => some k_ ≠ (.slice Ao25 t421.length co25 : Value).ownBlock ∧ some k_ ≠ (.slice Ao39 t424.length co39 : Value).ownBlock ∧ some k_ ≠ (.slice Ao42 t428.length co42 : Value).ownBlock ∧ some k_ ≠ (v442 : Value).ownBlock) v439 t437) := ⟨h3_⟩
                                have n4_ : Aside0 (Kd.R (Kd.int .u8) 5 w45 w.heap.size (fun k_ => some k_ ≠ (.slice Ao25 t421.length co25 : Value).ownBlock ∧ some k_ ≠ (.slice Ao39 t424.length co39 : Value).ownBlock ∧ some k_ ≠ (.slice Ao42 t428.length co42 : Value).ownBlock ∧ some k_ ≠ (v439 : Value).ownBlock) v442 t441) := ⟨h4_⟩
                                have n5_ : Aside0 (Below w.heap.size w w45) := ⟨h5_⟩
                                clear HO423
                                clear HO426
                                clear HO431
                                clear HO440
                                clear HR435
                                clear HB
                                clear h0_ h1_ h2_ h3_ h4_ h5_
                                have HO423 := n0_
                                have HO426 := n1_
                                have HO431 := n2_
                                have HO440 := n3_
                                have HO443 := n4_
                                have HB := n5_
                                clear n0_ n1_ n2_ n3_ n4_ n5_
                                have hHeld := trivial
                                refine norm_ (a' := ?_) ?_ ?_
                                rotate_left
                                · simp only [putAll, Act.put, List.setIfInBounds_toArray, List.set_cons_zero, List.set_cons_succ]
                                  rfl
                                refine one_ (i := 48) (N := some 112) #[true, true, true, true, true, true, true, true, true, true, true, true, true, true, true, true, true, true, true, true, true, true, true, true, true, true, true, true, true, true, true, true, true, true, true, true, true, true, true, true, true, true, true, true, true, true, true, true, true, false, false, false] rfl rfl (one_of HT_.out (by kernel_rfl)) (by decide) (fun K hK => ?_)
                                (first | have hcv46 := own_string (P := Try.prog) Try.underlying39 Try.underlying5 Try.underlying9 (Kd.own_of_R HO423.out) | have hcv46 := Hand.V_string (P := Try.prog) Try.underlying39 Try.underlying5 Try.underlying9 HO423.out)
                                refine value_ (w1 := ?_) (v := ?_) (by rfl) rfl ?_ ?_
                                rotate_left 2
                                · go_simp
                                  constructor
                                  · rfl
                                  · rfl
                                clear hcv46
                                refine hK.out _ _ trivial (fun hHeld => ?_)
                                clear hK K
                                refine norm_ (a' := ?_) ?_ ?_
                                rotate_left
                                · show Act.put _ (some 112) _ = _
                                  simp only [Act.put, List.setIfInBounds_toArray, List.set_cons_zero, List.set_cons_succ, i64_w, i32_w]
                                  rfl
                                exact norm_ (by first | (simp only [putAll, Act.put, List.setIfInBounds_toArray, List.set_cons_zero, List.set_cons_succ]; done) | (simp only [putAll, Act.put, List.setIfInBounds_toArray, List.set_cons_zero, List.set_cons_succ]; rfl)) (hJ18_20_45_46_48 (v442) _ ⟨(by (with_reducible repeat (first | apply Kd.R_alloc | apply Kd.R_drewN | apply Kd.R_drew)); exact HO423.out), (by (with_reducible repeat (first | apply Kd.R_alloc | apply Kd.R_drewN | apply Kd.R_drew)); exact HO426.out), (by (with_reducible repeat (first | apply Kd.R_alloc | apply Kd.R_drewN | apply Kd.R_drew)); exact HO431.out), (by (with_reducible repeat (first | apply Kd.R_alloc | apply Kd.R_drewN | apply Kd.R_drew)); exact HO440.out), (by (with_reducible repeat (first | apply Kd.R_alloc | apply Kd.R_drewN | apply Kd.R_drew)); exact HO443.out), (by repeat (first | (with_reducible first | exact HB.out | apply below_alloc | apply pw_below_drewN | apply below_drew1) | exact HB.out))⟩)
                            rintro v442 w46 ⟨h0_, h1_, h2_, h3_, h4_, h5_⟩
                            have n0_ : Aside0 (Kd.R (Kd.int .u8) 5 w46 w.heap.size (fun k_ => some k_ ≠ (.slice Ao39 t424.length co39 : Value).ownBlock ∧ some k_ ≠ (.slice Ao42 t428.length co42 : Value).ownBlock ∧ some k_ ≠ (v439 : Value).ownBlock ∧ some k_ ≠ (v442 : Value).ownBlock) (.slice Ao25 t421.length co25) t421) := ⟨h0_⟩
                            have n1_ : Aside0 (Kd.R (Kd.int .u8) 5 w46 w.heap.size (fun k_ => some k_ ≠ (.slice Ao25 t421.length co25 : Value).ownBlock ∧ some k_ ≠ (.slice Ao42 t428.length co42 : Value).ownBlock ∧ some k_ ≠ (v439 : Value).ownBlock ∧ some k_ ≠ (v442 : Value).ownBlock) (.slice Ao39 t424.length co39) t424) := ⟨h1_⟩
                            have n2_ : Aside0 (Kd.R (Kd.int .u8) 5 w46 w.heap.size (fun k_ => some k_ ≠ (.slice Ao25 t421.length co25 : Value).ownBlock ∧ some k_ ≠ (.slice Ao39 t424.length co39 : Value).ownBlock ∧ some k_ ≠ (v439 : Value).ownBlock ∧ some k_ ≠ (v442 : Value).ownBlock) (.slice Ao42 t428.length co42) t428) := ⟨h2_⟩
                            have n3_ : Aside0 (Kd.R (Kd.int .u8) 5 w46 w.heap.size (fun k_ => some k_ ≠ (.slice Ao25 t421.length co25 : Value).ownBlock ∧ some k_ ≠ (.slice Ao39 t424.length co39 : Value).ownBlock ∧ some k_ ≠ (.slice Ao42 t428.length co42 : Value).ownBlock ∧ some k_ ≠ (v442 : Value).ownBlock) v439 t437) := ⟨h3_⟩
                            have n4_ : Aside0 (Kd.R (Kd.int .u8) 5 w46 w.heap.size (fun k_ => some k_ ≠ (.slice Ao25 t421.length co25 : Value).ownBlock ∧ some k_ ≠ (.slice Ao39 t424.length co39 : Value).ownBlock ∧ some k_ ≠ (.slice Ao42 t428.length co42 : Value).ownBlock ∧ some k_ ≠ (v439 : Value).ownBlock) v442 t441) := ⟨h4_⟩
                            have n5_ : Aside0 (Below w.heap.size w w46) := ⟨h5_⟩
                            clear HO423
                            clear HO426
                            clear HO431
                            clear HO440
                            clear HR435
                            clear HB
                            clear h0_ h1_ h2_ h3_ h4_ h5_
                            have HO423 := n0_
                            have HO426 := n1_
                            have HO431 := n2_
                            have HO440 := n3_
                            have HO443 := n4_
                            have HB := n5_
                            clear n0_ n1_ n2_ n3_ n4_ n5_
                            have hHeld := trivial
                            refine norm_ (a' := ?_) ?_ ?_
                            rotate_left
                            · simp only [putAll, Act.put, List.setIfInBounds_toArray, List.set_cons_zero, List.set_cons_succ]
                              rfl
                            refine pure_ (i := 49) (N := some 113) (v := ?_) (a' := ?_) #[true, true, true, true, true, true, true, true, true, true, true, true, true, true, true, true, true, true, true, true, true, true, true, true, true, true, true, true, true, true, true, true, true, true, true, true, true, true, true, true, true, true, true, true, true, true, true, true, true, true, false, false] rfl rfl (any_of HT_.out (by kernel_rfl)) (fun _ _ _ h => h) (Or.inl ⟨by rfl, ?_⟩) ?_ ?_
                            rotate_left
                            · intro w'
                              go_simp
                              with_reducible rfl
                            rotate_left
                            · simp only [Act.put, List.setIfInBounds_toArray, List.set_cons_zero, List.set_cons_succ, i64_w, i32_w]
                              rfl
                            refine pure_ (i := 50) (N := some 114) (v := ?_) (a' := ?_) #[true, true, true, true, true, true, true, true, true, true, true, true, true, true, true, true, true, true, true, true, true, true, true, true, true, true, true, true, true, true, true, true, true, true, true, true, true, true, true, true, true, true, true, true, true, true, true, true, true, true, true, false] rfl rfl (any_of HT_.out (by kernel_rfl)) (fun _ _ _ h => h) (Or.inl ⟨by rfl, ?_⟩) ?_ ?_
                            rotate_left
                            · intro w'
                              go_simp
                              with_reducible rfl
                            rotate_left
                            · simp only [Act.put, List.setIfInBounds_toArray, List.set_cons_zero, List.set_cons_succ, i64_w, i32_w]
                              rfl
                            refine pure_ (i := 51) (N := some 6) (v := ?_) (a' := ?_) #[true, true, true, true, true, true, true, true, true, true, true, true, true, true, true, true, true, true, true, true, true, true, true, true, true, true, true, true, true, true, true, true, true, true, true, true, true, true, true, true, true, true, true, true, true, true, true, true, true, true, true, true] rfl rfl (any_of HT_.out (by kernel_rfl)) (fun _ _ _ h => h) (Or.inl ⟨by rfl, ?_⟩) ?_ ?_
                            rotate_left
                            · intro w'
                              go_simp
                              with_reducible rfl
                            rotate_left
                            · simp only [Act.put, List.setIfInBounds_toArray, List.set_cons_zero, List.set_cons_succ, i64_w, i32_w]
                              rfl
                            refine done_ (done_of HT_.out (by kernel_rfl)) ?_
                            try go_wp2
                            go_meet
                            case rel => exact ⟨_, (((strOfNums t441).toList == (strOfNums t421).toList)), (by first | rfl | (simp; done) | (simp [*]; done)), H', ⟨by have := HJ4.out; first | omega | exact Nat.le_refl _⟩, ⟨by repeat (first | (with_reducible first | exact HB.out | apply below_alloc | apply pw_below_drewN | apply below_drew1) | exact HB.out)⟩⟩
                          · rw [if_neg c36] at H
                            exact absurd H (by rw [hr_]; cases kj4 <;> simp [creellaw01_VaryOrder.j1])
                        · rw [if_neg c35] at H
                          exact absurd H (by rw [hr_]; cases kj4 <;> simp [creellaw01_VaryOrder.j1])
                      · rw [if_neg c34] at H
                        exact absurd H (by rw [hr_]; cases kj4 <;> simp [creellaw01_VaryOrder.j1])
                    · rw [if_neg c33] at H
                      exact absurd H (by rw [hr_]; cases kj4 <;> simp [creellaw01_VaryOrder.j1])
                  · rw [if_neg c32] at H
                    exact absurd H (by rw [hr_]; cases kj4 <;> simp [creellaw01_VaryOrder.j1])
                · rw [if_neg c31] at H
                  exact absurd H (by rw [hr_]; cases kj4 <;> simp [creellaw01_VaryOrder.j1])
              · rw [if_neg c30] at H
                exact absurd H (by rw [hr_]; cases kj4 <;> simp [creellaw01_VaryOrder.j1])
            · replace c29 := Bool.eq_false_iff.mpr c29
              subst c29
              have H1 : (creellaw01_VaryOrder.j1 kj4 false) = some r := by rw [if_neg (show ¬ (false = true) by decide)] at H; exact H
              exact absurd H1 (by rw [hr_]; cases kj4 <;> simp [creellaw01_VaryOrder.j1])
          case rest =>
            clear HC22
            try clear c2
            try clear p2
            try clear c29
            obtain ⟨kq, x6_21, rfl, HA, HJ21, HB⟩ := hcut
            cases kq with
            | zero => exact absurd HA.out (by simp [creellaw01_VaryOrder.j1])
            | succ kj21 =>
              have H := HA.out
              clear HA
              simp only [creellaw01_VaryOrder.j1] at H
              obtain rfl := Option.some.inj H
              go_wp2
              go_ret
              exact ⟨by first | rfl | (simp [errW_none, errW_some] <;> rfl) | (simp only [← hji18]; first | rfl | (simp [errW_none, errW_some] <;> rfl)) | (simp [*, errW_none, errW_some] <;> rfl), by repeat (first | (with_reducible first | exact HB.out | apply below_alloc | apply pw_below_drewN | apply below_drew1) | exact HB.out)⟩
        · rw [if_neg c20] at H
          exact absurd H (by simp)
      · rw [if_neg c19] at H
        exact absurd H (by simp)

/-- THE ONE PURE STATEMENT of creellaw01_VaryOrder: yours. -/
def creellaw01_VaryOrder.Pure : Prop := ∀ (a0 : Int) (a1 : Int) (a2 : Int), (Lit.int .u64 a0).wf = true → (Lit.int .u64 a1).wf = true → (Lit.int .u8 a2).wf = true → ∃ k, creellaw01_VaryOrder.f k a0 a1 a2 = some true
theorem creellaw01_VaryOrder.walk (P : creellaw01_VaryOrder.Pure) (a0 : Int) (a1 : Int) (a2 : Int) (w : World) (w0 : (Lit.int .u64 a0).wf = true) (w1 : (Lit.int .u64 a1).wf = true) (w2 : (Lit.int .u8 a2).wf = true) :
    Calls Try.prog 14 #[.int .u64 a0, .int .u64 a1, .int .u8 a2] w fun e w' => e = .returned (.bool true) ∧ Below w.heap.size w w' := by
  obtain ⟨k, h⟩ := P a0 a1 a2 w0 w1 w2
  refine (creellaw01_VaryOrder.calls k a0 a1 a2 true w rfl h).mono ?_
  rintro e w' ⟨rfl, hd⟩
  exact ⟨rfl, hd⟩

end Go.Proofs.Ytfhbeghmlfjfjaa.Print
