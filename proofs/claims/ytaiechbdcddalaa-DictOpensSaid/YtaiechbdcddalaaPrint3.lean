/- Words of the print, of which only those stand here that this claim names. -/
-- Written by a program of this session (wip/cprint.py), which calls the kit's print and adds contracts proved by hand.
import Derived.Test.YtaiechbdcddalaaPrint0
import Derived.Test.YtaiechbdcddalaaPrint1
import Derived.Test.YtaiechbdcddalaaPrint2
namespace Go.Proofs.Ytaiechbdcddalaa.Print
open Go.RowKit Go.Proofs.YtaiechbdcddalaaW.PrintWords Go.Proofs.YtaiechbdcddalaaW.PrintLast Go.Proofs.YtaiechbdcddalaaW.PrintMore
attribute [local go_sem] max2_int min2_int max_two min_two max_three min_three max_four min_four   -- for this text's walks alone
set_option linter.unusedVariables false
set_option linter.unusedSimpArgs false

/-! ### vary_Fix: function 60 -/
mutual
def vary_Fix.j0 : Nat → Int → Int → List Int → Bool → Option (List Int)
 | 0, _, _, _, _ => none
 | k + 1, x1, x2, x7, x16 => if x16 = true then (some x7) else (vary_Fix.l0 k x1 x7 (wrap64 (x2 - 1)))
def vary_Fix.l0 : Nat → Int → List Int → Int → Option (List Int)
 | 0, _, _, _ => none
 | k + 1, x1, x7, x8 => if x8 ≥ 0 then (if 0 ≤ (wrap64 (8 * x8)) then (if x7.length < 140737488355328 then (vary_Fix.l0 k x1 (x7 ++ [(shr .u64 x1 (wrap64 (8 * x8))) % 256]) (wrap64 (x8 - 1))) else (none)) else (none)) else (some x7)
end
def vary_Fix.f (k : Nat) (l0 : List Int) (a1 : Int) (a2 : Int) : Option (List Int) := (slices_Clone_byte_byte.f l0).bind fun t141 => (if a2 < 1 then (vary_Fix.j0 k a1 a2 t141 true) else (vary_Fix.j0 k a1 a2 t141 (decide (a2 > 8))))
set_option maxHeartbeats 8000000 in
set_option maxRecDepth 100000 in
theorem vary_Fix.calls (k : Nat) (A0 : Option Addr) (c0 : Nat) (l0 : List Int) (a1 : Int) (a2 : Int) (r : List Int) (w : World) (hr0 : Kd.C (Kd.int .u8) w A0 l0.length l0) (hc0 : l0.length ≤ c0) (h : vary_Fix.f k l0 a1 a2 = some r) :
  Calls Try.prog 60 #[.slice A0 l0.length c0, .int .u64 a1, .int .i64 a2] w fun e w' => ∃ v0_ : Value, e = .returned (v0_) ∧ Kd.R (Kd.int .u8) 5 w' w.heap.size (fun _ => True) v0_ r ∧ Below w.heap.size w w' := by
 have HR0 := Aside0.mk hr0
 have HC0 := Aside0.mk hc0
 clear hr0 hc0
 have HB := Aside0.mk (Below.refl w.heap.size w)
 have H : ((slices_Clone_byte_byte.f l0).bind fun t141 => (if a2 < 1 then (vary_Fix.j0 k a1 a2 t141 true) else (vary_Fix.j0 k a1 a2 t141 (decide (a2 > 8))))) = some r := h
 clear h
 replace H := Option.bind_eq_some_iff.mp H
 obtain ⟨t141, A40, H⟩ := H
 replace H : (if a2 < 1 then (vary_Fix.j0 k a1 a2 t141 true) else (vary_Fix.j0 k a1 a2 t141 (decide (a2 > 8)))) = some r := H
 have A4 := Aside0.mk A40
 clear A40
 have HC5 := Aside0.mk H
 clear H
 go_enter Try.func60, Try.ntmps60
 go_upto_region 2 with (first | ((with_reducible refine gate_callee (f := 38) rfl ?_); refine goesL_ (some 10) rfl rfl Try.func38 (by kernel_rfl) rfl #[.slice A0 l0.length c0] rfl (by (try simp only [List.map_toArray, List.map_cons, List.map_nil]); first | done | rfl | (simp only [List.length_drop, List.length_take]; rfl)) ?_; (with_reducible refine (slices_Clone_byte_byte.calls _ _ l0 t141 _ ?side1 ?side2 A4.out).mono ?_); (case side1 => repeat (first | exact HR0.out | (with_reducible refine Kd.C_alloc ?_ _) | (with_reducible refine Kd.C_drewN ?_ _) | (with_reducible refine Kd.C_drew ?_))); (case side2 => exact HC0.out); rintro e w6 ⟨v142, rfl, ho0, hb⟩; refine ⟨_, rfl, ?_⟩; have n0_ := Aside0.mk (Kd.R_lower ho0 (below_size (by repeat (first | (with_reducible first | exact HB.out | apply below_alloc | apply pw_below_drewN | apply below_drew1) | exact HB.out)))); have n1_ := Aside0.mk (below_step (by repeat (first | (with_reducible first | exact HB.out | apply below_alloc | apply pw_below_drewN | apply below_drew1) | exact HB.out)) hb); clear HB; have HO143 := n0_; have HB := n1_; clear n0_ n1_; (try clear hb); (try clear hb2); (try clear hk); (try clear hi); (try clear ho0)))
 (try simp only [Act.put, List.setIfInBounds_toArray, List.set_cons_zero, List.set_cons_succ])
 go_cut [16] (fun v16 wc => ∃ (kq : Nat) (x16_4 : Bool), v16 = .bool x16_4 ∧ Aside0 (vary_Fix.j0 kq a1 a2 t141 x16_4 = some r) ∧ Aside0 (kq ≤ k) ∧ Aside0 (Kd.R (Kd.int .u8) 5 wc w.heap.size (fun _ => True) v142 t141) ∧ Aside0 (Below w.heap.size w wc))
 case first =>
  have H := HC5.out
  clear HC5
  by_cases c7 : a2 < 1
  ·rw [if_pos c7] at H
   have c7b0 : decide (a2 < 1) = true := decide_eq_true c7
   clear c7
   (first | rw [c7b0] | (simp only [i64_w, i32_w]; rw [c7b0]) | skip)
   have H' := Aside0.mk H
   clear H
   go_wp2
   go_meet
   case rel => exact ⟨_, (true), (by first | rfl | (simp; done) | (simp [*]; done)), H', ⟨by first | omega | exact Nat.le_refl _⟩, ⟨by (with_reducible repeat (first | apply Kd.R_alloc | apply Kd.R_drewN | apply Kd.R_drew)); exact HO143.out⟩, ⟨by repeat (first | (with_reducible first | exact HB.out | apply below_alloc | apply pw_below_drewN | apply below_drew1) | exact HB.out)⟩⟩
  ·rw [if_neg c7] at H
   have c7b0 : decide (a2 < 1) = false := decide_eq_false c7
   clear c7
   (first | rw [c7b0] | (simp only [i64_w, i32_w]; rw [c7b0]) | skip)
   have H' := Aside0.mk H
   clear H
   go_wp2
   go_meet
   case rel => exact ⟨_, (decide (a2 > 8)), (by first | rfl | (simp; done) | (simp [*]; done)), H', ⟨by first | omega | exact Nat.le_refl _⟩, ⟨by (with_reducible repeat (first | apply Kd.R_alloc | apply Kd.R_drewN | apply Kd.R_drew)); exact HO143.out⟩, ⟨by repeat (first | (with_reducible first | exact HB.out | apply below_alloc | apply pw_below_drewN | apply below_drew1) | exact HB.out)⟩⟩
 case rest =>
  clear HC5
  try clear p2
  try clear c3
  try clear c6
  try clear c7
  try clear c7b0
  obtain ⟨kq, x16_4, rfl, HA, HJ4, HO_7, HB⟩ := hcut
  cases kq with
  | zero => exact absurd HA.out (by simp [vary_Fix.j0])
  | succ kj4 =>
   have H := HA.out
   clear HA
   simp only [vary_Fix.j0] at H
   by_cases c8 : x16_4 = true
   ·subst c8
    have H1 : (some t141) = some r := by rw [if_pos rfl] at H; exact H
    clear H
    have H := H1
    clear H1
    obtain rfl := Option.some.inj H
    go_wp2
    go_ret
    exact ⟨_, by first | rfl | (simp [errW_none, errW_some] <;> rfl) | (simp [*, errW_none, errW_some] <;> rfl), by (with_reducible repeat (first | apply Kd.R_alloc | apply Kd.R_drewN | apply Kd.R_drew)); exact HO_7.out, by repeat (first | (with_reducible first | exact HB.out | apply below_alloc | apply pw_below_drewN | apply below_drew1) | exact HB.out)⟩
   ·replace c8 := Bool.eq_false_iff.mpr c8
    subst c8
    have H1 : (vary_Fix.l0 kj4 a1 t141 (wrap64 (a2 - 1))) = some r := by rw [if_neg (show ¬ (false = true) by decide)] at H; exact H
    clear H
    have H := H1
    clear H1
    have H' := Aside0.mk H
    clear H
    go_wp2
    go_loopg [7, 8] kj4 (fun kq v7 v8 w' => ∃ (x7_2 : List Int) (x8_2 : Int), v8 = .int .i64 x8_2 ∧ Aside0 (vary_Fix.l0 kq a1 x7_2 x8_2 = some r) ∧ Aside0 (kq ≤ kj4) ∧ Aside0 (Kd.R (Kd.int .u8) 5 w' w.heap.size (fun _ => True) v7 x7_2) ∧ Aside0 (Below w.heap.size w w'))
    case atStart => exact ⟨(t141), (wrap64 (a2 - 1)), (by first | rfl | (simp; done) | (simp [*]; done)), H', ⟨Nat.le_refl _⟩, ⟨by (with_reducible repeat (first | apply Kd.R_alloc | apply Kd.R_drewN | apply Kd.R_drew)); exact HO_7.out⟩, ⟨by repeat (first | (with_reducible first | exact HB.out | apply below_alloc | apply pw_below_drewN | apply below_drew1) | exact HB.out)⟩⟩
    case round =>
     clear H'
     try clear p2
     try clear c3
     try clear c6
     try clear p6
     try clear c7
     try clear c7b0
     try clear c8
     try clear p2
     obtain ⟨x7_2, x8_2, rfl, HA, HK2, HO_7, HB⟩ := hrel
     cases gk with
     | zero => exact absurd HA.out (by simp [vary_Fix.l0])
     | succ k2 =>
      have H := HA.out
      clear HA
      simp only [vary_Fix.l0] at H
      by_cases c9 : x8_2 ≥ 0
      ·rw [if_pos c9] at H
       have c9b0 : decide (0 ≤ x8_2) = true := decide_eq_true c9
       clear c9
       obtain ⟨ji10, hji10⟩ : ∃ j_ : Int, (wrap64 (8 * x8_2)) = j_ := ⟨_, rfl⟩
       replace H : (if 0 ≤ (ji10) then (if x7_2.length < 140737488355328 then (vary_Fix.l0 k2 a1 (x7_2 ++ [(shr .u64 a1 (ji10)) % 256]) (wrap64 (x8_2 - 1))) else (none)) else (none)) = some r := by first | (rw [hji10] at H; exact H) | (simp only [hji10] at H ⊢; exact H)
       have hji10w : (IntKind.i64.wrap (8 * x8_2)) = ji10 := (i64_w _).trans hji10
       by_cases c11 : 0 ≤ (ji10)
       ·rw [if_pos c11] at H
        have c11b0 := eq_true c11
        have c11b1 : decide (0 ≤ (ji10)) = true := decide_eq_true c11
        clear c11
        obtain ⟨ji12, hji12⟩ : ∃ j_ : Int, (shr .u64 a1 (ji10)) = j_ := ⟨_, rfl⟩
        replace H : (if x7_2.length < 140737488355328 then (vary_Fix.l0 k2 a1 (x7_2 ++ [(ji12) % 256]) (wrap64 (x8_2 - 1))) else (none)) = some r := by first | (rw [hji12] at H; exact H) | (simp only [hji12] at H ⊢; exact H)
        have hji12_ : (a1 / 2 ^ min (ji10).toNat 64) = ji12 := hji12
        have hji12z : (ji10) ≤ 64 → (a1 / 2 ^ (ji10).toNat) = ji12 := shr_small hji12
        by_cases c13 : x7_2.length < 140737488355328
        ·rw [if_pos c13] at H
         have LMc13 := Aside0.mk c13
         clear c13
         obtain ⟨y144, hy144⟩ : ∃ y_ : List Int, y_ = (x7_2 ++ [(ji12) % 256]) := ⟨_, rfl⟩
         replace H : (vary_Fix.l0 k2 a1 y144 (wrap64 (x8_2 - 1))) = some r := by first | (rw [hy144]; with_reducible exact H) | (have H2_ := (Option.bind_some _ _).symm.trans H; rw [hy144]; with_reducible exact H2_) | (have H2_ := (Option.bind_some _ _).symm.trans H; with_reducible exact H2_) | with_reducible exact H | (rw [hy144]; exact H) | exact H
         have Ny144 := Aside0.mk hy144
         clear hy144
         have H' := Aside0.mk H
         clear H
         go_wp2_with (first | ((with_reducible refine gate_builtin (b := .append) (xs := #[.tmp 24, .tmp 30]) rfl ?_); at_builtin; refine Kd.R_append (Kd.int .u8) (w0 := w) w.heap.size rfl (.tmp 24) (.tmp 30) 26 5 (.int .u8 0) 1 rfl Try.underlying26 info5 rfl (by decide) (by omega) u7 x7_2 ((ji12) % 256) [.int .u8 ((ji12) % 256)] (fun _ => True) (fun _ => False) rfl rfl ?aP (fun _ hk => hk.elim) ?aF ?aO ?aB ?aS ?aL ?_; (case aP => exact rfl); (case aB => exact (by repeat (first | (with_reducible first | exact HB.out | apply below_alloc | apply pw_below_drewN | apply below_drew1) | exact HB.out))); (case aF => exact (fun _ _ => trivial)); (case aO => exact (by (with_reducible repeat (first | apply Kd.R_alloc | apply Kd.R_drewN | apply Kd.R_drew)); exact HO_7.out)); (case aS => exact (below_size (by repeat (first | (with_reducible first | exact HB.out | apply below_alloc | apply pw_below_drewN | apply below_drew1) | exact HB.out)))); (case aL => have := LMc13.out; omega); intro v145 w14 ho hb hg hat; rw [← Ny144.out] at ho; have n0_ := Aside0.mk (hb); have n1_ := Aside0.mk (ho); clear HB; clear HO_7; have HB := n0_; have HO146 := n1_; clear n0_ n1_; clear ho hb hg hat))
         go_roundg k2
         case measure => have := HJ4.out; have := HK2.out; omega
         case rel => exact ⟨(y144), (wrap64 (x8_2 - 1)), (by first | rfl | (simp; done) | (simp [*]; done)), H', ⟨by have := HJ4.out; have := HK2.out; omega⟩, ⟨by (with_reducible repeat (first | apply Kd.R_alloc | apply Kd.R_drewN | apply Kd.R_drew)); exact HO146.out⟩, ⟨by repeat (first | (with_reducible first | exact HB.out | apply below_alloc | apply pw_below_drewN | apply below_drew1) | exact HB.out)⟩⟩
        ·rw [if_neg c13] at H
         exact absurd H (by simp)
       ·rw [if_neg c11] at H
        exact absurd H (by simp)
      ·rw [if_neg c9] at H
       have c9b0 : decide (0 ≤ x8_2) = false := decide_eq_false c9
       clear c9
       obtain rfl := Option.some.inj H
       go_wp2
       go_ret
       exact ⟨_, by first | rfl | (simp [errW_none, errW_some] <;> rfl) | (simp [*, errW_none, errW_some] <;> rfl), by (with_reducible repeat (first | apply Kd.R_alloc | apply Kd.R_drewN | apply Kd.R_drew)); exact HO_7.out, by repeat (first | (with_reducible first | exact HB.out | apply below_alloc | apply pw_below_drewN | apply below_drew1) | exact HB.out)⟩

/-! ### frame_Put: function 41 -/
def frame_Put.f (k : Nat) (l0 : List Int) (l1 : List Int) : Option (List Int × Int) := if (l1.length : Int) > 4096 then (some (([] : List Int), 3)) else ((vary_Fix.f k ([] : List Int) (IntKind.u64.wrap ((l1.length : Int))) 4).bind fun t147 => ((slices_Concat_byte_byte.f (([t147, l1] : List (List Int)))).bind fun t153 => ((frame_Seal.f t153).bind fun t156 => ((slices_Concat_byte_byte.f (([l0, t156] : List (List Int)))).bind fun t162 => (some (t162, 0))))))
set_option maxHeartbeats 8000000 in
set_option maxRecDepth 100000 in
theorem frame_Put.calls (k : Nat) (P0_ : Nat → Prop) (A0 : Option Addr) (c0 : Nat) (l0 : List Int) (P1_ : Nat → Prop) (A1 : Option Addr) (c1 : Nat) (l1 : List Int) (r1 : List Int) (r2 : Int) (w : World) (hs0 : Kd.V (Kd.int .u8) 5 w w.heap.size (fun k_ => P0_ k_) (.slice A0 l0.length c0) l0) (hs1 : Kd.V (Kd.int .u8) 5 w w.heap.size (fun k_ => P1_ k_) (.slice A1 l1.length c1) l1) (h : frame_Put.f k l0 l1 = some (r1, r2)) :
  Calls Try.prog 41 #[.slice A0 l0.length c0, .slice A1 l1.length c1] w fun e w' => ∃ v0_ : Value, e = .returned (.tuple #[v0_, .int .i64 r2]) ∧ Kd.R (Kd.int .u8) 5 w' w.heap.size (fun k_ => (w.heap.size ≤ k_)) v0_ r1 ∧ Below w.heap.size w w' := by
 have HO0 := Aside0.mk (show Kd.V (Kd.int .u8) 5 w w.heap.size (fun k_ => ((P0_ k_ ∨ P1_ k_) ∨ w.heap.size ≤ k_)) (.slice A0 l0.length c0) l0 from Kd.V_mono hs0 (fun k_ hk => .inl (.inl hk)))
 have HO1 := Aside0.mk (show Kd.V (Kd.int .u8) 5 w w.heap.size (fun k_ => ((P0_ k_ ∨ P1_ k_) ∨ w.heap.size ≤ k_)) (.slice A1 l1.length c1) l1 from Kd.V_mono hs1 (fun k_ hk => .inl (.inr hk)))
 have HB := Aside0.mk (Below.refl w.heap.size w)
 have H : (if (l1.length : Int) > 4096 then (some (([] : List Int), 3)) else ((vary_Fix.f k ([] : List Int) (IntKind.u64.wrap ((l1.length : Int))) 4).bind fun t147 => ((slices_Concat_byte_byte.f (([t147, l1] : List (List Int)))).bind fun t153 => ((frame_Seal.f t153).bind fun t156 => ((slices_Concat_byte_byte.f (([l0, t156] : List (List Int)))).bind fun t162 => (some (t162, 0))))))) = some (r1, r2) := h
 clear h
 by_cases c3 : (l1.length : Int) > 4096
 ·rw [if_pos c3] at H
  have c3b0 : decide (4096 < (l1.length : Int)) = true := decide_eq_true c3
  have c3b1 : decide (4096 < l1.length) = true := decide_eq_true (by omega)
  clear c3
  simp only [Option.some.injEq, Prod.mk.injEq] at H
  obtain ⟨rfl, rfl⟩ := H
  go_enter Try.func41, Try.ntmps41
  go_wp2
  go_ret2
  exact ⟨_, by first | rfl | (simp [errW_none, errW_some] <;> rfl) | (simp [*, errW_none, errW_some] <;> rfl), by first | exact Kd.R_nil _ _ _ _ _ | exact Kd.N_nil _ _ _ _ _ | exact Kd.V_nil _ _ _ _ _ | exact Kd.Q_nil _ _ _ _ _ | exact Kd.S_nil _ _ _ _ _, by repeat (first | (with_reducible first | exact HB.out | apply below_alloc | apply pw_below_drewN | apply below_drew1) | exact HB.out)⟩
 ·rw [if_neg c3] at H
  have c3b0 : decide (4096 < (l1.length : Int)) = false := decide_eq_false c3
  have c3b1 : decide (4096 < l1.length) = false := decide_eq_false (by omega)
  clear c3
  replace H := Option.bind_eq_some_iff.mp H
  obtain ⟨t147, A40, H⟩ := H
  replace H : ((slices_Concat_byte_byte.f (([t147, l1] : List (List Int)))).bind fun t153 => ((frame_Seal.f t153).bind fun t156 => ((slices_Concat_byte_byte.f (([l0, t156] : List (List Int)))).bind fun t162 => (some (t162, 0))))) = some (r1, r2) := H
  have A4 := Aside0.mk A40
  clear A40
  obtain ⟨y150, hy150⟩ : ∃ y_ : List (List Int), y_ = (([t147, l1] : List (List Int))) := ⟨_, rfl⟩
  replace H : ((slices_Concat_byte_byte.f y150).bind fun t153 => ((frame_Seal.f t153).bind fun t156 => ((slices_Concat_byte_byte.f (([l0, t156] : List (List Int)))).bind fun t162 => (some (t162, 0))))) = some (r1, r2) := by first | (rw [hy150]; with_reducible exact H) | (have H2_ := (Option.bind_some _ _).symm.trans H; rw [hy150]; with_reducible exact H2_) | (have H2_ := (Option.bind_some _ _).symm.trans H; with_reducible exact H2_) | with_reducible exact H | (rw [hy150]; exact H) | exact H
  have Ny150 := Aside0.mk hy150
  clear hy150
  replace H := Option.bind_eq_some_iff.mp H
  obtain ⟨t153, A50, H⟩ := H
  replace H : ((frame_Seal.f t153).bind fun t156 => ((slices_Concat_byte_byte.f (([l0, t156] : List (List Int)))).bind fun t162 => (some (t162, 0)))) = some (r1, r2) := H
  have A5 := Aside0.mk A50
  clear A50
  replace H := Option.bind_eq_some_iff.mp H
  obtain ⟨t156, A60, H⟩ := H
  replace H : ((slices_Concat_byte_byte.f (([l0, t156] : List (List Int)))).bind fun t162 => (some (t162, 0))) = some (r1, r2) := H
  have A6 := Aside0.mk A60
  clear A60
  obtain ⟨y159, hy159⟩ : ∃ y_ : List (List Int), y_ = (([l0, t156] : List (List Int))) := ⟨_, rfl⟩
  replace H : ((slices_Concat_byte_byte.f y159).bind fun t162 => (some (t162, 0))) = some (r1, r2) := by first | (rw [hy159]; with_reducible exact H) | (have H2_ := (Option.bind_some _ _).symm.trans H; rw [hy159]; with_reducible exact H2_) | (have H2_ := (Option.bind_some _ _).symm.trans H; with_reducible exact H2_) | with_reducible exact H | (rw [hy159]; exact H) | exact H
  have Ny159 := Aside0.mk hy159
  clear hy159
  replace H := Option.bind_eq_some_iff.mp H
  obtain ⟨t162, A70, H⟩ := H
  replace H : (some (t162, 0)) = some (r1, r2) := H
  have A7 := Aside0.mk A70
  clear A70
  simp only [Option.some.injEq, Prod.mk.injEq] at H
  obtain ⟨rfl, rfl⟩ := H
  go_enter Try.func41, Try.ntmps41
  go_wp2_with (first | ((with_reducible refine gate_callee (f := 60) rfl ?_); refine goesL_ (some 13) rfl rfl Try.func60 (by kernel_rfl) rfl #[.slice none 0 0, .int .u64 (IntKind.u64.wrap ((l1.length : Int))), .int .i64 4] rfl (by (try simp only [List.map_toArray, List.map_cons, List.map_nil]); first | done | rfl | (simp only [List.length_drop, List.length_take]; rfl)) ?_; (refine (vary_Fix.calls k _ _ ([] : List Int) (IntKind.u64.wrap ((l1.length : Int))) 4 t147 _ ?side1 ?side2 A4.out).mono ?_); (case side1 => exact Kd.C_nil _ _); (case side2 => exact Nat.le_refl _); rintro e w8 ⟨v148, rfl, ho0, hb⟩; refine ⟨_, rfl, ?_⟩; have n0_ := Aside0.mk (Kd.V_elder' (by (with_reducible repeat (first | apply Kd.V_alloc | apply Kd.V_drewN | apply Kd.V_drew)); exact HO0.out) (Kd.R_base ho0) hb); have n1_ := Aside0.mk (Kd.V_elder' (by (with_reducible repeat (first | apply Kd.V_alloc | apply Kd.V_drewN | apply Kd.V_drew)); exact HO1.out) (Kd.R_base ho0) hb); have n2_ := Aside0.mk (Kd.R_lower (Kd.R_newM (M := fun k_ => (w.heap.size ≤ k_)) ho0 (below_size (by repeat (first | (with_reducible first | exact HB.out | apply below_alloc | apply pw_below_drewN | apply below_drew1) | exact HB.out))) (fun k_ h_ => h_)) (below_size (by repeat (first | (with_reducible first | exact HB.out | apply below_alloc | apply pw_below_drewN | apply below_drew1) | exact HB.out)))); have n3_ := Aside0.mk (below_step (by repeat (first | (with_reducible first | exact HB.out | apply below_alloc | apply pw_below_drewN | apply below_drew1) | exact HB.out)) hb); clear HO0; clear HO1; clear HB; have HO0 := n0_; have HO1 := n1_; have HO149 := n2_; have HB := n3_; clear n0_ n1_ n2_ n3_; (try clear hb); (try clear hb2); (try clear hk); (try clear hi); (try clear ho0); obtain ⟨Ao9, co9, eo9⟩ := Kd.R_slice HO149.out; subst eo9) | ((with_reducible refine gate_dst (N := 15) rfl ?_); refine Kd.N_lit (Kd.slice 5 (Kd.int .u8)) _ 26 ?hg (N' := 15) ?hd (xs := ([t147, l1] : List (List Int))) (inner := [.slice Ao9 t147.length co9, .slice A1 l1.length c1]) (ok := (fun k_ => ((P0_ k_ ∨ P1_ k_) ∨ w.heap.size ≤ k_))) (okp := (fun k_ => ((P0_ k_ ∨ P1_ k_) ∨ w.heap.size ≤ k_))) ?hr ?hp (fun _ hk => hk) ((show ∀ k_, w8.heap.size ≤ k_ → (fun k_ => ((P0_ k_ ∨ P1_ k_) ∨ w.heap.size ≤ k_)) k_ from fun k_ hk => (.inr (Nat.le_trans (below_size (by repeat (first | (with_reducible first | exact HB.out | apply below_alloc | apply pw_below_drewN | apply below_drew1) | exact HB.out))) hk))) _ (Nat.le_refl _)) (Below.refl _ _) (Nat.le_refl _) (by simp) ?_; (case hd => rfl); (case hg => rfl); (case hr => first | (go_simp; done) | (go_simp; rfl)); (case hp => exact (Reps.one (show Kd.FK (Kd.slice 5 (Kd.int .u8)) _ _ t147 [.slice Ao9 t147.length co9] from (Kd.FK_slice_mk (Kd.R_reads' (Kd.R_mono (ok' := (fun k_ => ((P0_ k_ ∨ P1_ k_) ∨ w.heap.size ≤ k_))) (HO149.out) (fun k_ hk => (.inr (hk.1))))).2.1 (Kd.R_F (Kd.R_mono (ok' := (fun k_ => ((P0_ k_ ∨ P1_ k_) ∨ w.heap.size ≤ k_))) (HO149.out) (fun k_ hk => (.inr (hk.1))))))) (Reps.one (show Kd.FK (Kd.slice 5 (Kd.int .u8)) _ _ l1 [.slice A1 l1.length c1] from (Kd.FK_slice_mk (Kd.V_reads' (Kd.V_mono (ok' := (fun k_ => ((P0_ k_ ∨ P1_ k_) ∨ w.heap.size ≤ k_))) (HO1.out) (fun k_ hk => hk.1))).2.1 (Kd.V_F (Kd.V_mono (ok' := (fun k_ => ((P0_ k_ ∨ P1_ k_) ∨ w.heap.size ≤ k_))) (HO1.out) (fun k_ hk => hk.1))))) (Reps.none _ _)))); intro v151 w10 ho11 hb hg_ hnew_; clear hg_ hnew_; (first | rw [← Ny150.out] at ho11 | (simp only [Int.reduceToNat] at ho11; rw [← Ny150.out] at ho11)); have n0_ := Aside0.mk (Kd.V_elder' (by (with_reducible repeat (first | apply Kd.V_alloc | apply Kd.V_drewN | apply Kd.V_drew)); exact HO0.out) (Kd.N_base ho11) hb); have n1_ := Aside0.mk (Kd.V_elder' (by (with_reducible repeat (first | apply Kd.V_alloc | apply Kd.V_drewN | apply Kd.V_drew)); exact HO1.out) (Kd.N_base ho11) hb); have n2_ := Aside0.mk (Kd.N_lower ho11 (below_size (by repeat (first | (with_reducible first | exact HB.out | apply below_alloc | apply pw_below_drewN | apply below_drew1) | exact HB.out)))); have n3_ := Aside0.mk (below_step (by repeat (first | (with_reducible first | exact HB.out | apply below_alloc | apply pw_below_drewN | apply below_drew1) | exact HB.out)) hb); clear HO0; clear HO1; clear HB; clear HO149; have HO0 := n0_; have HO1 := n1_; have HO152 := n2_; have HB := n3_; clear n0_ n1_ n2_ n3_; clear hb ho11; obtain ⟨Ao12, co12, eo12⟩ := Kd.N_slice HO152.out; subst eo12) | ((with_reducible refine gate_callee (f := 58) rfl ?_); refine goesL_ (some 16) rfl rfl Try.func58 (by kernel_rfl) rfl #[.slice Ao12 y150.length co12] rfl (by (try simp only [List.map_toArray, List.map_cons, List.map_nil]); first | done | rfl | (simp only [List.length_drop, List.length_take]; rfl)) ?_; (with_reducible refine (slices_Concat_byte_byte.calls _ _ y150 t153 _ ?side1 ?side2 A5.out).mono ?_); (case side1 => repeat (first | exact (Kd.N_reads' HO152.out).2.2 | (with_reducible refine Kd.C_alloc ?_ _) | (with_reducible refine Kd.C_drewN ?_ _) | (with_reducible refine Kd.C_drew ?_))); (case side2 => exact (Kd.N_reads' HO152.out).2.1); rintro e w13 ⟨v154, rfl, ho0, hb⟩; refine ⟨_, rfl, ?_⟩; have n0_ := Aside0.mk (Kd.V_elder' (by (with_reducible repeat (first | apply Kd.V_alloc | apply Kd.V_drewN | apply Kd.V_drew)); exact HO0.out) (Kd.R_base ho0) hb); have n1_ := Aside0.mk (Kd.V_elder' (by (with_reducible repeat (first | apply Kd.V_alloc | apply Kd.V_drewN | apply Kd.V_drew)); exact HO1.out) (Kd.R_base ho0) hb); have n2_ := Aside0.mk (Kd.N_elder' (by (with_reducible repeat (first | apply Kd.N_alloc | apply Kd.N_drewN | apply Kd.N_drew)); exact HO152.out) (Kd.R_base ho0) hb); have n3_ := Aside0.mk (Kd.R_lower (Kd.R_newM (M := fun k_ => (w.heap.size ≤ k_)) ho0 (below_size (by repeat (first | (with_reducible first | exact HB.out | apply below_alloc | apply pw_below_drewN | apply below_drew1) | exact HB.out))) (fun k_ h_ => h_)) (below_size (by repeat (first | (with_reducible first | exact HB.out | apply below_alloc | apply pw_below_drewN | apply below_drew1) | exact HB.out)))); have n4_ := Aside0.mk (below_step (by repeat (first | (with_reducible first | exact HB.out | apply below_alloc | apply pw_below_drewN | apply below_drew1) | exact HB.out)) hb); clear HO0; clear HO1; clear HO152; clear HB; have HO0 := n0_; have HO1 := n1_; have HO152 := n2_; have HO155 := n3_; have HB := n4_; clear n0_ n1_ n2_ n3_ n4_; (try clear hb); (try clear hb2); (try clear hk); (try clear hi); (try clear ho0); obtain ⟨Ao14, co14, eo14⟩ := Kd.R_slice HO155.out; subst eo14) | ((with_reducible refine gate_callee (f := 59) rfl ?_); refine goesL_ (some 17) rfl rfl Try.func59 (by kernel_rfl) rfl #[.slice Ao14 t153.length co14] rfl (by (try simp only [List.map_toArray, List.map_cons, List.map_nil]); first | done | rfl | (simp only [List.length_drop, List.length_take]; rfl)) ?_; (with_reducible refine (frame_Seal.calls _ _ t153 t156 _ ?side1 ?side2 A6.out).mono ?_); (case side1 => repeat (first | exact (Kd.R_reads' HO155.out).2.2 | (with_reducible refine Kd.C_alloc ?_ _) | (with_reducible refine Kd.C_drewN ?_ _) | (with_reducible refine Kd.C_drew ?_))); (case side2 => exact (Kd.R_reads' HO155.out).2.1); rintro e w15 ⟨v157, rfl, ho0, hb⟩; refine ⟨_, rfl, ?_⟩; have n0_ := Aside0.mk (Kd.V_elder' (by (with_reducible repeat (first | apply Kd.V_alloc | apply Kd.V_drewN | apply Kd.V_drew)); exact HO0.out) (Kd.R_base ho0) hb); have n1_ := Aside0.mk (Kd.V_elder' (by (with_reducible repeat (first | apply Kd.V_alloc | apply Kd.V_drewN | apply Kd.V_drew)); exact HO1.out) (Kd.R_base ho0) hb); have n2_ := Aside0.mk (Kd.N_elder' (by (with_reducible repeat (first | apply Kd.N_alloc | apply Kd.N_drewN | apply Kd.N_drew)); exact HO152.out) (Kd.R_base ho0) hb); have n3_ := Aside0.mk (Kd.R_elder' (by (with_reducible repeat (first | apply Kd.R_alloc | apply Kd.R_drewN | apply Kd.R_drew)); exact HO155.out) (Kd.R_base ho0) hb); have n4_ := Aside0.mk (Kd.R_lower (Kd.R_new' (Kd.R_newM (M := fun k_ => (w.heap.size ≤ k_)) ho0 (below_size (by repeat (first | (with_reducible first | exact HB.out | apply below_alloc | apply pw_below_drewN | apply below_drew1) | exact HB.out))) (fun k_ h_ => h_)) (Kd.R_lt (by (with_reducible repeat (first | apply Kd.R_alloc | apply Kd.R_drewN | apply Kd.R_drew)); exact HO155.out))) (below_size (by repeat (first | (with_reducible first | exact HB.out | apply below_alloc | apply pw_below_drewN | apply below_drew1) | exact HB.out)))); have n5_ := Aside0.mk (below_step (by repeat (first | (with_reducible first | exact HB.out | apply below_alloc | apply pw_below_drewN | apply below_drew1) | exact HB.out)) hb); clear HO0; clear HO1; clear HO152; clear HO155; clear HB; have HO0 := n0_; have HO1 := n1_; have HO152 := n2_; have HO155 := n3_; have HO158 := n4_; have HB := n5_; clear n0_ n1_ n2_ n3_ n4_ n5_; (try clear hb); (try clear hb2); (try clear hk); (try clear hi); (try clear ho0); obtain ⟨Ao16, co16, eo16⟩ := Kd.R_slice HO158.out; subst eo16) | ((with_reducible refine gate_dst (N := 18) rfl ?_); refine Kd.N_lit (Kd.slice 5 (Kd.int .u8)) _ 26 ?hg (N' := 18) ?hd (xs := ([l0, t156] : List (List Int))) (inner := [.slice A0 l0.length c0, .slice Ao16 t156.length co16]) (ok := (fun k_ => ((P0_ k_ ∨ P1_ k_) ∨ w.heap.size ≤ k_) ∧ some k_ ≠ (.slice Ao12 y150.length co12 : Value).ownBlock ∧ some k_ ≠ (.slice Ao14 t153.length co14 : Value).ownBlock)) (okp := (fun k_ => ((P0_ k_ ∨ P1_ k_) ∨ w.heap.size ≤ k_) ∧ some k_ ≠ (.slice Ao12 y150.length co12 : Value).ownBlock ∧ some k_ ≠ (.slice Ao14 t153.length co14 : Value).ownBlock)) ?hr ?hp (fun _ hk => hk) ((show ∀ k_, w15.heap.size ≤ k_ → (fun k_ => ((P0_ k_ ∨ P1_ k_) ∨ w.heap.size ≤ k_) ∧ some k_ ≠ (.slice Ao12 y150.length co12 : Value).ownBlock ∧ some k_ ≠ (.slice Ao14 t153.length co14 : Value).ownBlock) k_ from fun k_ hk => ⟨(.inr (Nat.le_trans (below_size (by repeat (first | (with_reducible first | exact HB.out | apply below_alloc | apply pw_below_drewN | apply below_drew1) | exact HB.out))) hk)), Kd.fresh' (Kd.N_lt (by (with_reducible repeat (first | apply Kd.N_alloc | apply Kd.N_drewN | apply Kd.N_drew)); exact HO152.out)) k_ hk, Kd.fresh' (Kd.R_lt (by (with_reducible repeat (first | apply Kd.R_alloc | apply Kd.R_drewN | apply Kd.R_drew)); exact HO155.out)) k_ hk⟩) _ (Nat.le_refl _)) (Below.refl _ _) (Nat.le_refl _) (by simp) ?_; (case hd => rfl); (case hg => rfl); (case hr => first | (go_simp; done) | (go_simp; rfl)); (case hp => exact (Reps.one (show Kd.FK (Kd.slice 5 (Kd.int .u8)) _ _ l0 [.slice A0 l0.length c0] from (Kd.FK_slice_mk (Kd.V_reads' (Kd.V_mono (ok' := (fun k_ => ((P0_ k_ ∨ P1_ k_) ∨ w.heap.size ≤ k_) ∧ some k_ ≠ (.slice Ao12 y150.length co12 : Value).ownBlock ∧ some k_ ≠ (.slice Ao14 t153.length co14 : Value).ownBlock)) (HO0.out) (fun k_ hk => ⟨hk.1.1.1.1, ⟨hk.1.1.2, hk.1.2⟩⟩))).2.1 (Kd.V_F (Kd.V_mono (ok' := (fun k_ => ((P0_ k_ ∨ P1_ k_) ∨ w.heap.size ≤ k_) ∧ some k_ ≠ (.slice Ao12 y150.length co12 : Value).ownBlock ∧ some k_ ≠ (.slice Ao14 t153.length co14 : Value).ownBlock)) (HO0.out) (fun k_ hk => ⟨hk.1.1.1.1, ⟨hk.1.1.2, hk.1.2⟩⟩))))) (Reps.one (show Kd.FK (Kd.slice 5 (Kd.int .u8)) _ _ t156 [.slice Ao16 t156.length co16] from (Kd.FK_slice_mk (Kd.R_reads' (Kd.R_mono (ok' := (fun k_ => ((P0_ k_ ∨ P1_ k_) ∨ w.heap.size ≤ k_) ∧ some k_ ≠ (.slice Ao12 y150.length co12 : Value).ownBlock ∧ some k_ ≠ (.slice Ao14 t153.length co14 : Value).ownBlock)) (Kd.R_apart' (HO158.out) (Kd.N_typed HO152.out) (by decide)) (fun k_ hk => ⟨(.inr (hk.1.1.1)), ⟨hk.2, hk.1.2⟩⟩))).2.1 (Kd.R_F (Kd.R_mono (ok' := (fun k_ => ((P0_ k_ ∨ P1_ k_) ∨ w.heap.size ≤ k_) ∧ some k_ ≠ (.slice Ao12 y150.length co12 : Value).ownBlock ∧ some k_ ≠ (.slice Ao14 t153.length co14 : Value).ownBlock)) (Kd.R_apart' (HO158.out) (Kd.N_typed HO152.out) (by decide)) (fun k_ hk => ⟨(.inr (hk.1.1.1)), ⟨hk.2, hk.1.2⟩⟩))))) (Reps.none _ _)))); intro v160 w17 ho18 hb hg_ hnew_; clear hg_ hnew_; (first | rw [← Ny159.out] at ho18 | (simp only [Int.reduceToNat] at ho18; rw [← Ny159.out] at ho18)); have n0_ := Aside0.mk (Kd.V_elder' (by (with_reducible repeat (first | apply Kd.V_alloc | apply Kd.V_drewN | apply Kd.V_drew)); exact HO0.out) (Kd.N_base ho18) hb); have n1_ := Aside0.mk (Kd.V_elder' (by (with_reducible repeat (first | apply Kd.V_alloc | apply Kd.V_drewN | apply Kd.V_drew)); exact HO1.out) (Kd.N_base ho18) hb); have n2_ := Aside0.mk (Kd.N_elder' (by (with_reducible repeat (first | apply Kd.N_alloc | apply Kd.N_drewN | apply Kd.N_drew)); exact HO152.out) (Kd.N_base ho18) hb); have n3_ := Aside0.mk (Kd.R_below (by (with_reducible repeat (first | apply Kd.R_alloc | apply Kd.R_drewN | apply Kd.R_drew)); exact HO155.out) hb); have n4_ := Aside0.mk (Kd.N_lower ho18 (below_size (by repeat (first | (with_reducible first | exact HB.out | apply below_alloc | apply pw_below_drewN | apply below_drew1) | exact HB.out)))); have n5_ := Aside0.mk (below_step (by repeat (first | (with_reducible first | exact HB.out | apply below_alloc | apply pw_below_drewN | apply below_drew1) | exact HB.out)) hb); clear HO0; clear HO1; clear HO152; clear HO155; clear HB; clear HO158; have HO0 := n0_; have HO1 := n1_; have HO152 := n2_; have HO155 := n3_; have HO161 := n4_; have HB := n5_; clear n0_ n1_ n2_ n3_ n4_ n5_; clear hb ho18; obtain ⟨Ao19, co19, eo19⟩ := Kd.N_slice HO161.out; subst eo19) | ((with_reducible refine gate_callee (f := 58) rfl ?_); refine goesL_ (some 19) rfl rfl Try.func58 (by kernel_rfl) rfl #[.slice Ao19 y159.length co19] rfl (by (try simp only [List.map_toArray, List.map_cons, List.map_nil]); first | done | rfl | (simp only [List.length_drop, List.length_take]; rfl)) ?_; (with_reducible refine (slices_Concat_byte_byte.calls _ _ y159 t162 _ ?side1 ?side2 A7.out).mono ?_); (case side1 => repeat (first | exact (Kd.N_reads' HO161.out).2.2 | (with_reducible refine Kd.C_alloc ?_ _) | (with_reducible refine Kd.C_drewN ?_ _) | (with_reducible refine Kd.C_drew ?_))); (case side2 => exact (Kd.N_reads' HO161.out).2.1); rintro e w20 ⟨v163, rfl, ho0, hb⟩; refine ⟨_, rfl, ?_⟩; have n0_ := Aside0.mk (Kd.V_elder' (by (with_reducible repeat (first | apply Kd.V_alloc | apply Kd.V_drewN | apply Kd.V_drew)); exact HO0.out) (Kd.R_base ho0) hb); have n1_ := Aside0.mk (Kd.V_elder' (by (with_reducible repeat (first | apply Kd.V_alloc | apply Kd.V_drewN | apply Kd.V_drew)); exact HO1.out) (Kd.R_base ho0) hb); have n2_ := Aside0.mk (Kd.N_elder' (by (with_reducible repeat (first | apply Kd.N_alloc | apply Kd.N_drewN | apply Kd.N_drew)); exact HO152.out) (Kd.R_base ho0) hb); have n3_ := Aside0.mk (Kd.R_elder' (by (with_reducible repeat (first | apply Kd.R_alloc | apply Kd.R_drewN | apply Kd.R_drew)); exact HO155.out) (Kd.R_base ho0) hb); have n4_ := Aside0.mk (Kd.N_elder' (by (with_reducible repeat (first | apply Kd.N_alloc | apply Kd.N_drewN | apply Kd.N_drew)); exact HO161.out) (Kd.R_base ho0) hb); have n5_ := Aside0.mk (Kd.R_lower (Kd.R_new' (Kd.R_newM (M := fun k_ => (w.heap.size ≤ k_)) ho0 (below_size (by repeat (first | (with_reducible first | exact HB.out | apply below_alloc | apply pw_below_drewN | apply below_drew1) | exact HB.out))) (fun k_ h_ => h_)) (Kd.R_lt (by (with_reducible repeat (first | apply Kd.R_alloc | apply Kd.R_drewN | apply Kd.R_drew)); exact HO155.out))) (below_size (by repeat (first | (with_reducible first | exact HB.out | apply below_alloc | apply pw_below_drewN | apply below_drew1) | exact HB.out)))); have n6_ := Aside0.mk (below_step (by repeat (first | (with_reducible first | exact HB.out | apply below_alloc | apply pw_below_drewN | apply below_drew1) | exact HB.out)) hb); clear HO0; clear HO1; clear HO152; clear HO155; clear HO161; clear HB; have HO0 := n0_; have HO1 := n1_; have HO152 := n2_; have HO155 := n3_; have HO161 := n4_; have HO164 := n5_; have HB := n6_; clear n0_ n1_ n2_ n3_ n4_ n5_ n6_; (try clear hb); (try clear hb2); (try clear hk); (try clear hi); (try clear ho0)))
  go_ret2
  exact ⟨_, by first | rfl | (simp [errW_none, errW_some] <;> rfl) | (simp [*, errW_none, errW_some] <;> rfl), by (with_reducible repeat (first | apply Kd.R_alloc | apply Kd.R_drewN | apply Kd.R_drew)); exact Kd.R_mono HO164.out (fun _ hk => hk.1.1), by repeat (first | (with_reducible first | exact HB.out | apply below_alloc | apply pw_below_drewN | apply below_drew1) | exact HB.out)⟩

/-! ### dict_builder_flush: function 26 -/
/-- A row of the call's own, cleared and cut to nothing. -/
theorem N_clear {α : Type} {d : Kd α} {e base g n cap : Nat} {ok : Nat → Prop} {W : World} {xs : List α} (h : Kd.N d e W base ok (.slice (some ⟨g, 0, none⟩) n cap) xs) (hsz : d.sz = 1) (z : Value) :
  Kd.N d e (W.setCells g 0 (List.replicate n z)) base ok (.slice (some ⟨g, 0, none⟩) 0 cap) [] ∧ (∀ j, j < n → (W.cell? ⟨g, 0 + j, none⟩).isSome = true) ∧ (∀ j, j < n → W.frozen? ⟨g, 0 + j, none⟩ = false) := by
 obtain ⟨h0, rows, hl, ⟨_, inner, ⟨hi, ho⟩, hr⟩, hf⟩ := h
 rcases ho with ⟨hv, _⟩ | ⟨g', cap', cur, hv, hb, hh, hnc, hcm, hcs, ht⟩
 ·cases hv
 have hs1 : (Kd.raw d.sz).sz = 1 := hsz
 injection hv with ha hn hc
 injection ha with ha
 injection ha with hg
 subst hg; subst hc
 obtain ⟨cur', h3, h4, h5⟩ := setCells_row (List.replicate n z) 0 W cur hh (by rw [List.length_replicate, hcs, hs1]; omega)
 have hob : ∀ a : Nat, (Value.slice (some ⟨g, 0, none⟩) a cap).ownBlock = some g := fun _ => rfl
 refine ⟨⟨fun k hk => h0 k (by rw [hob] at hk ⊢; exact hk), [], rfl, ⟨fun k hk => by rw [hk], [], ⟨by simp, .inr ⟨g, cap, cur', rfl, hb, h3, Nat.zero_le _, hcm, by rw [h4, hcs], by simp⟩⟩, ⟨by simp, fun j p hj => by simp at hj⟩⟩, fun j x c hx _ => by simp at hx⟩, fun j hj => ?_, fun j hj => ?_⟩
 ·have : W.cell? ⟨g, 0 + j, none⟩ = cur[j]? := by rw [Nat.zero_add]; exact cell_of_row W g j cur e (0, 0) hh
  rw [this, Array.getElem?_eq_getElem (by rw [hcs, hs1]; omega)]
  rfl
 ·simp [World.frozen?, hh]
theorem N_nothing {α : Type} {d : Kd α} {e base cap n : Nat} {A : Option Addr} {ok : Nat → Prop} {W : World} {xs : List α} (h : Kd.N d e W base ok (.slice A n cap) xs) : n ≤ cap := (Kd.N_reads' h).2.1
/-- The builder in memory: its block q; what it has stands in blocks from m on. -/
def BdIs (W : World) (q m : Nat) (out : List Int) (opn : List (List Int)) (last : List Int) : Prop :=
 q < m ∧ m ≤ W.heap.size ∧ ∃ A0 c0 vp A2 c2, W.heap[q]? = some (.cells #[.slice A0 out.length c0, vp, .slice A2 last.length c2] 57) ∧ out.length ≤ c0 ∧ last.length ≤ c2 ∧
  Kd.N (Kd.slice 5 (Kd.int .u8)) 26 W m (fun k => m ≤ k) vp opn ∧ Kd.F (Kd.int .u8) W (fun k => m ≤ k ∧ some k ≠ vp.ownBlock) A0 out.length out ∧ Kd.F (Kd.int .u8) W (fun k => m ≤ k ∧ some k ≠ vp.ownBlock) A2 last.length last
/-- What the builder's functions leave alone. -/
def BdStep (q m : Nat) (w w' : World) : Prop := w'.os = w.os ∧ w'.tape = w.tape ∧ w'.output = w.output ∧ w.heap.size ≤ w'.heap.size ∧ ∀ k, k < m → k ≠ q → w'.heap[k]? = w.heap[k]?
theorem BdStep.below {q m : Nat} {w w' : World} (h : Below w.heap.size w w') (hm : m ≤ w.heap.size) : BdStep q m w w' := ⟨h.os, h.tape, h.output, h.size, fun k hk _ => h.block k (by omega)⟩
theorem BdStep.trans {q m : Nat} {a b c : World} (h : BdStep q m a b) (k : BdStep q m b c) : BdStep q m a c :=
 ⟨k.1.trans h.1, k.2.1.trans h.2.1, k.2.2.1.trans h.2.2.1, Nat.le_trans h.2.2.2.1 k.2.2.2.1, fun i hi hq => (k.2.2.2.2 i hi hq).trans (h.2.2.2.2 i hi hq)⟩
def dict_builder_flush.f (k : Nat) (out : List Int) (opn : List (List Int)) : Option (List Int × Int) :=
 if opn.length = 0 then some (out, 0) else (words_Put.f k opn).bind fun p => if p.2 = 0 then frame_Put.f k out p.1 else some ([], p.2)
theorem frozen_of_row {W : World} {q i : Nat} {T : TypeId} {cells : Array Value} (h : W.heap[q]? = some (.cells cells T)) : W.frozen? ⟨q, i, none⟩ = false := by simp [World.frozen?, h]
theorem row3_0 {W : World} {q : Nat} {T : TypeId} {a b c : Value} (h : W.heap[q]? = some (.cells #[a, b, c] T)) (u : Value) : (W.setCell ⟨q, 0, none⟩ u).heap[q]? = some (.cells #[u, b, c] T) := heap_setCell_same W q 0 _ T u h
theorem row3_1 {W : World} {q : Nat} {T : TypeId} {a b c : Value} (h : W.heap[q]? = some (.cells #[a, b, c] T)) (u : Value) : (W.setCell ⟨q, 1, none⟩ u).heap[q]? = some (.cells #[a, u, c] T) := heap_setCell_same W q 1 _ T u h
theorem row3_2 {W : World} {q : Nat} {T : TypeId} {a b c : Value} (h : W.heap[q]? = some (.cells #[a, b, c] T)) (u : Value) : (W.setCell ⟨q, 2, none⟩ u).heap[q]? = some (.cells #[a, b, u] T) := heap_setCell_same W q 2 _ T u h
set_option maxHeartbeats 8000000 in
set_option maxRecDepth 100000 in
theorem dict_builder_flush.calls (k q m : Nat) (out : List Int) (opn : List (List Int)) (last : List Int) (o : List Int) (ec : Int) (w : World) (hS : BdIs w q m out opn last) (hn : opn.length ≤ 1000000) (h : dict_builder_flush.f k out opn = some (o, ec)) :
  Calls Try.prog 26 #[.pointer (some ⟨q, 0, none⟩)] w fun e w' => e = .returned (.int .i64 ec) ∧ (ec = 0 → BdIs w' q m o [] last) ∧ BdStep q m w w' := by
 have HS := Aside0.mk hS
 obtain ⟨hqm, hmw, A0, c0, vp, A2, c2, hq, hc0, hc2, hN, hF0, hF2⟩ := hS
 obtain ⟨Ap, cp, rfl⟩ := Kd.N_slice hN
 have hqw : q < w.heap.size := (Array.getElem?_eq_some_iff.1 hq).1
 have r0 : w.cell? ⟨q, 0, none⟩ = some (.slice A0 out.length c0) := cell_of_row _ _ _ _ _ _ hq
 have r1 : w.cell? ⟨q, 1, none⟩ = some (.slice Ap opn.length cp) := cell_of_row _ _ _ _ _ _ hq
 have HQ := Aside0.mk hq
 have HN := Aside0.mk hN
 have HF0 := Aside0.mk hF0
 have HF2 := Aside0.mk hF2
 clear hq hN hF0 hF2
 unfold dict_builder_flush.f at h
 by_cases hz : opn.length = 0
 ·rw [if_pos hz] at h
  obtain ⟨rfl, rfl⟩ : out = o ∧ 0 = ec := by
   have h1 := Option.some.inj h
   exact ⟨congrArg Prod.fst h1, congrArg Prod.snd h1⟩
  have hd : decide ((opn.length : Int) = 0) = true := decide_eq_true (by omega)
  obtain rfl : opn = [] := List.eq_nil_of_length_eq_zero hz
  clear h hz
  go_enter Try.func26, Try.ntmps26
  go_wp2
  go_ret
  exact ⟨rfl, fun _ => HS.out, BdStep.below (Below.refl _ _) hmw⟩
 ·rw [if_neg hz] at h
  obtain ⟨⟨p, e0⟩, hp, h'⟩ := Option.bind_eq_some_iff.mp h
  have HP := Aside0.mk hp
  clear hp h
  simp only at h'
  obtain ⟨g, cap, hform, hgm, hgw, cells, hgc⟩ := Kd.N_form HN.out (by omega)
  injection hform with hA _ hC
  subst hA
  subst hC
  have HGC := Aside0.mk hgc
  have HL0 : Aside0 (¬ (opn.length : Int) = 0) := ⟨by omega⟩
  have hd : decide ((opn.length : Int) = 0) = false := decide_eq_false (by omega)
  have hd2 : decide (opn.length = 0) = false := decide_eq_false (by omega)
  clear hgc
  by_cases he : e0 = 0
  ·subst he
   rw [if_pos rfl] at h'
   have HH := Aside0.mk h'
   clear h'
   go_enter Try.func26, Try.ntmps26
   go_wp2_with (first | (go_at_call 40; (with_reducible refine (words_Put.calls k (fun k_ => m ≤ k_) _ _ opn p 0 _ (Kd.N_V HN.out) HP.out).mono ?_); rintro e w1 ⟨v1, rfl, ho, hb⟩; obtain ⟨A1, c1, rfl⟩ := Kd.R_slice ho; have HX := Aside0.mk ho; have q1 := (hb.block q hqw).trans HQ.out; have s1 : w1.cell? ⟨q, 1, none⟩ = some (.slice (some ⟨g, 0, none⟩) opn.length cp) := cell_of_row _ _ _ _ _ _ q1; have HQ1 := Aside0.mk q1; have HB1 := Aside0.mk hb; clear ho hb q1))
   have hcl := N_clear (Kd.N_below HN.out HB1.out) rfl (.slice none 0 0)
   have hk := fun ty => Lib.run_clear_slice (P := Try.prog) w1 22 26 ty (.slice none 0 0) Try.underlying22 (fun _ => by kernel_rfl) rfl rfl g 0 opn.length cp (by omega) hcl.2.1 hcl.2.2
   have HCL := Aside0.mk hcl.1
   clear hcl
   rw [hk 0]
   simp only [Result.andThen]
   rw [Oper.upon_value]
   obtain ⟨n2, hn2, hn2c, hcut, -⟩ := Hand.cut_take (P := Try.prog) 22 .i64 Try.underlying22 (by kernel_rfl) (Kd.N_F HN.out) (N_nothing HN.out) 0 (Nat.zero_le _)
   simp only [List.take_zero, List.length_nil] at hn2
   subst hn2
   simp only [Int.ofNat_eq_natCast, Int.natCast_zero] at hcut
   have hfar : ∀ k_, k_ ≠ g → (w1.setCells g 0 (List.replicate opn.length (.slice none 0 0))).heap[k_]? = w1.heap[k_]? := fun k_ hk_ => setCells_far _ 0 k_ hk_
   have hsame := setCells_same g (List.replicate opn.length (.slice none 0 0)) 0 w1
   obtain ⟨w2, hw2⟩ : ∃ w2, w1.setCells g 0 (List.replicate opn.length (.slice none 0 0)) = w2 := ⟨_, rfl⟩
   rw [hw2] at HCL hfar hsame ⊢
   have HSZ := Aside0.mk HB1.out.size
   have hsz : w.heap.size ≤ w1.heap.size := HB1.out.size
   have q2 := (hfar q (by omega)).trans HQ1.out
   have s2 : w2.cell? ⟨q, 1, none⟩ = some (.slice (some ⟨g, 0, none⟩) opn.length cp) := cell_of_row _ _ _ _ _ _ q2
   have fs2 : w2.frozen? ⟨q, 1, none⟩ = false := frozen_of_row q2
   have q3 := row3_1 q2 (.slice (some ⟨g, 0, none⟩) 0 cp)
   have s3 : (w2.setCell ⟨q, 1, none⟩ (.slice (some ⟨g, 0, none⟩) 0 cp)).cell? ⟨q, 0, none⟩ = some (.slice A0 out.length c0) := cell_of_row _ _ _ _ _ _ q3
   have hne : ∀ k_, m ≤ k_ ∧ some k_ ≠ (Value.slice (some ⟨g, 0, none⟩) opn.length cp).ownBlock → k_ ≠ g := fun k_ h_ e_ => h_.2 (by rw [e_]; rfl)
   have h3 : ∀ k_, k_ ≠ q → (w2.setCell ⟨q, 1, none⟩ (.slice (some ⟨g, 0, none⟩) 0 cp)).heap[k_]? = w2.heap[k_]? := fun k_ hk_ => Below.heap_setCell _ ⟨q, 1, none⟩ _ k_ hk_
   have hz3 : (w2.setCell ⟨q, 1, none⟩ (.slice (some ⟨g, 0, none⟩) 0 cp)).heap.size = w2.heap.size := by simp
   have hf0 : Kd.F (Kd.int .u8) (w2.setCell ⟨q, 1, none⟩ (.slice (some ⟨g, 0, none⟩) 0 cp)) (fun k => m ≤ k ∧ some k ≠ (Value.slice (some ⟨g, 0, none⟩) opn.length cp).ownBlock) A0 out.length out :=
    Kd.F_step (Kd.F_step (Kd.F_below HF0.out HB1.out) (fun k_ h_ _ => hfar k_ (hne k_ h_))) (fun k_ h_ _ => h3 k_ (by omega))
   have hf2 : Kd.F (Kd.int .u8) (w2.setCell ⟨q, 1, none⟩ (.slice (some ⟨g, 0, none⟩) 0 cp)) (fun k => m ≤ k ∧ some k ≠ (Value.slice (some ⟨g, 0, none⟩) opn.length cp).ownBlock) A2 last.length last :=
    Kd.F_step (Kd.F_step (Kd.F_below HF2.out HB1.out) (fun k_ h_ _ => hfar k_ (hne k_ h_))) (fun k_ h_ _ => h3 k_ (by omega))
   have hfx : Kd.F (Kd.int .u8) (w2.setCell ⟨q, 1, none⟩ (.slice (some ⟨g, 0, none⟩) 0 cp)) (fun k => w.heap.size ≤ k) A1 p.length p :=
    Kd.F_step (Kd.F_step (Kd.R_F HX.out) (fun k_ h_ _ => hfar k_ (by omega))) (fun k_ h_ _ => h3 k_ (by omega))
   have hn3 := Kd.N_step HCL.out (fun k_ h_ _ => h3 k_ (by omega))
   have HF0' := Aside0.mk hf0
   have HF2' := Aside0.mk hf2
   have HFX := Aside0.mk hfx
   have HXC := Aside0.mk (Kd.R_reads' HX.out).2.1
   have HN3 := Aside0.mk hn3
   have HQ3 := Aside0.mk q3
   have HFAR := Aside0.mk hfar
   have HSAME := Aside0.mk hsame
   have H3 := Aside0.mk h3
   have HZ3 := Aside0.mk hz3
   have hc0' := Aside0.mk hc0
   have hc2' := Aside0.mk hc2
   clear hf0 hf2 hfx hn3 q2 q3 hfar hsame hk hne h3 hz3 HN HF0 HF2 HCL r0 r1 s1 hn2c hc0 hc2
   go_wp2_with (first | (go_at_call 41; (with_reducible refine (frame_Put.calls k (fun k_ => m ≤ k_ ∧ some k_ ≠ (Value.slice (some ⟨g, 0, none⟩) opn.length cp).ownBlock) A0 c0 out (fun k_ => w.heap.size ≤ k_) A1 c1 p o ec _ (Kd.V_mk hc0'.out HF0'.out) (Kd.V_mk HXC.out HFX.out) HH.out).mono ?_); go_loud (rintro e w4 ⟨v4, rfl, ho, hb⟩; obtain ⟨A4, c4, rfl⟩ := Kd.R_slice ho; have HX4 := Aside0.mk ho; have q4 := (hb.block q (by rw [HZ3.out, HSAME.out.2.2.2]; omega)).trans HQ3.out; have s4 : w4.cell? ⟨q, 0, none⟩ = some (.slice A0 out.length c0) := cell_of_row _ _ _ _ _ _ q4; have fs4 : w4.frozen? ⟨q, 0, none⟩ = false := frozen_of_row q4; have HQ4 := Aside0.mk q4; have HB4 := Aside0.mk hb; clear ho hb q4)))
   go_ret
   have hz4 := HB4.out.size
   rw [HZ3.out, HSAME.out.2.2.2] at hz4
   have h5 : ∀ k_, k_ ≠ q → (w4.setCell ⟨q, 0, none⟩ (.slice A4 o.length c4)).heap[k_]? = w4.heap[k_]? := fun k_ hk_ => Below.heap_setCell _ ⟨q, 0, none⟩ _ k_ hk_
   refine ⟨rfl, fun _ => ⟨hqm, by simp; omega, A4, c4, .slice (some ⟨g, 0, none⟩) 0 cp, A2, c2, row3_0 HQ4.out _, (Kd.R_reads' HX4.out).2.1, hc2'.out, Kd.N_step (Kd.N_below HN3.out HB4.out) (fun k_ h_ _ => h5 k_ (by omega)), ?_, ?_⟩, ?_⟩
   ·refine Kd.F_mono (Kd.F_step (Kd.R_F HX4.out) (fun k_ h_ _ => h5 k_ (by rw [HZ3.out, HSAME.out.2.2.2] at h_; omega))) (fun k_ h_ => ?_)
    rw [HZ3.out, HSAME.out.2.2.2] at h_
    exact ⟨by omega, fun e_ => by have : k_ = g := Option.some.inj e_; omega⟩
   ·exact Kd.F_mono (Kd.F_step (Kd.F_below HF2'.out HB4.out) (fun k_ h_ _ => h5 k_ (by omega))) (fun k_ h_ => h_)
   ·have hb4 := HB4.out
    have hb1 := HB1.out
    obtain ⟨s1, s2, s3, s4⟩ := HSAME.out
    refine ⟨hb4.os.trans (s1.trans hb1.os), hb4.tape.trans (s2.trans hb1.tape), hb4.output.trans (s3.trans hb1.output), by simp; omega, fun k_ hk_ hq_ => ?_⟩
    rw [h5 k_ hq_, hb4.block k_ (by rw [HZ3.out, s4]; omega), H3.out k_ hq_, HFAR.out k_ (by omega), hb1.block k_ (by omega)]
  ·rw [if_neg he] at h'
   obtain ⟨rfl, rfl⟩ : [] = o ∧ e0 = ec := by
    have h1 := Option.some.inj h'
    exact ⟨congrArg Prod.fst h1, congrArg Prod.snd h1⟩
   clear h'
   have d5 : (e0 != 0) = true := bne_iff_ne.mpr he
   go_enter Try.func26, Try.ntmps26
   go_wp2_with (first | (go_at_call 40; (with_reducible refine (words_Put.calls k (fun k_ => m ≤ k_) _ _ opn p e0 _ (Kd.N_V HN.out) HP.out).mono ?_); rintro e w1 ⟨v1, rfl, ho, hb⟩; obtain ⟨A1, c1, rfl⟩ := Kd.R_slice ho; have HB1 := Aside0.mk hb; clear ho hb))
   go_ret
   exact ⟨rfl, fun h_ => absurd h_ he, BdStep.below HB1.out hmw⟩

/-! ### dict_builder_add: function 25 -/
theorem BdIs.step {q m : Nat} {out : List Int} {opn : List (List Int)} {last : List Int} {W W' : World} (h : BdIs W q m out opn last) (hb : Below W.heap.size W W') : BdIs W' q m out opn last := by
 obtain ⟨h1, h2, A0, c0, vp, A2, c2, h3, h4, h5, h6, h7, h8⟩ := h
 exact ⟨h1, Nat.le_trans h2 hb.size, A0, c0, vp, A2, c2, (hb.block _ (Array.getElem?_eq_some_iff.1 h3).1).trans h3, h4, h5, Kd.N_below h6 hb, Kd.F_below h7 hb, Kd.F_below h8 hb⟩
def dict_builder_add.f (k : Nat) (out : List Int) (opn : List (List Int)) (last x : List Int) : Option ((List Int × List (List Int) × List Int) × Int) :=
 if x.length < 1 ∨ 32 < x.length then some ((out, opn, last), 1) else
 (bytes_Compare.f last x).bind fun c => if 0 ≤ c then some ((out, opn, last), 1) else
  if opn.length ≤ 1000 then (if opn.length + 1 < 16 then some ((out, opn ++ [x], x), 0) else (dict_builder_flush.f k out (opn ++ [x])).bind fun p => some ((p.1, [], x), p.2)) else none
set_option maxHeartbeats 8000000 in
set_option maxRecDepth 100000 in
theorem dict_builder_add.calls (k q m : Nat) (out : List Int) (opn : List (List Int)) (last : List Int) (Ax : Option Addr) (cx : Nat) (x : List Int) (s : List Int × List (List Int) × List Int) (ec : Int) (w : World) (hS : BdIs w q m out opn last) (hr : Kd.C (Kd.int .u8) w Ax x.length x) (hc : x.length ≤ cx) (h : dict_builder_add.f k out opn last x = some (s, ec)) :
  Calls Try.prog 25 #[.pointer (some ⟨q, 0, none⟩), .slice Ax x.length cx] w fun e w' => e = .returned (.int .i64 ec) ∧ (ec = 0 → BdIs w' q m s.1 s.2.1 s.2.2) ∧ BdStep q m w w' := by
 have HS := Aside0.mk hS
 obtain ⟨hqm, hmw, A0, c0, vp, A2, c2, hq, hc0, hc2, hN, hF0, hF2⟩ := hS
 obtain ⟨Ap, cp, rfl⟩ := Kd.N_slice hN
 have hqw : q < w.heap.size := (Array.getElem?_eq_some_iff.1 hq).1
 have r0 : w.cell? ⟨q, 0, none⟩ = some (.slice A0 out.length c0) := cell_of_row _ _ _ _ _ _ hq
 have r1 : w.cell? ⟨q, 1, none⟩ = some (.slice Ap opn.length cp) := cell_of_row _ _ _ _ _ _ hq
 have r2 : w.cell? ⟨q, 2, none⟩ = some (.slice A2 last.length c2) := cell_of_row _ _ _ _ _ _ hq
 have HQ := Aside0.mk hq
 have HN := Aside0.mk hN
 have HF0 := Aside0.mk hF0
 have HF2 := Aside0.mk hF2
 have HR := Aside0.mk hr
 have HC := Aside0.mk hc
 have HC0 := Aside0.mk hc0
 have HC2 := Aside0.mk hc2
 clear hq hN hF0 hF2 hr hc hc0 hc2
 unfold dict_builder_add.f at h
 by_cases hx : x.length < 1 ∨ 32 < x.length
 ·rw [if_pos hx] at h
  obtain ⟨rfl, rfl⟩ : (out, opn, last) = s ∧ 1 = ec := by
   have h1 := Option.some.inj h
   exact ⟨congrArg Prod.fst h1, congrArg Prod.snd h1⟩
  clear h
  by_cases hx1 : x.length < 1
  ·have d1 : decide ((x.length : Int) < 1) = true := decide_eq_true (by omega)
   have d2 : decide (x.length < 1) = true := decide_eq_true hx1
   have d3 : decide (x.length = 0) = true := decide_eq_true (by omega)
   clear hx
   go_enter Try.func25, Try.ntmps25
   go_wp2
   go_ret
   exact ⟨rfl, fun h_ => absurd h_ (by decide), BdStep.below (Below.refl _ _) hmw⟩
  ·have d1 : decide ((x.length : Int) < 1) = false := decide_eq_false (by omega)
   have d2 : decide (x.length < 1) = false := decide_eq_false hx1
   have d3 : decide (x.length = 0) = false := decide_eq_false (by omega)
   have d4 : decide ((32 : Int) < (x.length : Int)) = true := decide_eq_true (by omega)
   have d5 : decide (32 < x.length) = true := decide_eq_true (by omega)
   clear hx
   go_enter Try.func25, Try.ntmps25
   go_wp2
   go_ret
   exact ⟨rfl, fun h_ => absurd h_ (by decide), BdStep.below (Below.refl _ _) hmw⟩
 ·rw [if_neg hx] at h
  have d1 : decide ((x.length : Int) < 1) = false := decide_eq_false (by omega)
  have d2 : decide (x.length < 1) = false := decide_eq_false (by omega)
  have d3 : decide (x.length = 0) = false := decide_eq_false (by omega)
  have d4 : decide ((32 : Int) < (x.length : Int)) = false := decide_eq_false (by omega)
  have d5 : decide (32 < x.length) = false := decide_eq_false (by omega)
  have hxl : x.length ≤ 32 := by omega
  clear hx
  obtain ⟨c, hcm, h'⟩ := Option.bind_eq_some_iff.mp h
  clear h
  have HCM := Aside0.mk hcm
  clear hcm
  by_cases hge : 0 ≤ c
  ·rw [if_pos hge] at h'
   obtain ⟨rfl, rfl⟩ : (out, opn, last) = s ∧ 1 = ec := by
    have h1 := Option.some.inj h'
    exact ⟨congrArg Prod.fst h1, congrArg Prod.snd h1⟩
   clear h'
   have d6 : decide (c < 0) = false := decide_eq_false (by omega)
   have d7 : decide (0 ≤ c) = true := decide_eq_true hge
   go_enter Try.func25, Try.ntmps25
   go_wp2_with (first | (go_at_call 32; (with_reducible refine (bytes_Compare.calls A2 c2 last Ax cx x c _ (Kd.F_now HF2.out) HC2.out HR.out HC.out HCM.out).mono ?_); rintro e w1 ⟨rfl, hb⟩; have HB1 := Aside0.mk hb; clear hb))
   go_ret
   exact ⟨rfl, fun h_ => absurd h_ (by decide), BdStep.below HB1.out hmw⟩
  ·rw [if_neg hge] at h'
   have d6 : decide (c < 0) = true := decide_eq_true (by omega)
   have d7 : decide (0 ≤ c) = false := decide_eq_false hge
   by_cases ho1 : opn.length ≤ 1000
   ·rw [if_pos ho1] at h'
    have HH := Aside0.mk h'
    clear h'
    have HCLF : Aside0 (slices_Clone_byte_byte.f x = some x) := ⟨by unfold slices_Clone_byte_byte.f; simp only [Option.bind_some]; rw [if_pos (by simp; omega), List.nil_append]⟩
    go_enter Try.func25, Try.ntmps25
    go_wp2_with (first | (go_at_call 32; (with_reducible refine (bytes_Compare.calls A2 c2 last Ax cx x c _ (Kd.F_now HF2.out) HC2.out HR.out HC.out HCM.out).mono ?_); rintro e w1 ⟨rfl, hb⟩; have HB1 := Aside0.mk hb; have HR1 := Aside0.mk (Kd.C_below HR.out hb); clear hb) | (go_at_call 38; (with_reducible refine (slices_Clone_byte_byte.calls Ax cx x x _ HR1.out HC.out HCLF.out).mono ?_); rintro e w2 ⟨v3, rfl, ho, hb⟩; obtain ⟨A3, c3, rfl⟩ := Kd.R_slice ho; have HX := Aside0.mk ho; have HB2 := Aside0.mk (below_step HB1.out hb); have q2 := (HB2.out.block q hqw).trans HQ.out; have s2 : w2.cell? ⟨q, 2, none⟩ = some (.slice A2 last.length c2) := cell_of_row _ _ _ _ _ _ q2; have fs2 : w2.frozen? ⟨q, 2, none⟩ = false := frozen_of_row q2; have HB21 := Aside0.mk hb; have HQ2 := Aside0.mk q2; clear ho hb q2))
    have q3 := row3_2 HQ2.out (.slice A3 x.length c3)
    have h3 : ∀ k_, k_ ≠ q → (w2.setCell ⟨q, 2, none⟩ (.slice A3 x.length c3)).heap[k_]? = w2.heap[k_]? := fun k_ hk_ => Below.heap_setCell _ ⟨q, 2, none⟩ _ k_ hk_
    have hz3 : (w2.setCell ⟨q, 2, none⟩ (.slice A3 x.length c3)).heap.size = w2.heap.size := by simp
    have hr3 : (w2.setCell ⟨q, 2, none⟩ (.slice A3 x.length c3)).os = w2.os ∧ (w2.setCell ⟨q, 2, none⟩ (.slice A3 x.length c3)).tape = w2.tape ∧ (w2.setCell ⟨q, 2, none⟩ (.slice A3 x.length c3)).output = w2.output := ⟨rfl, rfl, rfl⟩
    obtain ⟨w3, hw3⟩ : ∃ w3, w2.setCell ⟨q, 2, none⟩ (.slice A3 x.length c3) = w3 := ⟨_, rfl⟩
    rw [hw3] at q3 h3 hz3 hr3 ⊢
    clear hw3 s2 fs2 r0 r1 r2
    have hs21 := HB21.out.size
    have hs1 := HB1.out.size
    have o1 : w3.cell? ⟨q, 1, none⟩ = some (.slice Ap opn.length cp) := cell_of_row _ _ _ _ _ _ q3
    have o2 : w3.cell? ⟨q, 2, none⟩ = some (.slice A3 x.length c3) := cell_of_row _ _ _ _ _ _ q3
    have hd3 : Below w3.heap.size w3 w3.drew := Below.drew (Below.refl _ _)
    have hqd : w3.drew.heap[q]? = some (.cells #[.slice A0 out.length c0, .slice Ap opn.length cp, .slice A3 x.length c3] 57) := q3
    have HQD := Aside0.mk hqd
    have p1_ : (w3.alloc (.cells #[.slice A3 x.length c3] 26)).cell? ⟨q, 1, none⟩ = some (.slice Ap opn.length cp) := cell_of_row _ _ _ _ _ _ ((Below.heap_alloc _ _ _ (show q < w3.heap.size by omega)).trans hqd)
    have p2_ : (w3.alloc (.cells #[.slice A3 x.length c3] 26)).cell? ⟨q, 2, none⟩ = some (.slice A3 x.length c3) := cell_of_row _ _ _ _ _ _ ((Below.heap_alloc _ _ _ (show q < w3.heap.size by omega)).trans hqd)
    have HNL := Aside0.mk (Kd.N_lt HN.out)
    have hn3 := Kd.N_drew (Kd.N_step (Kd.N_below HN.out HB2.out) (fun k_ h_ _ => h3 k_ (by omega)))
    have hf3 := Kd.F_drew (Kd.F_step (Kd.F_below HF0.out HB2.out) (fun k_ h_ _ => h3 k_ (by omega)))
    have hx3 : Kd.F (Kd.int .u8) w3.drew (fun k_ => w1.heap.size ≤ k_ ∧ k_ < w2.heap.size) A3 x.length x := Kd.F_drew (Kd.F_step (Kd.F_mono (Kd.R_F (Kd.R_bound HX.out)) (fun k_ h_ => (⟨h_.2.1, h_.2.2.1⟩ : w1.heap.size ≤ k_ ∧ k_ < w2.heap.size))) (fun k_ h_ _ => h3 k_ (by omega)))
    have HXF := Aside0.mk (show (Kd.slice 5 (Kd.int .u8)).FK w3.drew (fun k_ => w1.heap.size ≤ k_ ∧ k_ < w2.heap.size) x [Value.slice A3 x.length c3] from Kd.FK_slice_mk (Kd.R_reads' HX.out).2.1 hx3)
    have HXC := Aside0.mk (Kd.R_reads' HX.out).2.1
    have HX3 := Aside0.mk hx3
    have HN3 := Aside0.mk hn3
    have HF3 := Aside0.mk hf3
    have HOK : Aside0 (∀ k_, (w1.heap.size ≤ k_ ∧ k_ < w2.heap.size) → m ≤ k_ ∧ some k_ ≠ (Value.slice Ap opn.length cp).ownBlock) := ⟨fun k_ hk => ⟨by omega, fun e_ => by have := HNL.out k_ e_.symm; omega⟩⟩
    have HFRS : Aside0 (∀ k_, w3.drew.heap.size ≤ k_ → m ≤ k_) := ⟨fun k_ hk => by have hk : w3.heap.size ≤ k_ := hk; omega⟩
    have HBM : Aside0 (Below m w3.drew w3.drew) := ⟨Below.refl _ _⟩
    have HMW : Aside0 (m ≤ w3.drew.heap.size) := ⟨by show m ≤ w3.heap.size; omega⟩
    have HLEN : Aside0 ((opn.length + 1) * 24 ≤ 140737488355328) := ⟨by omega⟩
    have HQL : Aside0 (q < w3.drew.heap.size) := ⟨by show q < w3.heap.size; omega⟩
    have HQO := Aside0.mk (fun k_ (hk : (Value.slice Ap opn.length cp).ownBlock = some k_) => HN.out.1 k_ hk)
    have H3 := Aside0.mk h3
    have HR3 := Aside0.mk hr3
    have HZ3 := Aside0.mk hz3
    clear hd3 hqd q3 hn3 hf3 hx3 h3 hr3 hz3
    go_region_law (first | (refine Kd.N_append_step (Kd.slice 5 (Kd.int .u8)) (w0 := w3.drew) m (by rfl) (.tmp 31) (.tmp 36) 22 26 (.slice none 0 0) 24 (by rfl) Try.underlying22 info26 rfl (by decide) (by decide) (.slice Ap opn.length cp) opn x [.slice A3 x.length c3] (fun k_ => m ≤ k_) (fun k_ => w1.heap.size ≤ k_ ∧ k_ < w2.heap.size) (by rfl) (by rfl) HXF.out HOK.out HFRS.out HN3.out HBM.out HMW.out HLEN.out ?_; intro u7 w4 ho hb hg hat; obtain ⟨Au, cu, rfl⟩ := Kd.N_slice ho; obtain ⟨mm, hmm⟩ : ∃ m_, (opn ++ [x]).length = m_ := ⟨_, rfl⟩; rw [hmm] at ho hat ⊢; have HMM := Aside0.mk hmm; clear hmm; have HN4 := Aside0.mk ho; have HB4 := Aside0.mk hb; have HG4 := Aside0.mk hg; have HAT := Aside0.mk hat; have q4 := (hg.block q HQL.out (fun e_ => by have := HQO.out q e_.symm; omega)).trans HQD.out; have s4 : w4.cell? ⟨q, 1, none⟩ = some (.slice Ap opn.length cp) := cell_of_row _ _ _ _ _ _ q4; have fs4 : w4.frozen? ⟨q, 1, none⟩ = false := frozen_of_row q4; have s42 : w4.cell? ⟨q, 2, none⟩ = some (.slice A3 x.length c3) := cell_of_row _ _ _ _ _ _ q4; have s52 : (w4.setCell ⟨q, 1, none⟩ (.slice Au mm cu)).cell? ⟨q, 2, none⟩ = some (.slice A3 x.length c3) := cell_of_row _ _ _ _ _ _ (row3_1 q4 _); have HQ4 := Aside0.mk q4; clear ho hb hg hat q4))
    all_goals (
     have hz4 := HB4.out.size
     replace hz4 : w3.heap.size ≤ w4.heap.size := hz4
     have hz3 := HZ3.out
     have hml : mm = opn.length + 1 := by have h_ := HMM.out; rw [List.length_append, List.length_singleton] at h_; omega
     have h5 : ∀ k_, k_ ≠ q → (w4.setCell ⟨q, 1, none⟩ (.slice Au mm cu)).heap[k_]? = w4.heap[k_]? := fun k_ hk_ => Below.heap_setCell _ ⟨q, 1, none⟩ _ k_ hk_
     have hown : ∀ k_, k_ < w3.heap.size → some k_ ≠ (Value.slice Ap opn.length cp).ownBlock → some k_ ≠ (Value.slice Au mm cu).ownBlock := fun k_ hk_ hne => by
      rcases HAT.out with h_ | ⟨b, h_, hb_⟩
      ·rw [h_]; exact hne
      ·rw [h_]; intro e_; have : k_ = b := Option.some.inj e_; have hb_ : w3.heap.size ≤ b := hb_; omega
     have hbd : BdIs (w4.setCell ⟨q, 1, none⟩ (.slice Au mm cu)) q m out (opn ++ [x]) x := by
      refine ⟨hqm, by simp; omega, A0, c0, .slice Au mm cu, A3, c3, row3_1 HQ4.out _, HC0.out, HXC.out, Kd.N_step HN4.out (fun k_ h_ _ => h5 k_ (by omega)), ?_, ?_⟩
      ·exact Kd.F_mono (Kd.F_step (Kd.F_step (Kd.F_bound HF3.out) (fun k_ h_ hl_ => HG4.out.block k_ hl_ h_.1.2)) (fun k_ h_ _ => h5 k_ (by omega))) (fun k_ h_ => ⟨h_.1.1, hown k_ h_.2 h_.1.2⟩)
      ·exact Kd.F_mono (Kd.F_step (Kd.F_step HX3.out (fun k_ h_ hl_ => HG4.out.block k_ hl_ (HOK.out k_ h_).2)) (fun k_ h_ _ => h5 k_ (by omega))) (fun k_ h_ => ⟨by omega, hown k_ (by omega) (HOK.out k_ h_).2⟩)
     have hst : BdStep q m w (w4.setCell ⟨q, 1, none⟩ (.slice Au mm cu)) := by
      have hb4 := HB4.out
      have hb2 := HB2.out
      obtain ⟨t1, t2, t3⟩ := HR3.out
      refine ⟨hb4.os.trans (t1.trans hb2.os), hb4.tape.trans (t2.trans hb2.tape), hb4.output.trans (t3.trans hb2.output), by simp; omega, fun k_ hk_ hq_ => ?_⟩
      rw [h5 k_ hq_, hb4.block k_ hk_]
      show w3.heap[k_]? = _
      rw [H3.out k_ hq_, hb2.block k_ (by omega)]
     have s5 : (w4.setCell ⟨q, 1, none⟩ (.slice Au mm cu)).cell? ⟨q, 1, none⟩ = some (.slice Au mm cu) := cell_of_row _ _ _ _ _ _ (row3_1 HQ4.out _)
     have HBD := Aside0.mk hbd
     have HST := Aside0.mk hst
     obtain ⟨w5, hw5⟩ : ∃ w5, w4.setCell ⟨q, 1, none⟩ (.slice Au mm cu) = w5 := ⟨_, rfl⟩
     rw [hw5] at s5 HBD HST ⊢
     clear hbd hst h5 hown hw5 hz3 hz4
     have hh := HH.out
     clear HH
     by_cases hlt : opn.length + 1 < 16
     ·rw [if_pos hlt] at hh
      obtain ⟨rfl, rfl⟩ : (out, opn ++ [x], x) = s ∧ 0 = ec := by
       have h1 := Option.some.inj hh
       exact ⟨congrArg Prod.fst h1, congrArg Prod.snd h1⟩
      have e1 : decide ((mm : Int) < 16) = true := decide_eq_true (by omega)
      have e2 : decide (mm < 16) = true := decide_eq_true (by omega)
      clear hml hlt hh
      go_wp2
      go_ret
      first | exact ⟨rfl, HBD.out, HST.out⟩ | exact ⟨rfl, fun _ => HBD.out, HST.out⟩
     ·rw [if_neg hlt] at hh
      obtain ⟨⟨p, pe⟩, hp, hh2⟩ := Option.bind_eq_some_iff.mp hh
      obtain ⟨rfl, rfl⟩ : (p, [], x) = s ∧ pe = ec := by
       have h1 := Option.some.inj hh2
       exact ⟨congrArg Prod.fst h1, congrArg Prod.snd h1⟩
      have HP := Aside0.mk hp
      have e1 : decide ((mm : Int) < 16) = false := decide_eq_false (by omega)
      have e2 : decide (mm < 16) = false := decide_eq_false (by omega)
      have HLL : Aside0 ((opn ++ [x]).length ≤ 1000000) := ⟨by rw [List.length_append, List.length_singleton]; omega⟩
      clear hml hlt hh hh2 hp
      go_wp2_with (first | (go_at_call 26; (with_reducible refine (dict_builder_flush.calls k q m out (opn ++ [x]) x p pe _ HBD.out HLL.out HP.out).mono ?_); rintro e w6 ⟨rfl, hbd, hst⟩; have HBD6 := Aside0.mk hbd; have HST6 := Aside0.mk hst; clear hbd hst))
      go_ret
      exact ⟨rfl, HBD6.out, HST.out.trans HST6.out⟩)
   ·rw [if_neg ho1] at h'
    exact absurd h' (by simp)

/-! ### dict_Build: function 12 -/
abbrev BSt := List Int × List (List Int) × List Int
def dict_Build.l (k : Nat) : List (List Int) → BSt → Option (BSt × Int)
 | [], s => some (s, 0)
 | x :: xs, s => (dict_builder_add.f k s.1 s.2.1 s.2.2 x).bind fun r => if r.2 = 0 then dict_Build.l k xs r.1 else some r
def dict_Build.f (k : Nat) (l0 : List (List Int)) : Option (List Int × Int) := if l0.length ≤ 1000000 then
  (dict_Build.l k l0 ([], [], [])).bind fun r => if r.2 = 0 then (if r.1.2.1.length ≤ 1000000 then (dict_builder_flush.f k r.1.1 r.1.2.1).bind fun p => if p.2 = 0 then some p else some ([], p.2) else none) else some ([], r.2)
 else none
theorem dict_Build.l_append (k : Nat) (ys : List (List Int)) : ∀ (xs : List (List Int)) (s : BSt), dict_Build.l k (xs ++ ys) s = (dict_Build.l k xs s).bind fun r => if r.2 = 0 then dict_Build.l k ys r.1 else some r
 | [], s => rfl
 | x :: xs, s => by
  rw [List.cons_append]
  show dict_Build.l k (x :: (xs ++ ys)) s = (dict_Build.l k (x :: xs) s).bind _
  rw [dict_Build.l.eq_2, dict_Build.l.eq_2 k s x xs]
  cases dict_builder_add.f k s.1 s.2.1 s.2.2 x with
  | none => rfl
  | some r =>
   simp only [Option.bind_some]
   by_cases h : r.2 = 0
   ·rw [if_pos h, if_pos h]; exact dict_Build.l_append k ys xs r.1
   ·rw [if_neg h, if_neg h]; simp [h]
theorem BdIs.keep {q m : Nat} {out : List Int} {opn : List (List Int)} {last : List Int} {W B : World} (h : BdIs W q m out opn last) (hs : W.heap.size ≤ B.heap.size) (hk : ∀ k, k < W.heap.size → (k = q ∨ m ≤ k) → B.heap[k]? = W.heap[k]?) : BdIs B q m out opn last := by
 obtain ⟨h1, h2, A0, c0, vp, A2, c2, h3, h4, h5, h6, h7, h8⟩ := h
 exact ⟨h1, Nat.le_trans h2 hs, A0, c0, vp, A2, c2, (hk _ (Array.getElem?_eq_some_iff.1 h3).1 (.inl rfl)).trans h3, h4, h5, Kd.N_step h6 (fun k_ h_ hl => hk k_ hl (.inr h_)), Kd.F_step h7 (fun k_ h_ hl => hk k_ hl (.inr h_.1)), Kd.F_step h8 (fun k_ h_ hl => hk k_ hl (.inr h_.1))⟩
/-- Between two labels. -/
def dict_Build.Inv (k : Nat) (w : World) (pre : List (Option Addr × Nat × List Int)) (W : World) : Prop :=
 Below w.heap.size w W ∧ W.heap[w.heap.size]? = some (.cells #[.slice none 0 0] 26) ∧ W.heap[w.heap.size + 1]? = some (.cells #[.int .i64 0] 27) ∧
  ∃ s, dict_Build.l k (pre.map (·.2.2)) ([], [], []) = some (s, 0) ∧ BdIs W (w.heap.size + 2) (w.heap.size + 5) s.1 s.2.1 s.2.2
/-- A label was refused. -/
def dict_Build.Out (w : World) (r1 : List Int) (r2 : Int) (c : Code) (W : World) : Prop :=
 c = .ret ∧ r1 = [] ∧ Below w.heap.size w W ∧ W.heap[w.heap.size]? = some (.cells #[.slice none 0 0] 26) ∧ W.heap[w.heap.size + 1]? = some (.cells #[.int .i64 r2] 27)
theorem dict_Build.Inv.keep {k : Nat} {w : World} {pre : List (Option Addr × Nat × List Int)} {W B : World} (h : dict_Build.Inv k w pre W) (hs : W.heap.size ≤ B.heap.size) (hk : ∀ k_, k_ < W.heap.size → (k_ < w.heap.size + 3 ∨ w.heap.size + 5 ≤ k_) → B.heap[k_]? = W.heap[k_]?)
  (ho : B.os = W.os) (ht : B.tape = W.tape) (hu : B.output = W.output) : dict_Build.Inv k w pre B := by
 obtain ⟨hB, h0, h1, s, hl, hV⟩ := h
 have lt : ∀ {k : Nat} {o : Obj}, W.heap[k]? = some o → k < W.heap.size := fun h => (Array.getElem?_eq_some_iff.1 h).1
 have hsz := hB.size
 exact ⟨⟨ho.trans hB.os, ht.trans hB.tape, hu.trans hB.output, Nat.le_trans hB.size hs, fun k hlt => (hk k (by omega) (.inl (by omega))).trans (hB.block k hlt)⟩,
  (hk _ (lt h0) (.inl (by omega))).trans h0, (hk _ (lt h1) (.inl (by omega))).trans h1, s, hl, hV.keep hs (fun k_ hlt h_ => hk k_ hlt (by omega))⟩
theorem dict_Build.Out.keep {w : World} {r1 : List Int} {r2 : Int} {c : Code} {W B : World} (h : dict_Build.Out w r1 r2 c W) (hs : W.heap.size ≤ B.heap.size) (hk : ∀ k_, k_ < W.heap.size → (k_ < w.heap.size + 3 ∨ w.heap.size + 5 ≤ k_) → B.heap[k_]? = W.heap[k_]?)
  (ho : B.os = W.os) (ht : B.tape = W.tape) (hu : B.output = W.output) : dict_Build.Out w r1 r2 c B := by
 obtain ⟨hc, hr, hB, h0, h1⟩ := h
 have lt : ∀ {k : Nat} {o : Obj}, W.heap[k]? = some o → k < W.heap.size := fun h => (Array.getElem?_eq_some_iff.1 h).1
 have hsz := hB.size
 exact ⟨hc, hr, ⟨ho.trans hB.os, ht.trans hB.tape, hu.trans hB.output, Nat.le_trans hB.size hs, fun k hlt => (hk k (by omega) (.inl (by omega))).trans (hB.block k hlt)⟩,
  (hk _ (lt h0) (.inl (by omega))).trans h0, (hk _ (lt h1) (.inl (by omega))).trans h1⟩
theorem dict_Build.C_loop {A : World} {l : Nat} {r r' : Loop} {ad : Option Addr} {n : Nat} {xs : List Int} (h : Kd.C (Kd.int .u8) A ad n xs) (hl : A.heap[l]? = some (.loop r)) : Kd.C (Kd.int .u8) (A.putObj l (.loop r')) ad n xs := by
 have h1 := Kd.reads_of_C (d := (0 : Int)) h
 refine Kd.C_of_reads (d := (0 : Int)) ⟨h1.1, h1.2.1, fun hn => ?_⟩
 obtain ⟨b, hb, hc⟩ := h1.2.2 hn
 refine ⟨b, hb, fun i hi => ?_⟩
 have h2 := hc i hi
 have hne : (b.add i).block ≠ l := fun e => by
  simp only [World.cell?, e, hl] at h2
  simp at h2
 simp only [World.cell?] at h2 ⊢
 rw [World.putObj_heap_other hne]
 exact h2
attribute [local go_sem] Oper.semAt_some in
set_option maxHeartbeats 8000000 in
set_option maxRecDepth 100000 in
theorem dict_Build.calls (k : Nat) (Bs : Nat) (Ad : Option Addr) (c : Nat) (l0 : List (List Int)) (r1 : List Int) (r2 : Int) (w : World) (hs : w.cell? ⟨Bs, 0, none⟩ = some (.slice Ad l0.length c)) (hF : Kd.F (Kd.slice 5 (Kd.int .u8)) w (fun k => k < w.heap.size) Ad l0.length l0) (h : dict_Build.f k l0 = some (r1, r2)) :
  Calls Try.prog 12 #[.func (.func 27) #[] #[.pointer (some ⟨Bs, 0, none⟩)]] w fun e w' => ∃ A1 c1, e = .returned (.tuple #[.slice A1 r1.length c1, .int .i64 r2]) ∧ r1.length ≤ c1 ∧ Kd.F (Kd.int .u8) w' (fun k => w.heap.size ≤ k) A1 r1.length r1 ∧ Below w.heap.size w w' := by
 unfold dict_Build.f at h
 by_cases hl : l0.length ≤ 1000000
 ·rw [if_pos hl] at h
  obtain ⟨⟨st, se⟩, hst, h'⟩ := Option.bind_eq_some_iff.mp h
  have HST := Aside0.mk hst
  have HH := Aside0.mk h'
  have HF0 := Aside0.mk hF
  clear h h' hst hF
  refine (callsIn_wide (n := 10)).1 ?_
  refine callsIn_of_wp_marks Try.func12 rfl trivial ?_ rfl
  simp only [Try.ntmps12, List.size_toArray, List.length_cons, List.length_nil, Nat.reduceAdd, Nat.reduceSub, Array.replicate_succ, Array.replicate_zero, List.push_toArray, List.append_toArray, List.nil_append, List.cons_append]
  have hnf : ∀ (b : Nat) (W : World), (binOp BinOp.eql 30 (.func (.func 27) #[] #[.pointer (some ⟨b, 0, none⟩)]) .nilFunc).run Try.prog W = .ok (.bool false) W := fun _ _ => by kernel_rfl
  gi_wp2_with fail
  simp only [World.size_alloc, Nat.add_assoc, Nat.reduceAdd]
  obtain ⟨w5, hw5⟩ : ∃ w5, (((w.alloc (Obj.cells #[Value.slice none 0 0] 26)).alloc (Obj.cells #[Value.int .i64 0] 27)).alloc (Obj.cells #[Value.slice none 0 0, Value.slice none 0 0, Value.slice none 0 0] 57)) = w5 := ⟨_, rfl⟩
  rw [hw5]
  have hs5 : w5.heap.size = w.heap.size + 3 := by rw [← hw5]; simp
  have hb5 : Below w.heap.size w w5 := by rw [← hw5]; exact (((Below.refl _ _).alloc (Nat.le_refl _) _).alloc (by simp) _).alloc (by simp <;> omega) _
  have h50 : w5.heap[w.heap.size]? = some (.cells #[.slice none 0 0] 26) := by
   rw [← hw5]
   exact (Below.heap_alloc _ _ _ (by simp <;> omega)).trans ((Below.heap_alloc _ _ _ (by simp)).trans (heap_alloc_new _ _))
  have h51 : w5.heap[w.heap.size + 1]? = some (.cells #[.int .i64 0] 27) := by
   have h := heap_alloc_new (w.alloc (Obj.cells #[Value.slice none 0 0] 26)) (Obj.cells #[Value.int .i64 0] 27)
   rw [World.size_alloc] at h
   rw [← hw5]
   exact (Below.heap_alloc _ _ _ (by simp)).trans h
  have h52 : w5.heap[w.heap.size + 2]? = some (.cells #[.slice none 0 0, .slice none 0 0, .slice none 0 0] 57) := by
   have h := heap_alloc_new ((w.alloc (Obj.cells #[Value.slice none 0 0] 26)).alloc (Obj.cells #[Value.int .i64 0] 27)) (Obj.cells #[Value.slice none 0 0, Value.slice none 0 0, Value.slice none 0 0] 57)
   rw [World.size_alloc, World.size_alloc] at h
   rw [← hw5]
   exact h
  have hBs := World.block_lt_of_cell? _ _ hs
  replace hBs : Bs < w.heap.size := hBs
  have hs5' := (hb5.cell hBs).trans hs
  have hF5 := Kd.F_below HF0.out hb5
  clear hw5
  obtain ⟨K0, hK0⟩ : ∃ K0 : Nat → Prop, K0 = fun k => k < w.heap.size := ⟨_, rfl⟩
  have hb7 : ∀ r : Loop, Below w5.heap.size w5 ((w5.alloc (.deferred (some []))).alloc (.loop r)) := fun r => ((Below.refl _ _).alloc (Nat.le_refl _) _).alloc (by simp) _
  have hW7 : ∀ r : Loop, ((w5.alloc (.deferred (some []))).alloc (.loop r)).heap.size = w.heap.size + 5 := fun r => by simp [hs5]
  refine Hand.rangeC (w := w5) (gf := 27) (lb := #[.pointer (some ⟨Bs, 0, none⟩)]) (encs := fun x : Option Addr × Nat × List Int => #[.slice x.1 x.2.2.length x.2.1]) (G := fun x W => Kd.C (Kd.int .u8) W x.1 x.2.2.length x.2.2 ∧ x.2.2.length ≤ x.2.1) (Stp := fun A B => ∃ q, B = A.drewN q) (Kp := KpK K0) (S := fun xs => xs.map (·.2.2) = l0) (Sp := fun xs => xs.map (·.2.2) <+: l0)
   rfl (by omega) rfl trivial (fun args w => Hand.run_enter Try.func27 (by kernel_rfl) rfl args w)
   (fun r => creellaw16_tells.seq Fence.wide 9 trivial rfl (by omega) _ Bs Ad c l0 K0 (((hb7 r).cell (by show Bs < w5.heap.size; omega)).trans hs5') (by rw [hK0]; exact hBs) (Kd.F_mono (Kd.F_below hF5 (hb7 r)) (fun k hk => by rw [hK0]; exact hk)) hl)
   (fun _ => rfl) (dict_Build.Inv k w) (fun c _ => dict_Build.Out w r1 r2 c) ?hIs ?hIxs ?hIp ?hIxp (fun x A r r' h hl => ⟨dict_Build.C_loop h.1 hl, h.2⟩) ?hSk (fun h k => h.trans k) ?hKp ?h0
   (fun x a' A => (Kd.C (Kd.int .u8) A x.1 x.2.2.length x.2.2 ∧ x.2.2.length ≤ x.2.1) ∧ a' = { tmps := #[.func (.func 27) #[] #[.pointer (some ⟨Bs, 0, none⟩)], undef, .pointer (some ⟨w.heap.size, 0, none⟩), .pointer (some ⟨w.heap.size + 1, 0, none⟩), .pointer (some ⟨w.heap.size + 2, 0, none⟩), .slice x.1 x.2.2.length x.2.1, undef, undef, .func (.func 27) #[] #[.pointer (some ⟨Bs, 0, none⟩)], .bool false, .func (.func 27) #[] #[.pointer (some ⟨Bs, 0, none⟩)], .slice x.1 x.2.2.length x.2.1, undef, undef, undef, undef, undef, undef, undef, undef, undef, undef, undef], defers := [] }) (fun x a' A r r' h hl => ⟨⟨dict_Build.C_loop h.1.1 hl, h.1.2⟩, h.2⟩) ?hassign ?hbody ?hdone ?hstop
  case hIs => rintro s A B h ⟨q, rfl⟩; exact h.keep (Nat.le_refl _) (fun _ _ _ => rfl) rfl rfl rfl
  case hIxs => rintro c s A B h ⟨q, rfl⟩; exact h.keep (Nat.le_refl _) (fun _ _ _ => rfl) rfl rfl rfl
  case hIp => intro s A r r' h hl; exact h.keep (by simp) (fun k hlt hk => World.putObj_heap_other (by omega)) rfl rfl rfl
  case hIxp => intro c s A r r' h hl; exact h.keep (by simp) (fun k hlt hk => World.putObj_heap_other (by omega)) rfl rfl rfl
  case hSk => rintro A B ⟨q, rfl⟩ _; exact ⟨rfl, rfl⟩
  case hKp =>
   intro A r r' hl
   refine ⟨by simp, fun k hk hlt => World.putObj_heap_other ?_⟩
   rw [hK0] at hk
   omega
  case h0 =>
   intro r
   have lt : ∀ {k : Nat} {o : Obj}, w5.heap[k]? = some o → k < w5.heap.size := fun h => (Array.getElem?_eq_some_iff.1 h).1
   refine ⟨hb5.trans ((hb7 r).mono (by omega)), ((hb7 r).block _ (lt h50)).trans h50, ((hb7 r).block _ (lt h51)).trans h51, ([], [], []), rfl, by omega, by have h_ := hW7 r; omega, none, 0, .slice none 0 0, none, 0, ((hb7 r).block _ (lt h52)).trans h52, Nat.le_refl _, Nat.le_refl _, Kd.N_nil _ _ _ _ _, Kd.F_nil _ _ _, Kd.F_nil _ _ _⟩
  case hassign =>
   rintro lq pre x A K hlt hI hG hK
   gi_wp2_with fail
   exact hK _ _ ⟨rfl, rfl⟩ (KpK.refl _ _) hI ⟨hG, rfl⟩
  case hbody =>
   rintro lq pre x a' A hlt hI ⟨⟨hCx, hcx⟩, rfl⟩ hsp
   obtain ⟨hB, hb0, hb1, s, hlq, hV⟩ := hI
   obtain ⟨ys, hys⟩ := hsp
   have hall := HST.out
   rw [← hys, dict_Build.l_append, List.map_append, dict_Build.l_append, hlq] at hall
   simp only [Option.bind_some, if_true] at hall
   rw [show ([x].map (·.2.2) : List (List Int)) = [x.2.2] from rfl, dict_Build.l.eq_2] at hall
   have hsz := hB.size
   have HB0 := Aside0.mk hb0
   have HB1 := Aside0.mk hb1
   have HV := Aside0.mk hV
   have HX := Aside0.mk hCx
   have HXC := Aside0.mk hcx
   have HBB := Aside0.mk hB
   have HLQ := Aside0.mk hlq
   clear hb0 hb1 hV hCx hcx hB hlq
   obtain ⟨r, hr, hall2⟩ := Option.bind_eq_some_iff.mp hall
   obtain ⟨⟨s2, e2⟩, ha, hr2⟩ := Option.bind_eq_some_iff.mp hr
   have HA := Aside0.mk ha
   have hlt5 : w.heap.size + 5 ≤ A.heap.size := by omega
   clear hall hr ha
   by_cases he : e2 = 0
   ·subst he
    rw [if_pos rfl] at hr2
    have HL2 : Aside0 (dict_Build.l k ((pre ++ [x]).map (·.2.2)) ([], [], []) = some (s2, 0)) := ⟨by
     rw [List.map_append, dict_Build.l_append, HLQ.out]
     simp only [Option.bind_some, if_true]
     rw [show ([x].map (·.2.2) : List (List Int)) = [x.2.2] from rfl, dict_Build.l.eq_2, HA.out]
     rfl⟩
    clear hr2 hall2
    gi_wp2_with fail
    refine ⟨trivial, ?_⟩
    refine (callsIn_wide.2 (dict_builder_add.calls k (w.heap.size + 2) (w.heap.size + 5) s.1 s.2.1 s.2.2 x.1 x.2.1 x.2.2 s2 0 _ HV.out HX.out HXC.out HA.out)).mono ?_
    rintro e w1 ⟨rfl, hbd, hst⟩
    have HBD := Aside0.mk (hbd rfl)
    have HST1 := Aside0.mk hst
    clear hbd hst
    gi_wp2_with fail
    obtain ⟨t1, t2, t3, t4, t5⟩ := HST1.out
    have hbb := HBB.out
    refine ⟨⟨t5 _ (by omega) (by omega), t5 _ (by omega) (by omega)⟩, ⟨t4, fun k_ hk hlt => ?_⟩, ⟨t1.trans hbb.os, t2.trans hbb.tape, t3.trans hbb.output, Nat.le_trans hbb.size t4, fun k_ hk => (t5 k_ (by omega) (by omega)).trans (hbb.block k_ hk)⟩, (t5 _ (by omega) (by omega)).trans HB0.out, (t5 _ (by omega) (by omega)).trans HB1.out, s2, HL2.out, HBD.out⟩
    rw [hK0] at hk
    exact t5 k_ (by omega) (by omega)
   ·rw [if_neg he] at hr2
    obtain rfl := Option.some.inj hr2
    rw [if_neg he] at hall2
    obtain ⟨rfl, rfl⟩ : s2 = st ∧ e2 = se := by
     have h1 := Option.some.inj hall2
     exact ⟨congrArg Prod.fst h1, congrArg Prod.snd h1⟩
    have hh := HH.out
    rw [if_neg he] at hh
    obtain ⟨rfl, rfl⟩ : [] = r1 ∧ e2 = r2 := by
     have h1 := Option.some.inj hh
     exact ⟨congrArg Prod.fst h1, congrArg Prod.snd h1⟩
    have d5 : (e2 != 0) = true := bne_iff_ne.mpr he
    clear hr2 hall2 hh
    gi_wp2_with fail
    refine ⟨trivial, ?_⟩
    refine (callsIn_wide.2 (dict_builder_add.calls k (w.heap.size + 2) (w.heap.size + 5) s.1 s.2.1 s.2.2 x.1 x.2.1 x.2.2 s2 e2 _ HV.out HX.out HXC.out HA.out)).mono ?_
    rintro e w1 ⟨rfl, -, hst⟩
    obtain ⟨t1, t2, t3, t4, t5⟩ := hst
    have g0 := (t5 _ (by omega) (by omega)).trans HB0.out
    have g1 := (t5 _ (by omega) (by omega)).trans HB1.out
    have o0 : w1.cell? ⟨w.heap.size, 0, none⟩ = some (.slice none 0 0) := cell_of_row _ _ _ _ _ _ g0
    have o1 : w1.cell? ⟨w.heap.size + 1, 0, none⟩ = some (.int .i64 0) := cell_of_row _ _ _ _ _ _ g1
    have of0 : w1.frozen? ⟨w.heap.size, 0, none⟩ = false := by simp [World.frozen?, g0]
    have of1 : w1.frozen? ⟨w.heap.size + 1, 0, none⟩ = false := by simp [World.frozen?, g1]
    have G0 := Aside0.mk g0
    have G1 := Aside0.mk g1
    have HT5 := Aside0.mk t5
    have HTT := Aside0.mk (⟨t1, t2, t3, t4⟩ : w1.os = A.os ∧ w1.tape = A.tape ∧ w1.output = A.output ∧ A.heap.size ≤ w1.heap.size)
    clear g0 g1 t1 t2 t3 t4 t5
    gi_wp2_with fail
    obtain ⟨t1, t2, t3, t4⟩ := HTT.out
    have t5 := HT5.out
    have hbb := HBB.out
    have hoth : ∀ k_, k_ ≠ w.heap.size → k_ ≠ w.heap.size + 1 → ((w1.setCell ⟨w.heap.size, 0, none⟩ (.slice none 0 0)).setCell ⟨w.heap.size + 1, 0, none⟩ (.int .i64 e2)).heap[k_]? = w1.heap[k_]? := fun k_ h1 h2 => (Below.heap_setCell _ ⟨w.heap.size + 1, 0, none⟩ _ k_ h2).trans (Below.heap_setCell _ ⟨w.heap.size, 0, none⟩ _ k_ h1)
    refine ⟨⟨(hoth _ (by omega) (by omega)).trans (t5 _ (by omega) (by omega)), (hoth _ (by omega) (by omega)).trans (t5 _ (by omega) (by omega))⟩, ⟨by simpa using t4, fun k_ hk hlt => ?_⟩, rfl, rfl, ⟨t1.trans hbb.os, t2.trans hbb.tape, t3.trans hbb.output, by simp; exact Nat.le_trans hbb.size t4, fun k_ hk => (hoth k_ (by omega) (by omega)).trans ((t5 k_ (by omega) (by omega)).trans (hbb.block k_ hk))⟩, ?_, ?_⟩
    ·rw [hK0] at hk
     exact (hoth k_ (by omega) (by omega)).trans (t5 k_ (by omega) (by omega))
    ·exact (Below.heap_setCell _ ⟨w.heap.size + 1, 0, none⟩ _ _ (by show w.heap.size ≠ w.heap.size + 1; omega)).trans (heap_setCell_same _ _ _ _ _ _ G0.out)
    ·exact heap_setCell_same _ _ _ _ _ _ ((Below.heap_setCell _ ⟨w.heap.size, 0, none⟩ _ _ (by show w.heap.size + 1 ≠ w.heap.size; omega)).trans G1.out)
  case hdone =>
   rintro xs A hS ⟨hB, hb0, hb1, s, hlq, hV⟩ hK
   rw [hS, HST.out] at hlq
   obtain ⟨rfl, rfl⟩ : st = s ∧ se = 0 := by
    have h1 := Option.some.inj hlq
    exact ⟨congrArg Prod.fst h1, congrArg Prod.snd h1⟩
   have hh := HH.out
   rw [if_pos rfl] at hh
   have hlt5 : w.heap.size + 5 ≤ A.heap.size := hV.2.1
   have HB0 := Aside0.mk hb0
   have HB1 := Aside0.mk hb1
   have HV := Aside0.mk hV
   have HBB := Aside0.mk hB
   have HKK := Aside0.mk hK
   clear hb0 hb1 hV hB hK hlq hS HH HST
   by_cases hop : st.2.1.length ≤ 1000000
   ·rw [if_pos hop] at hh
    obtain ⟨⟨p, pe⟩, hp, hh2⟩ := Option.bind_eq_some_iff.mp hh
    have HP := Aside0.mk hp
    clear hh hp
    simp only at hh2
    by_cases hpe : pe = 0
    ·subst hpe
     rw [if_pos rfl] at hh2
     obtain ⟨rfl, rfl⟩ : p = r1 ∧ 0 = r2 := by
      have h1 := Option.some.inj hh2
      exact ⟨congrArg Prod.fst h1, congrArg Prod.snd h1⟩
     clear hh2
     gi_wp2_with fail
     refine ⟨trivial, ?_⟩
     refine (callsIn_wide.2 (dict_builder_flush.calls k (w.heap.size + 2) (w.heap.size + 5) st.1 st.2.1 st.2.2 p 0 _ HV.out hop HP.out)).mono ?_
     rintro e w1 ⟨rfl, hbd, t1, t2, t3, t4, t5⟩
     obtain ⟨-, hm1, A4, c4, vp, A2, c2, hq4, hc4, -, -, hF4, -⟩ := hbd rfl
     have g0 := (t5 _ (by omega) (by omega)).trans HB0.out
     have g1 := (t5 _ (by omega) (by omega)).trans HB1.out
     have o0 : w1.cell? ⟨w.heap.size, 0, none⟩ = some (.slice none 0 0) := cell_of_row _ _ _ _ _ _ g0
     have o1 : w1.cell? ⟨w.heap.size + 1, 0, none⟩ = some (.int .i64 0) := cell_of_row _ _ _ _ _ _ g1
     have o2 : w1.cell? ⟨w.heap.size + 2, 0, none⟩ = some (.slice A4 p.length c4) := cell_of_row _ _ _ _ _ _ hq4
     have of0 : w1.frozen? ⟨w.heap.size, 0, none⟩ = false := by simp [World.frozen?, g0]
     have of1 : w1.frozen? ⟨w.heap.size + 1, 0, none⟩ = false := by simp [World.frozen?, g1]
     have G0 := Aside0.mk g0
     have G1 := Aside0.mk g1
     have HT5 := Aside0.mk t5
     have HTT := Aside0.mk (⟨t1, t2, t3, t4⟩ : w1.os = A.os ∧ w1.tape = A.tape ∧ w1.output = A.output ∧ A.heap.size ≤ w1.heap.size)
     have HF4 := Aside0.mk hF4
     have HC4 := Aside0.mk hc4
     clear g0 g1 t1 t2 t3 t4 t5 hF4 hc4 hq4
     gi_wp2_with fail
     obtain ⟨t1, t2, t3, t4⟩ := HTT.out
     have t5 := HT5.out
     have hbb := HBB.out
     obtain ⟨B, hBe⟩ : ∃ B, ((w1.setCell ⟨w.heap.size, 0, none⟩ (.slice A4 p.length c4)).setCell ⟨w.heap.size + 1, 0, none⟩ (.int .i64 0)) = B := ⟨_, rfl⟩
     rw [hBe]
     have hoth : ∀ k, k ≠ w.heap.size → k ≠ w.heap.size + 1 → B.heap[k]? = w1.heap[k]? := fun k h1 h2 => by
      rw [← hBe]
      exact (Below.heap_setCell _ _ _ k h2).trans (Below.heap_setCell _ _ _ k h1)
     have g1 : B.heap[w.heap.size]? = some (.cells #[.slice A4 p.length c4] 26) := by
      rw [← hBe]
      exact (Below.heap_setCell _ ⟨w.heap.size + 1, 0, none⟩ _ _ (by show w.heap.size ≠ w.heap.size + 1; omega)).trans (heap_setCell_same _ _ _ _ _ _ G0.out)
     have g2 : B.heap[w.heap.size + 1]? = some (.cells #[.int .i64 0] 27) := by
      rw [← hBe]
      exact heap_setCell_same _ _ _ _ _ _ ((Below.heap_setCell _ ⟨w.heap.size, 0, none⟩ _ _ (by show w.heap.size + 1 ≠ w.heap.size; omega)).trans G1.out)
     have hrest : B.os = w1.os ∧ B.tape = w1.tape ∧ B.output = w1.output ∧ B.heap.size = w1.heap.size := by
      rw [← hBe]
      exact ⟨rfl, rfl, rfl, by simp⟩
     have hKB := (hoth w5.heap.size (by omega) (by omega)).trans ((t5 _ (by omega) (by omega)).trans HKK.out)
     rw [hs5] at hKB
     refine ⟨by simp, .inl ⟨_, _, rfl, run_takeDeferred hKB, ?_⟩⟩
     obtain ⟨C, hCe⟩ : ∃ C, B.putObj (w.heap.size + 3) (.deferred none) = C := ⟨_, rfl⟩
     rw [hCe]
     have hc : ∀ k, k ≠ w.heap.size + 3 → C.heap[k]? = B.heap[k]? := fun k hk => by rw [← hCe]; exact World.putObj_heap_other hk
     have c1 : C.cell? ⟨w.heap.size, 0, none⟩ = some (.slice A4 p.length c4) := cell_of_row _ _ _ _ _ _ ((hc _ (by omega)).trans g1)
     have c2 : C.cell? ⟨w.heap.size + 1, 0, none⟩ = some (.int .i64 0) := cell_of_row _ _ _ _ _ _ ((hc _ (by omega)).trans g2)
     have hCB : C.os = B.os ∧ C.tape = B.tape ∧ C.output = B.output ∧ C.heap.size = B.heap.size := by rw [← hCe]; exact ⟨rfl, rfl, rfl, by simp⟩
     refine ⟨.tuple #[.slice A4 p.length c4, .int .i64 0], ?_, _, _, rfl, HC4.out, ?_, ?_⟩
     ·simp [results, Try.f12, go_sem, c1, c2]
     ·refine Kd.F_mono (Kd.F_step HF4.out (fun k hk hlt => ?_)) (fun k hk => by omega)
      exact (hc k (by omega)).trans (hoth k (by omega) (by omega))
     ·exact ⟨hCB.1.trans (hrest.1.trans (t1.trans hbb.os)), hCB.2.1.trans (hrest.2.1.trans (t2.trans hbb.tape)), hCB.2.2.1.trans (hrest.2.2.1.trans (t3.trans hbb.output)), by rw [hCB.2.2.2, hrest.2.2.2]; exact Nat.le_trans hbb.size t4, fun k hk => (hc k (by omega)).trans ((hoth k (by omega) (by omega)).trans ((t5 k (by omega) (by omega)).trans (hbb.block k hk)))⟩
    ·rw [if_neg hpe] at hh2
     obtain ⟨rfl, rfl⟩ : [] = r1 ∧ pe = r2 := by
      have h1 := Option.some.inj hh2
      exact ⟨congrArg Prod.fst h1, congrArg Prod.snd h1⟩
     clear hh2
     have d5 : (pe != 0) = true := bne_iff_ne.mpr hpe
     gi_wp2_with fail
     refine ⟨trivial, ?_⟩
     refine (callsIn_wide.2 (dict_builder_flush.calls k (w.heap.size + 2) (w.heap.size + 5) st.1 st.2.1 st.2.2 p pe _ HV.out hop HP.out)).mono ?_
     rintro e w1 ⟨rfl, -, t1, t2, t3, t4, t5⟩
     have g0 := (t5 _ (by omega) (by omega)).trans HB0.out
     have g1 := (t5 _ (by omega) (by omega)).trans HB1.out
     have o0 : w1.cell? ⟨w.heap.size, 0, none⟩ = some (.slice none 0 0) := cell_of_row _ _ _ _ _ _ g0
     have o1 : w1.cell? ⟨w.heap.size + 1, 0, none⟩ = some (.int .i64 0) := cell_of_row _ _ _ _ _ _ g1
     have of0 : w1.frozen? ⟨w.heap.size, 0, none⟩ = false := by simp [World.frozen?, g0]
     have of1 : w1.frozen? ⟨w.heap.size + 1, 0, none⟩ = false := by simp [World.frozen?, g1]
     have G0 := Aside0.mk g0
     have G1 := Aside0.mk g1
     have HT5 := Aside0.mk t5
     have HTT := Aside0.mk (⟨t1, t2, t3, t4⟩ : w1.os = A.os ∧ w1.tape = A.tape ∧ w1.output = A.output ∧ A.heap.size ≤ w1.heap.size)
     clear g0 g1 t1 t2 t3 t4 t5
     gi_wp2_with fail
     obtain ⟨t1, t2, t3, t4⟩ := HTT.out
     have t5 := HT5.out
     have hbb := HBB.out
     obtain ⟨B, hBe⟩ : ∃ B, ((w1.setCell ⟨w.heap.size, 0, none⟩ (.slice none 0 0)).setCell ⟨w.heap.size + 1, 0, none⟩ (.int .i64 pe)) = B := ⟨_, rfl⟩
     rw [hBe]
     have hoth : ∀ k, k ≠ w.heap.size → k ≠ w.heap.size + 1 → B.heap[k]? = w1.heap[k]? := fun k h1 h2 => by
      rw [← hBe]
      exact (Below.heap_setCell _ _ _ k h2).trans (Below.heap_setCell _ _ _ k h1)
     have g1 : B.heap[w.heap.size]? = some (.cells #[.slice none 0 0] 26) := by
      rw [← hBe]
      exact (Below.heap_setCell _ ⟨w.heap.size + 1, 0, none⟩ _ _ (by show w.heap.size ≠ w.heap.size + 1; omega)).trans (heap_setCell_same _ _ _ _ _ _ G0.out)
     have g2 : B.heap[w.heap.size + 1]? = some (.cells #[.int .i64 pe] 27) := by
      rw [← hBe]
      exact heap_setCell_same _ _ _ _ _ _ ((Below.heap_setCell _ ⟨w.heap.size, 0, none⟩ _ _ (by show w.heap.size + 1 ≠ w.heap.size; omega)).trans G1.out)
     have hrest : B.os = w1.os ∧ B.tape = w1.tape ∧ B.output = w1.output ∧ B.heap.size = w1.heap.size := by
      rw [← hBe]
      exact ⟨rfl, rfl, rfl, by simp⟩
     have hKB := (hoth w5.heap.size (by omega) (by omega)).trans ((t5 _ (by omega) (by omega)).trans HKK.out)
     rw [hs5] at hKB
     refine ⟨by simp, .inl ⟨_, _, rfl, run_takeDeferred hKB, ?_⟩⟩
     obtain ⟨C, hCe⟩ : ∃ C, B.putObj (w.heap.size + 3) (.deferred none) = C := ⟨_, rfl⟩
     rw [hCe]
     have hc : ∀ k, k ≠ w.heap.size + 3 → C.heap[k]? = B.heap[k]? := fun k hk => by rw [← hCe]; exact World.putObj_heap_other hk
     have c1 : C.cell? ⟨w.heap.size, 0, none⟩ = some (.slice none 0 0) := cell_of_row _ _ _ _ _ _ ((hc _ (by omega)).trans g1)
     have c2 : C.cell? ⟨w.heap.size + 1, 0, none⟩ = some (.int .i64 pe) := cell_of_row _ _ _ _ _ _ ((hc _ (by omega)).trans g2)
     have hCB : C.os = B.os ∧ C.tape = B.tape ∧ C.output = B.output ∧ C.heap.size = B.heap.size := by rw [← hCe]; exact ⟨rfl, rfl, rfl, by simp⟩
     refine ⟨.tuple #[.slice none 0 0, .int .i64 pe], ?_, none, 0, rfl, Nat.le_refl _, Kd.F_nil _ _ _, ?_⟩
     ·simp [results, Try.f12, go_sem, c1, c2]
     ·exact ⟨hCB.1.trans (hrest.1.trans (t1.trans hbb.os)), hCB.2.1.trans (hrest.2.1.trans (t2.trans hbb.tape)), hCB.2.2.1.trans (hrest.2.2.1.trans (t3.trans hbb.output)), by rw [hCB.2.2.2, hrest.2.2.2]; exact Nat.le_trans hbb.size t4, fun k hk => (hc k (by omega)).trans ((hoth k (by omega) (by omega)).trans ((t5 k (by omega) (by omega)).trans (hbb.block k hk)))⟩
   ·rw [if_neg hop] at hh
    exact absurd hh (by simp)
  case hstop =>
   rintro c pre A hsp ⟨rfl, rfl, hB, hb0, hb1⟩ hK
   have o0 : A.cell? ⟨w.heap.size, 0, none⟩ = some (.slice none 0 0) := cell_of_row _ _ _ _ _ _ hb0
   have o1 : A.cell? ⟨w.heap.size + 1, 0, none⟩ = some (.int .i64 r2) := cell_of_row _ _ _ _ _ _ hb1
   have HKK := Aside0.mk hK
   have HB0 := Aside0.mk hb0
   have HB1 := Aside0.mk hb1
   have HBB := Aside0.mk hB
   clear hK hb0 hb1 hB
   gi_wp2_with fail
   have hKB := HKK.out
   have hbb := HBB.out
   refine ⟨by simp, .inl ⟨_, _, rfl, run_takeDeferred hKB, ?_⟩⟩
   obtain ⟨C, hCe⟩ : ∃ C, A.putObj w5.heap.size (.deferred none) = C := ⟨_, rfl⟩
   rw [hCe]
   have hc : ∀ k, k ≠ w5.heap.size → C.heap[k]? = A.heap[k]? := fun k hk => by rw [← hCe]; exact World.putObj_heap_other hk
   have c1 : C.cell? ⟨w.heap.size, 0, none⟩ = some (.slice none 0 0) := cell_of_row _ _ _ _ _ _ ((hc _ (by omega)).trans HB0.out)
   have c2 : C.cell? ⟨w.heap.size + 1, 0, none⟩ = some (.int .i64 r2) := cell_of_row _ _ _ _ _ _ ((hc _ (by omega)).trans HB1.out)
   have hCB : C.os = A.os ∧ C.tape = A.tape ∧ C.output = A.output ∧ C.heap.size = A.heap.size := by rw [← hCe]; exact ⟨rfl, rfl, rfl, by simp⟩
   refine ⟨.tuple #[.slice none 0 0, .int .i64 r2], ?_, none, 0, rfl, Nat.le_refl _, Kd.F_nil _ _ _, ?_⟩
   ·simp [results, Try.f12, go_sem, c1, c2]
   ·exact ⟨hCB.1.trans hbb.os, hCB.2.1.trans hbb.tape, hCB.2.2.1.trans hbb.output, by rw [hCB.2.2.2]; exact hbb.size, fun k hk => (hc k (by omega)).trans (hbb.block k hk)⟩
 ·rw [if_neg hl] at h
  exact absurd h (by simp)

end Go.Proofs.Ytaiechbdcddalaa.Print
