-- Written by a program of this session (wip/cprint.py), which calls the kit's print and adds contracts proved by hand.
import Derived.Test.YthnjeddcnkbebaaPrint0
import Derived.Test.YthnjeddcnkbebaaPrint1
namespace Go.Proofs.Ythnjeddcnkbebaa.Print
open Go.RowKit Go.Proofs.YthnjeddcnkbebaaW.PrintWords Go.Proofs.YthnjeddcnkbebaaW.PrintLast Go.Proofs.YthnjeddcnkbebaaW.PrintMore
attribute [local go_sem] max2_int min2_int max_two min_two max_three min_three max_four min_four   -- for this text's walks alone
set_option linter.unusedVariables false
set_option linter.unusedSimpArgs false

/-! ### creellaw10_few: function 8 -/
def creellaw10_few.f (l0 : List Int) : Option (List Int) := if 0 ≤ (mn (l0.length : Int) 1000) then (if (mn (l0.length : Int) 1000) ≤ (l0.length : Int) then (some (l0.take ((mn (l0.length : Int) 1000) : Int).toNat)) else (none)) else (none)
set_option maxHeartbeats 8000000 in
set_option maxRecDepth 100000 in
theorem creellaw10_few.calls (P0_ : Nat → Prop) (A0 : Option Addr) (c0 : Nat) (l0 : List Int) (r : List Int) (w : World) (hs0 : Kd.V (Kd.int .u8) 5 w w.heap.size (fun k_ => P0_ k_) (.slice A0 l0.length c0) l0) (h : creellaw10_few.f l0 = some r) :
    Calls Try.prog 8 #[.slice A0 l0.length c0] w fun e w' => ∃ v0_ : Value, e = .returned (v0_) ∧ Kd.V (Kd.int .u8) 5 w' w.heap.size (fun k_ => (P0_ k_ ∨ w.heap.size ≤ k_)) v0_ r ∧ Below w.heap.size w w' := by
  have HO0 := Aside0.mk (show Kd.V (Kd.int .u8) 5 w w.heap.size (fun k_ => (P0_ k_ ∨ w.heap.size ≤ k_)) (.slice A0 l0.length c0) l0 from Kd.V_mono hs0 (fun k_ hk => .inl hk))
  have HB := Aside0.mk (Below.refl w.heap.size w)
  have H : (if 0 ≤ (mn (l0.length : Int) 1000) then (if (mn (l0.length : Int) 1000) ≤ (l0.length : Int) then (some (l0.take ((mn (l0.length : Int) 1000) : Int).toNat)) else (none)) else (none)) = some r := h
  clear h
  obtain ⟨ji2, hji2⟩ : ∃ j_ : Int, (mn (l0.length : Int) 1000) = j_ := ⟨_, rfl⟩
  replace H : (if 0 ≤ (ji2) then (if (ji2) ≤ (l0.length : Int) then (some (l0.take ((ji2) : Int).toNat)) else (none)) else (none)) = some r := by first | (rw [hji2] at H; exact H) | (simp only [hji2] at H ⊢; exact H)
  (try (have hji2h : ji2 ≤ 1000 := by (rw [← hji2]; unfold mn; (repeat' split) <;> omega)))
  (try (have hji2g : ji2 ≤ 64 := by omega))
  (try (have hji2l : 0 ≤ ji2 := by (rw [← hji2]; unfold mn; (repeat' split) <;> omega)))
  (try (have hji2m : 0 ≤ ji2 := by omega))
  have hji2_ : (if 1000 < (l0.length : Int) then 1000 else (l0.length : Int)) = ji2 := hji2
  by_cases c3 : 0 ≤ (ji2)
  · rw [if_pos c3] at H
    have c3b0 := eq_true c3
    have c3b1 : decide (0 ≤ (ji2)) = true := decide_eq_true c3
    clear c3
    by_cases c4 : (ji2) ≤ (l0.length : Int)
    · rw [if_pos c4] at H
      have c4b0 := eq_true c4
      have c4b1 : decide ((ji2) ≤ (l0.length : Int)) = true := decide_eq_true c4
      clear c4
      obtain ⟨y107, hy107⟩ : ∃ y_ : List Int, y_ = (l0.take ((ji2) : Int).toNat) := ⟨_, rfl⟩
      replace H : (some y107) = some r := by first | (rw [hy107]; with_reducible exact H) | (have H2_ := (Option.bind_some _ _).symm.trans H; rw [hy107]; with_reducible exact H2_) | (have H2_ := (Option.bind_some _ _).symm.trans H; with_reducible exact H2_) | with_reducible exact H | (rw [hy107]; exact H) | exact H
      have Ny107 := Aside0.mk hy107
      clear hy107
      obtain rfl := Option.some.inj H
      have q5 : ((ji2) : Int) ≤ ((l0.length : Int) : Int) := of_decide_eq_true (by first | (with_reducible assumption) | assumption)
      obtain ⟨i05, hi05, _, hsz5, _⟩ := info_parts info5
      have hroom5 : l0.length ≤ c0 := (Kd.V_reads' HO0.out).2.1
      have hC5 : Kd.F (Kd.int .u8) _ _ A0 l0.length l0 := (Kd.V_at (base := w.heap.size) HO0.out).2.2
      have hcut5 := cut_to (P := Try.prog) 23 5 .i64 Try.underlying23 hi05 A0 l0.length c0 (ji2) (of_decide_eq_true (by first | (with_reducible assumption) | assumption)) q5 hroom5
      have hr5 := Kd.F_take (m := ((ji2) : Int).toNat) hC5 (by omega)
      have hy5 : y107.length = ((ji2) : Int).toNat := (by rw [Ny107.out, List.length_take]; omega)
      rw [← Ny107.out] at hr5
      rw [← hy5] at hcut5
      have HO111 := Aside0.mk (show Kd.V (Kd.int .u8) 5 _ w.heap.size _ (.slice A0 y107.length c0) y107 from Kd.V_mk (by omega) hr5)
      have HC111 := Aside0.mk (show y107.length ≤ c0 from by omega)
      clear hr5 hC5 hroom5 hi05 hsz5
      have KY5 := Aside0.mk hy5
      clear hy5
      replace q5 := eq_true q5
      go_enter Try.func8, Try.ntmps8
      go_wp2
      go_ret
      exact ⟨_, by first | rfl | (simp [errW_none, errW_some] <;> rfl) | (simp only [← hji2]; first | rfl | (simp [errW_none, errW_some] <;> rfl)) | (simp [*, errW_none, errW_some] <;> rfl), by (with_reducible repeat (first | apply Kd.V_alloc | apply Kd.V_drewN | apply Kd.V_drew)); exact HO111.out, by repeat (first | (with_reducible first | exact HB.out | apply below_alloc | apply pw_below_drewN | apply below_drew1) | exact HB.out)⟩
    · rw [if_neg c4] at H
      exact absurd H (by simp)
  · rw [if_neg c3] at H
    exact absurd H (by simp)

/-! ### vary_Fix: function 15 -/
mutual
def vary_Fix.j0 : Nat → Int → Int → List Int → Bool → Option (List Int)
  | 0, _, _, _, _ => none
  | k + 1, x1, x2, x7, x16 => if x16 = true then (some x7) else (vary_Fix.l0 k x1 x7 (wrap64 (x2 - 1)))
def vary_Fix.l0 : Nat → Int → List Int → Int → Option (List Int)
  | 0, _, _, _ => none
  | k + 1, x1, x7, x8 => if x8 ≥ 0 then (if 0 ≤ (wrap64 (8 * x8)) then (if x7.length < 140737488355328 then (vary_Fix.l0 k x1 (x7 ++ [(shr .u64 x1 (wrap64 (8 * x8))) % 256]) (wrap64 (x8 - 1))) else (none)) else (none)) else (some x7)
end
def vary_Fix.f (k : Nat) (l0 : List Int) (a1 : Int) (a2 : Int) : Option (List Int) := (slices_Clone_byte_byte.f l0).bind fun t112 => (if a2 < 1 then (vary_Fix.j0 k a1 a2 t112 true) else (vary_Fix.j0 k a1 a2 t112 (decide (a2 > 8))))
theorem vary_Fix.mono_l : ∀ k, (∀ y0 y1 y2 y3, LeO (vary_Fix.j0 k y0 y1 y2 y3) (vary_Fix.j0 (k + 1) y0 y1 y2 y3)) ∧ (∀ y0 y1 y2, LeO (vary_Fix.l0 k y0 y1 y2) (vary_Fix.l0 (k + 1) y0 y1 y2))
  | 0 => ⟨fun _ _ _ _ r h => by simp [vary_Fix.j0] at h, fun _ _ _ r h => by simp [vary_Fix.l0] at h⟩
  | k + 1 => by
    obtain ⟨ih0, ih1⟩ := vary_Fix.mono_l k
    refine ⟨?_, ?_⟩
    · intro y0 y1 y2 y3
      unfold vary_Fix.j0
      repeat' first
      | (with_reducible exact ih0 _ _ _ _)
      | (with_reducible exact ih1 _ _ _)
      | (with_reducible exact LeO.refl _)
      | (with_reducible exact LeO.none _)
      | (with_reducible refine LeO.ite ?_ ?_)
      | (with_reducible refine LeO.bind ?_ (fun _ => ?_))
      | exact ih0 _ _ _ _
      | exact ih1 _ _ _
      | exact LeO.none _
      | refine LeO.ite ?_ ?_
      | refine LeO.bind ?_ (fun _ => ?_)
    · intro y0 y1 y2
      unfold vary_Fix.l0
      repeat' first
      | (with_reducible exact ih0 _ _ _ _)
      | (with_reducible exact ih1 _ _ _)
      | (with_reducible exact LeO.refl _)
      | (with_reducible exact LeO.none _)
      | (with_reducible refine LeO.ite ?_ ?_)
      | (with_reducible refine LeO.bind ?_ (fun _ => ?_))
      | exact ih0 _ _ _ _
      | exact ih1 _ _ _
      | exact LeO.none _
      | refine LeO.ite ?_ ?_
      | refine LeO.bind ?_ (fun _ => ?_)
theorem vary_Fix.mono : ∀ a0 a1 a2 k, LeO (vary_Fix.f k a0 a1 a2) (vary_Fix.f (k + 1) a0 a1 a2) := by
  intro a0 a1 a2 k
  obtain ⟨ih0, ih1⟩ := vary_Fix.mono_l k
  unfold vary_Fix.f
  repeat' first
      | (with_reducible exact ih0 _ _ _ _)
      | (with_reducible exact ih1 _ _ _)
      | (with_reducible exact LeO.refl _)
      | (with_reducible exact LeO.none _)
      | (with_reducible refine LeO.ite ?_ ?_)
      | (with_reducible refine LeO.bind ?_ (fun _ => ?_))
      | exact ih0 _ _ _ _
      | exact ih1 _ _ _
      | exact LeO.none _
      | refine LeO.ite ?_ ?_
      | refine LeO.bind ?_ (fun _ => ?_)
set_option maxHeartbeats 8000000 in
set_option maxRecDepth 100000 in
theorem vary_Fix.calls (k : Nat) (A0 : Option Addr) (c0 : Nat) (l0 : List Int) (a1 : Int) (a2 : Int) (r : List Int) (w : World) (hr0 : Kd.C (Kd.int .u8) w A0 l0.length l0) (hc0 : l0.length ≤ c0) (h : vary_Fix.f k l0 a1 a2 = some r) :
    Calls Try.prog 15 #[.slice A0 l0.length c0, .int .u64 a1, .int .i64 a2] w fun e w' => ∃ v0_ : Value, e = .returned (v0_) ∧ Kd.R (Kd.int .u8) 5 w' w.heap.size (fun _ => True) v0_ r ∧ Below w.heap.size w w' := by
  have HR0 := Aside0.mk hr0
  have HC0 := Aside0.mk hc0
  clear hr0 hc0
  have HB := Aside0.mk (Below.refl w.heap.size w)
  have H : ((slices_Clone_byte_byte.f l0).bind fun t112 => (if a2 < 1 then (vary_Fix.j0 k a1 a2 t112 true) else (vary_Fix.j0 k a1 a2 t112 (decide (a2 > 8))))) = some r := h
  clear h
  replace H := Option.bind_eq_some_iff.mp H
  obtain ⟨t112, A40, H⟩ := H
  replace H : (if a2 < 1 then (vary_Fix.j0 k a1 a2 t112 true) else (vary_Fix.j0 k a1 a2 t112 (decide (a2 > 8)))) = some r := H
  have A4 := Aside0.mk A40
  clear A40
  have HC5 := Aside0.mk H
  clear H
  go_enter Try.func15, Try.ntmps15
  go_upto_region 2 with (first | ((with_reducible refine gate_callee (f := 22) rfl ?_); refine goesL_ (some 10) rfl rfl Try.func22 (by kernel_rfl) rfl #[.slice A0 l0.length c0] rfl (by (try simp only [List.map_toArray, List.map_cons, List.map_nil]); first | done | rfl | (simp only [List.length_drop, List.length_take]; rfl)) ?_; (with_reducible refine (slices_Clone_byte_byte.calls _ _ l0 t112 _ ?side1 ?side2 A4.out).mono ?_); (case side1 => repeat (first | exact HR0.out | (with_reducible refine Kd.C_alloc ?_ _) | (with_reducible refine Kd.C_drewN ?_ _) | (with_reducible refine Kd.C_drew ?_))); (case side2 => exact HC0.out); rintro e w6 ⟨v113, rfl, ho0, hb⟩; refine ⟨_, rfl, ?_⟩; have n0_ := Aside0.mk (Kd.R_lower ho0 (below_size (by repeat (first | (with_reducible first | exact HB.out | apply below_alloc | apply pw_below_drewN | apply below_drew1) | exact HB.out)))); have n1_ := Aside0.mk (below_step (by repeat (first | (with_reducible first | exact HB.out | apply below_alloc | apply pw_below_drewN | apply below_drew1) | exact HB.out)) hb); clear HB; have HO114 := n0_; have HB := n1_; clear n0_ n1_; (try clear hb); (try clear hb2); (try clear hk); (try clear hi); (try clear ho0)))
  (try simp only [Act.put, List.setIfInBounds_toArray, List.set_cons_zero, List.set_cons_succ])
  go_cut [16] (fun v16 wc => ∃ (kq : Nat) (x16_4 : Bool), v16 = .bool x16_4 ∧ Aside0 (vary_Fix.j0 kq a1 a2 t112 x16_4 = some r) ∧ Aside0 (kq ≤ k) ∧ Aside0 (Kd.R (Kd.int .u8) 5 wc w.heap.size (fun _ => True) v113 t112) ∧ Aside0 (Below w.heap.size w wc))
  case first =>
    have H := HC5.out
    clear HC5
    by_cases c7 : a2 < 1
    · rw [if_pos c7] at H
      have c7b0 : decide (a2 < 1) = true := decide_eq_true c7
      clear c7
      (first | rw [c7b0] | (simp only [i64_w, i32_w]; rw [c7b0]) | skip)
      have H' := Aside0.mk H
      clear H
      go_wp2
      go_meet
      case rel => exact ⟨_, (true), (by first | rfl | (simp; done) | (simp [*]; done)), H', ⟨by first | omega | exact Nat.le_refl _⟩, ⟨by (with_reducible repeat (first | apply Kd.R_alloc | apply Kd.R_drewN | apply Kd.R_drew)); exact HO114.out⟩, ⟨by repeat (first | (with_reducible first | exact HB.out | apply below_alloc | apply pw_below_drewN | apply below_drew1) | exact HB.out)⟩⟩
    · rw [if_neg c7] at H
      have c7b0 : decide (a2 < 1) = false := decide_eq_false c7
      clear c7
      (first | rw [c7b0] | (simp only [i64_w, i32_w]; rw [c7b0]) | skip)
      have H' := Aside0.mk H
      clear H
      go_wp2
      go_meet
      case rel => exact ⟨_, (decide (a2 > 8)), (by first | rfl | (simp; done) | (simp [*]; done)), H', ⟨by first | omega | exact Nat.le_refl _⟩, ⟨by (with_reducible repeat (first | apply Kd.R_alloc | apply Kd.R_drewN | apply Kd.R_drew)); exact HO114.out⟩, ⟨by repeat (first | (with_reducible first | exact HB.out | apply below_alloc | apply pw_below_drewN | apply below_drew1) | exact HB.out)⟩⟩
  case rest =>
    clear HC5
    try clear c1
    try clear c2
    try clear p2
    try clear c7
    try clear c7b0
    obtain ⟨kq, x16_4, rfl, HA, HJ4, HO_7, HB⟩ := hcut
    cases kq with
    | zero => exact absurd HA.out (by simp [vary_Fix.j0])
    | succ kj4 =>
      have H := HA.out
      clear HA
      simp only [vary_Fix.j0] at H
      by_cases c8 : x16_4 = true
      · subst c8
        have H1 : (some t112) = some r := by rw [if_pos rfl] at H; exact H
        clear H
        have H := H1
        clear H1
        obtain rfl := Option.some.inj H
        go_wp2
        go_ret
        exact ⟨_, by first | rfl | (simp [errW_none, errW_some] <;> rfl) | (simp [*, errW_none, errW_some] <;> rfl), by (with_reducible repeat (first | apply Kd.R_alloc | apply Kd.R_drewN | apply Kd.R_drew)); exact HO_7.out, by repeat (first | (with_reducible first | exact HB.out | apply below_alloc | apply pw_below_drewN | apply below_drew1) | exact HB.out)⟩
      · replace c8 := Bool.eq_false_iff.mpr c8
        subst c8
        have H1 : (vary_Fix.l0 kj4 a1 t112 (wrap64 (a2 - 1))) = some r := by rw [if_neg (show ¬ (false = true) by decide)] at H; exact H
        clear H
        have H := H1
        clear H1
        have H' := Aside0.mk H
        clear H
        go_wp2
        go_loopg [7, 8] kj4 (fun kq v7 v8 w' => ∃ (x7_2 : List Int) (x8_2 : Int), v8 = .int .i64 x8_2 ∧ Aside0 (vary_Fix.l0 kq a1 x7_2 x8_2 = some r) ∧ Aside0 (kq ≤ kj4) ∧ Aside0 (Kd.R (Kd.int .u8) 5 w' w.heap.size (fun _ => True) v7 x7_2) ∧ Aside0 (Below w.heap.size w w'))
        case atStart => exact ⟨(t112), (wrap64 (a2 - 1)), (by first | rfl | (simp; done) | (simp [*]; done)), H', ⟨Nat.le_refl _⟩, ⟨by (with_reducible repeat (first | apply Kd.R_alloc | apply Kd.R_drewN | apply Kd.R_drew)); exact HO_7.out⟩, ⟨by repeat (first | (with_reducible first | exact HB.out | apply below_alloc | apply pw_below_drewN | apply below_drew1) | exact HB.out)⟩⟩
        case round =>
          clear H'
          try clear c1
          try clear c2
          try clear p2
          try clear p6
          try clear c7
          try clear c7b0
          try clear c8
          try clear p2
          obtain ⟨x7_2, x8_2, rfl, HA, HK2, HO_7, HB⟩ := hrel
          cases gk with
          | zero => exact absurd HA.out (by simp [vary_Fix.l0])
          | succ k2 =>
            have H := HA.out
            clear HA
            simp only [vary_Fix.l0] at H
            by_cases c9 : x8_2 ≥ 0
            · rw [if_pos c9] at H
              have c9b0 : decide (0 ≤ x8_2) = true := decide_eq_true c9
              clear c9
              obtain ⟨ji10, hji10⟩ : ∃ j_ : Int, (wrap64 (8 * x8_2)) = j_ := ⟨_, rfl⟩
              replace H : (if 0 ≤ (ji10) then (if x7_2.length < 140737488355328 then (vary_Fix.l0 k2 a1 (x7_2 ++ [(shr .u64 a1 (ji10)) % 256]) (wrap64 (x8_2 - 1))) else (none)) else (none)) = some r := by first | (rw [hji10] at H; exact H) | (simp only [hji10] at H ⊢; exact H)
              have hji10w : (IntKind.i64.wrap (8 * x8_2)) = ji10 := (i64_w _).trans hji10
              by_cases c11 : 0 ≤ (ji10)
              · rw [if_pos c11] at H
                have c11b0 := eq_true c11
                have c11b1 : decide (0 ≤ (ji10)) = true := decide_eq_true c11
                clear c11
                obtain ⟨ji12, hji12⟩ : ∃ j_ : Int, (shr .u64 a1 (ji10)) = j_ := ⟨_, rfl⟩
                replace H : (if x7_2.length < 140737488355328 then (vary_Fix.l0 k2 a1 (x7_2 ++ [(ji12) % 256]) (wrap64 (x8_2 - 1))) else (none)) = some r := by first | (rw [hji12] at H; exact H) | (simp only [hji12] at H ⊢; exact H)
                have hji12_ : (a1 / 2 ^ min (ji10).toNat 64) = ji12 := hji12
                have hji12z : (ji10) ≤ 64 → (a1 / 2 ^ (ji10).toNat) = ji12 := shr_small hji12
                by_cases c13 : x7_2.length < 140737488355328
                · rw [if_pos c13] at H
                  have LMc13 := Aside0.mk c13
                  clear c13
                  obtain ⟨y115, hy115⟩ : ∃ y_ : List Int, y_ = (x7_2 ++ [(ji12) % 256]) := ⟨_, rfl⟩
                  replace H : (vary_Fix.l0 k2 a1 y115 (wrap64 (x8_2 - 1))) = some r := by first | (rw [hy115]; with_reducible exact H) | (have H2_ := (Option.bind_some _ _).symm.trans H; rw [hy115]; with_reducible exact H2_) | (have H2_ := (Option.bind_some _ _).symm.trans H; with_reducible exact H2_) | with_reducible exact H | (rw [hy115]; exact H) | exact H
                  have Ny115 := Aside0.mk hy115
                  clear hy115
                  have H' := Aside0.mk H
                  clear H
                  go_wp2_with (first | ((with_reducible refine gate_builtin (b := .append) (xs := #[.tmp 24, .tmp 30]) rfl ?_); at_builtin; refine Kd.R_append (Kd.int .u8) (w0 := w) w.heap.size rfl (.tmp 24) (.tmp 30) 23 5 (.int .u8 0) 1 rfl Try.underlying23 info5 rfl (by decide) (by omega) u7 x7_2 ((ji12) % 256) [.int .u8 ((ji12) % 256)] (fun _ => True) (fun _ => False) rfl rfl ?aP (fun _ hk => hk.elim) ?aF ?aO ?aB ?aS ?aL ?_; (case aP => exact rfl); (case aB => exact (by repeat (first | (with_reducible first | exact HB.out | apply below_alloc | apply pw_below_drewN | apply below_drew1) | exact HB.out))); (case aF => exact (fun _ _ => trivial)); (case aO => exact (by (with_reducible repeat (first | apply Kd.R_alloc | apply Kd.R_drewN | apply Kd.R_drew)); exact HO_7.out)); (case aS => exact (below_size (by repeat (first | (with_reducible first | exact HB.out | apply below_alloc | apply pw_below_drewN | apply below_drew1) | exact HB.out)))); (case aL => have := LMc13.out; omega); intro v116 w14 ho hb hg hat; rw [← Ny115.out] at ho; have n0_ := Aside0.mk (hb); have n1_ := Aside0.mk (ho); clear HB; clear HO_7; have HB := n0_; have HO117 := n1_; clear n0_ n1_; clear ho hb hg hat))
                  go_roundg k2
                  case measure => have := HJ4.out; have := HK2.out; omega
                  case rel => exact ⟨(y115), (wrap64 (x8_2 - 1)), (by first | rfl | (simp; done) | (simp [*]; done)), H', ⟨by have := HJ4.out; have := HK2.out; omega⟩, ⟨by (with_reducible repeat (first | apply Kd.R_alloc | apply Kd.R_drewN | apply Kd.R_drew)); exact HO117.out⟩, ⟨by repeat (first | (with_reducible first | exact HB.out | apply below_alloc | apply pw_below_drewN | apply below_drew1) | exact HB.out)⟩⟩
                · rw [if_neg c13] at H
                  exact absurd H (by simp)
              · rw [if_neg c11] at H
                exact absurd H (by simp)
            · rw [if_neg c9] at H
              have c9b0 : decide (0 ≤ x8_2) = false := decide_eq_false c9
              clear c9
              obtain rfl := Option.some.inj H
              go_wp2
              go_ret
              exact ⟨_, by first | rfl | (simp [errW_none, errW_some] <;> rfl) | (simp [*, errW_none, errW_some] <;> rfl), by (with_reducible repeat (first | apply Kd.R_alloc | apply Kd.R_drewN | apply Kd.R_drew)); exact HO_7.out, by repeat (first | (with_reducible first | exact HB.out | apply below_alloc | apply pw_below_drewN | apply below_drew1) | exact HB.out)⟩

/-! ### dump_Put: function 10 -/
/-- Edges as bytes, behind others. -/
def dump_Put.l (k : Nat) : List S38 → List Int → Option (List Int)
  | [], out => some out
  | x :: l, out => (vary_Fix.f k [] (IntKind.u64.wrap x.f0) 4).bind fun a => (vary_Fix.f k [] (IntKind.u64.wrap x.f1) 4).bind fun b =>
    if 0 < a.length ∧ 0 < b.length ∧ out.length + a.length + b.length < 140737488355000 then dump_Put.l k l (out ++ a ++ b) else none
def dump_Put.f (k : Nat) (l0 : List S38) : Option (List Int) := dump_Put.l k l0 [99, 114, 101, 101, 108, 100, 109, 112]
theorem dump_Put.mono_l (k : Nat) : ∀ (l : List S38) (out : List Int), LeO (dump_Put.l k l out) (dump_Put.l (k + 1) l out)
  | [], _ => LeO.refl _
  | x :: l, out => by
    unfold dump_Put.l
    refine LeO.trans (LeO.bind (vary_Fix.mono _ _ _ k) (fun t => LeO.refl _)) (LeO.bind (LeO.refl _) (fun t => ?_))
    refine LeO.trans (LeO.bind (vary_Fix.mono _ _ _ k) (fun t => LeO.refl _)) (LeO.bind (LeO.refl _) (fun u => ?_))
    exact LeO.ite (dump_Put.mono_l k l _) (LeO.refl _)
theorem dump_Put.mono (l0 : List S38) (k : Nat) : LeO (dump_Put.f k l0) (dump_Put.f (k + 1) l0) := dump_Put.mono_l k l0 _
set_option maxHeartbeats 8000000 in
set_option maxRecDepth 100000 in
theorem dump_Put.calls (k : Nat) (A0 : Option Addr) (c0 : Nat) (l0 : List S38) (r : List Int) (w : World) (hr0 : Kd.C k38 w A0 l0.length l0) (hc0 : l0.length ≤ c0) (h : dump_Put.f k l0 = some r) :
    Calls Try.prog 10 #[.slice A0 l0.length c0] w fun e w' => ∃ v0_ : Value, e = .returned (v0_) ∧ Kd.V (Kd.int .u8) 5 w' w.heap.size (fun k_ => (w.heap.size ≤ k_)) v0_ r ∧ Below w.heap.size w w' := by
  have HR0 := Aside0.mk hr0
  have HC0 := Aside0.mk hc0
  have HH := Aside0.mk h
  have HMX := Aside0.mk hr0.2.1
  clear hr0 hc0 h
  unfold dump_Put.f at HH
  have kc := fun (w : World) (C : Array Value) (n c : Nat) => Lib.run_convert_bytes_const (P := Try.prog) w 23 5 C n c Try.underlying23 Try.underlying5
  go_enter Try.func10, Try.ntmps10
  go_wp2
  have HO0 := Aside0.mk (show Hand.OutRow 5 (w.alloc (.cells #[.int .u8 99, .int .u8 114, .int .u8 101, .int .u8 101, .int .u8 108, .int .u8 100, .int .u8 109, .int .u8 112] 5 (8, 9))) w.heap.size (.slice (some ⟨w.heap.size, 0, none⟩) 8 8) [99, 114, 101, 101, 108, 100, 109, 112] from .inr ⟨_, rfl, by decide, Hand.F_nums _ (heap_alloc_new _ _) rfl (by decide) (Nat.le_refl _)⟩)
  have HB0 := Aside0.mk ((Below.refl w.heap.size w).alloc (Nat.le_refl _) (.cells #[.int .u8 99, .int .u8 114, .int .u8 101, .int .u8 101, .int .u8 108, .int .u8 100, .int .u8 109, .int .u8 112] 5 (8, 9)))
  clear kc
  go_loopw [3, 12] (fun v i wr => ∃ (j : Nat) (out : List Int), j ≤ l0.length ∧ i = .int .i64 j ∧ Aside0 (dump_Put.l k (l0.drop j) out = some r) ∧ Aside0 (Hand.OutRow 5 wr w.heap.size v out) ∧ Aside0 (Below w.heap.size w wr)) (fun _ i _ => l0.length - (intOf i).toNat)
  case atStart => exact ⟨0, _, Nat.zero_le _, rfl, HH, HO0, HB0⟩
  case round =>
    clear HO0 HB0 HH
    obtain ⟨j, out, hj, rfl, HH, HO, HB⟩ := hrel
    obtain ⟨Ao, co, rfl⟩ := HO.out.slice
    have hmx := HMX.out
    by_cases hlt : j < l0.length
    · have h := HH.out
      clear HH
      have hd : l0.drop j = l0.getD j z38 :: l0.drop (j + 1) := by rw [List.drop_eq_getElem_cons hlt, List.getD_eq_getElem?_getD, List.getElem?_eq_getElem hlt]; rfl
      rw [hd] at h
      clear hd
      unfold dump_Put.l at h
      obtain ⟨a, ha, h'⟩ := Option.bind_eq_some_iff.mp h
      clear h
      obtain ⟨b, hb, h⟩ := Option.bind_eq_some_iff.mp h'
      clear h'
      by_cases hc : 0 < a.length ∧ 0 < b.length ∧ out.length + a.length + b.length < 140737488355000
      · rw [if_pos hc] at h
        obtain ⟨hc1, hc2, hc3⟩ := hc
        obtain ⟨ad, rfl, hx0, hx1⟩ := at_T38 (Kd.C_below HR0.out HB.out) (j : Int) (by omega) (by omega)
        rw [Int.toNat_natCast] at hx0 hx1
        rw [show rd_T38 l0 (j : Int) = l0.getD j z38 from rfl] at hx0 hx1
        generalize l0.getD j z38 = x at *
        obtain ⟨p, q⟩ := x
        simp only at hx0 hx1 ha hb
        obtain ⟨oa, hoa⟩ : ∃ oa_, out ++ a = oa_ := ⟨_, rfl⟩
        rw [hoa] at h
        obtain ⟨ob, hob⟩ : ∃ ob_, oa ++ b = ob_ := ⟨_, rfl⟩
        rw [hob] at h
        have hla : oa.length = out.length + a.length := by rw [← hoa, List.length_append]
        have HLA := Aside0.mk hla
        have HOA := Aside0.mk hoa
        have HOB := Aside0.mk hob
        clear hoa hob hla
        have HF1 := Aside0.mk ha
        have HF2 := Aside0.mk hb
        have HH := Aside0.mk h
        clear ha hb h
        have i0 : ∀ w, (Instr.index 38 (.agg #[.int .u32 p, .int .u32 q]) (.int .i64 0)).run Try.prog w = .ok (.int .u32 p) w := fun _ => by kernel_rfl
        have i1 : ∀ w, (Instr.index 38 (.agg #[.int .u32 p, .int .u32 q]) (.int .i64 1)).run Try.prog w = .ok (.int .u32 q) w := fun _ => by kernel_rfl
        go_wp2
        have HO1 := Aside0.mk (HO.out.below (below_alloc (Below.refl _ _) (.cells #[.int .u32 p, .int .u32 q] 38)))
        have HB1 := Aside0.mk (HB.out.alloc HB.out.size (.cells #[.int .u32 p, .int .u32 q] 38))
        refine wp_loop_rounds 3 ?_
        rw [rounds_succ]
        go_wp2_with (first | (go_at_call 15; refine (vary_Fix.calls k none 0 [] _ _ a _ (Kd.C_nil _ _) (Nat.le_refl _) HF1.out).mono ?_; rintro e w1 ⟨v1, rfl, ho, hb⟩; obtain ⟨Aa, ca, rfl⟩ := Kd.R_slice ho; have HA := Aside0.mk (Kd.R_reads' ho).2.2; have HO1b := Aside0.mk (HO1.out.below hb); have HB1b := Aside0.mk (below_step HB1.out hb); clear ho hb) | (refine Hand.out_append (w0 := w) w.heap.size rfl (.tmp 20) (.tmp 23) 23 5 rfl Try.underlying23 info5 _ out a _ _ _ rfl rfl HO1b.out HA.out (by omega) HB1b.out HB1b.out.size (by omega) ?_; intro v2 w2 ho hb; rw [HOA.out] at ho; obtain ⟨Ao, co, rfl⟩ := Kd.R_slice ho; have HO1c := Aside0.mk (show Hand.OutRow 5 w2 w.heap.size _ _ from .inl ho); have HB1c := Aside0.mk hb; clear ho hb))
        rw [rounds_succ]
        go_wp2_with (first | (go_at_call 15; refine (vary_Fix.calls k none 0 [] _ _ b _ (Kd.C_nil _ _) (Nat.le_refl _) HF2.out).mono ?_; rintro e w1 ⟨v1, rfl, ho, hb⟩; obtain ⟨Aa, ca, rfl⟩ := Kd.R_slice ho; have HA := Aside0.mk (Kd.R_reads' ho).2.2; have HO2b := Aside0.mk (HO1c.out.below hb); have HB2b := Aside0.mk (below_step HB1c.out hb); clear ho hb) | (refine Hand.out_append (w0 := w) w.heap.size rfl (.tmp 20) (.tmp 23) 23 5 rfl Try.underlying23 info5 _ oa b _ _ _ rfl rfl HO2b.out HA.out (by omega) HB2b.out HB2b.out.size (by have := HLA.out; omega) ?_; intro v2 w2 ho hb; rw [HOB.out] at ho; obtain ⟨Ao, co, rfl⟩ := Kd.R_slice ho; have HO2c := Aside0.mk (show Hand.OutRow 5 w2 w.heap.size _ _ from .inl ho); have HB2c := Aside0.mk hb; clear ho hb))
        rw [rounds_succ]
        go_wp2
        go_roundw
        case rel => exact ⟨j + 1, _, by omega, by go_num, HH, HO2c, HB2c⟩
        case measure => simp [intOf]; omega
      · rw [if_neg hc] at h
        exact absurd h (by simp)
    · obtain rfl : j = l0.length := by omega
      have h := HH.out
      rw [List.drop_length] at h
      unfold dump_Put.l at h
      obtain rfl := Option.some.inj h
      clear h HH
      go_wp2
      go_ret
      exact ⟨_, rfl, HO.out.V, HB.out⟩

/-! ### creellaw10_shown: function 9 -/
def creellaw10_shown.f (k : Nat)  : Option (Bool) := (dump_Put.f k (([(⟨1, 2⟩ : S38)] : List (S38)))).bind fun t121 => (some ((strOfNums t121).toList == ([99, 114, 101, 101, 108, 100, 109, 112, 0, 0, 0, 1, 0, 0, 0, 2] : List UInt8)))
theorem creellaw10_shown.mono : ∀ k, LeO (creellaw10_shown.f k ) (creellaw10_shown.f (k + 1) ) := by
  intro  k
  unfold creellaw10_shown.f
  repeat' first
      | (with_reducible exact dump_Put.mono _ _)
      | (with_reducible exact LeO.refl _)
      | (with_reducible exact LeO.none _)
      | (with_reducible refine LeO.ite ?_ ?_)
      | (with_reducible refine LeO.bind ?_ (fun _ => ?_))
      | exact dump_Put.mono _ _
      | exact LeO.none _
      | refine LeO.ite ?_ ?_
      | refine LeO.bind ?_ (fun _ => ?_)
set_option maxHeartbeats 8000000 in
set_option maxRecDepth 100000 in
theorem creellaw10_shown.calls (k : Nat)  (r : Bool) (w : World) (h : creellaw10_shown.f k  = some r) :
    Calls Try.prog 9 #[] w fun e w' => e = .returned (.bool r) ∧ Below w.heap.size w w' := by
  have hu38 := Try.underlying38
  have HB := Aside0.mk (Below.refl w.heap.size w)
  have H : ((dump_Put.f k (([(⟨1, 2⟩ : S38)] : List (S38)))).bind fun t121 => (some ((strOfNums t121).toList == ([99, 114, 101, 101, 108, 100, 109, 112, 0, 0, 0, 1, 0, 0, 0, 2] : List UInt8)))) = some r := h
  clear h
  obtain ⟨y118, hy118⟩ : ∃ y_ : List (S38), y_ = (([(⟨1, 2⟩ : S38)] : List (S38))) := ⟨_, rfl⟩
  replace H : ((dump_Put.f k y118).bind fun t121 => (some ((strOfNums t121).toList == ([99, 114, 101, 101, 108, 100, 109, 112, 0, 0, 0, 1, 0, 0, 0, 2] : List UInt8)))) = some r := by first | (rw [hy118]; with_reducible exact H) | (have H2_ := (Option.bind_some _ _).symm.trans H; rw [hy118]; with_reducible exact H2_) | (have H2_ := (Option.bind_some _ _).symm.trans H; with_reducible exact H2_) | with_reducible exact H | (rw [hy118]; exact H) | exact H
  have Ny118 := Aside0.mk hy118
  clear hy118
  replace H := Option.bind_eq_some_iff.mp H
  obtain ⟨t121, A10, H⟩ := H
  replace H : (some ((strOfNums t121).toList == ([99, 114, 101, 101, 108, 100, 109, 112, 0, 0, 0, 1, 0, 0, 0, 2] : List UInt8))) = some r := H
  have A1 := Aside0.mk A10
  clear A10
  obtain rfl := Option.some.inj H
  go_enter Try.func9, Try.ntmps9
  go_wp2_with (first | ((with_reducible refine gate_dst (N := 2) rfl ?_); refine Kd.R_lit k38 _ 38 ?hg (N := 2) ?hd (xs := ([(⟨1, 2⟩ : S38)] : List (S38))) (inner := [.int .u32 1, .int .u32 2]) (ok := fun _ => True) (okp := fun _ => True) ?hr ?hp (fun _ hk => hk) trivial (Below.refl _ _) (Nat.le_refl _) (by simp) ?_; (case hd => rfl); (case hg => rfl); (case hr => first | (go_simp; done) | (go_simp; rfl)); (case hp => exact (Reps.c2 (show Kd.M k38 _ _ _ (⟨1, 2⟩ : S38) [.int .u32 1, .int .u32 2] from (k38_mkM _ _ _ (⟨1, 2⟩ : S38) )) (Reps.none _ _))); intro v119 w2 ho3 hb hg_ hnew_; clear hg_ hnew_; (first | rw [← Ny118.out] at ho3 | (simp only [Int.reduceToNat] at ho3; rw [← Ny118.out] at ho3)); have n0_ := Aside0.mk (Kd.R_lower ho3 (below_size (by repeat (first | (with_reducible first | exact HB.out | apply below_alloc | apply pw_below_drewN | apply below_drew1) | exact HB.out)))); have n1_ := Aside0.mk (below_step (by repeat (first | (with_reducible first | exact HB.out | apply below_alloc | apply pw_below_drewN | apply below_drew1) | exact HB.out)) hb); clear HB; have HO120 := n0_; have HB := n1_; clear n0_ n1_; clear hb ho3; obtain ⟨Ao4, co4, eo4⟩ := Kd.R_slice HO120.out; subst eo4) | ((with_reducible refine gate_callee (f := 10) rfl ?_); refine goesL_ (some 3) rfl rfl Try.func10 (by kernel_rfl) rfl #[.slice Ao4 y118.length co4] rfl (by (try simp only [List.map_toArray, List.map_cons, List.map_nil]); first | done | rfl | (simp only [List.length_drop, List.length_take]; rfl)) ?_; (with_reducible refine (dump_Put.calls k _ _ y118 t121 _ ?side1 ?side2 A1.out).mono ?_); (case side1 => repeat (first | exact (Kd.R_reads' HO120.out).2.2 | (with_reducible refine Kd.C_alloc ?_ _) | (with_reducible refine Kd.C_drewN ?_ _) | (with_reducible refine Kd.C_drew ?_))); (case side2 => exact (Kd.R_reads' HO120.out).2.1); rintro e w5 ⟨v122, rfl, ho0, hb⟩; refine ⟨_, rfl, ?_⟩; have n0_ := Aside0.mk (Kd.R_below (by (with_reducible repeat (first | apply Kd.R_alloc | apply Kd.R_drewN | apply Kd.R_drew)); exact HO120.out) hb); have n1_ := Aside0.mk (Kd.V_lower (Kd.V_mono (ok' := fun k_ => some k_ ≠ (.slice Ao4 y118.length co4 : Value).ownBlock) ho0 (fun k_ hk_ => (Kd.fresh' (Kd.R_lt (by (with_reducible repeat (first | apply Kd.R_alloc | apply Kd.R_drewN | apply Kd.R_drew)); exact HO120.out)) k_ hk_))) (below_size (by repeat (first | (with_reducible first | exact HB.out | apply below_alloc | apply pw_below_drewN | apply below_drew1) | exact HB.out)))); have n2_ := Aside0.mk (below_step (by repeat (first | (with_reducible first | exact HB.out | apply below_alloc | apply pw_below_drewN | apply below_drew1) | exact HB.out)) hb); clear HO120; clear HB; have HO120 := n0_; have HO123 := n1_; have HB := n2_; clear n0_ n1_ n2_; (try clear hb); (try clear hb2); (try clear hk); (try clear hi); (try clear ho0); (first | have hcv6 := own_string (P := Try.prog) Try.underlying23 Try.underlying5 Try.underlying9 (Kd.own_of_R HO123.out) | have hcv6 := Hand.V_string (P := Try.prog) Try.underlying23 Try.underlying5 Try.underlying9 HO123.out)))
  go_ret
  exact ⟨by first | rfl | (simp [errW_none, errW_some] <;> rfl) | (simp [*, errW_none, errW_some] <;> rfl), by repeat (first | (with_reducible first | exact HB.out | apply below_alloc | apply pw_below_drewN | apply below_drew1) | exact HB.out)⟩

/-! ### creelref10_Head: function 16 -/
def creelref10_Head.f : Option (List Int) := some [99, 114, 101, 101, 108, 100, 109, 112]
set_option maxHeartbeats 2000000 in
theorem creelref10_Head.calls (r : List Int) (w : World) (h : creelref10_Head.f = some r) :
    Calls Try.prog 16 #[] w fun e w' => ∃ v0_ : Value, e = .returned (v0_) ∧ Kd.V (Kd.int .u8) 5 w' w.heap.size (fun k_ => (w.heap.size ≤ k_)) v0_ r ∧ Below w.heap.size w w' := by
  unfold creelref10_Head.f at h
  obtain rfl := Option.some.inj h
  have kc := fun (w : World) (C : Array Value) (n c : Nat) => Lib.run_convert_bytes_const (P := Try.prog) w 23 5 C n c Try.underlying23 Try.underlying5
  go_enter Try.func16, Try.ntmps16
  go_wp2
  go_ret
  exact ⟨_, rfl, Kd.V_mk (xs := ([99, 114, 101, 101, 108, 100, 109, 112] : List Int)) (c := 8) (by decide) (Hand.F_nums _ (heap_alloc_new _ _) rfl (by decide) (Nat.le_refl _)), (Below.refl w.heap.size w).alloc (Nat.le_refl _) _⟩

end Go.Proofs.Ythnjeddcnkbebaa.Print
