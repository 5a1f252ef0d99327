-- Written by a program of this session (wip/cprint.py), which calls the kit's print and adds contracts proved by hand.
import Derived.Test.YtgpacbklpmloaaaPrint0
import Derived.Test.YtgpacbklpmloaaaPrint15
import Derived.Test.YtgpacbklpmloaaaPrint18
import Derived.Test.YtgpacbklpmloaaaPrint22
namespace Go.Proofs.Ytgpacbklpmloaaa.Print
open Go.RowKit Go.Proofs.YtgpacbklpmloaaaW.PrintWords Go.Proofs.YtgpacbklpmloaaaW.PrintLast Go.Proofs.YtgpacbklpmloaaaW.PrintMore
attribute [local go_sem] max2_int min2_int max_two min_two max_three min_three max_four min_four   -- for this text's walks alone
set_option linter.unusedVariables false
set_option linter.unusedSimpArgs false

/-! ### creellaw15_WordsOnce: function 13 -/
def creellaw15_WordsOnce.l0 : Nat → Bool → List Int → List (List Int) → List Int → Int → Int → Int → Option (Bool)
  | 0, _, _, _, _, _, _, _ => none
  | k + 1, x3, x4, x5, x7, x8, x35, x36 => if x36 < x35 then (if x36 > 0 then (if 0 ≤ (wrap64 (x36 - 1)) then (if (wrap64 (x36 - 1)) < (x5.length : Int) then (if 0 ≤ x36 then (if x36 < (x5.length : Int) then (if ((Op.bytesLess ((strOfNums (rd_L3 x5 (wrap64 (x36 - 1)))).toList) ((strOfNums (rd_L3 x5 x36)).toList)) = true) then (creellaw15_WordsOnce.l0 k x3 x4 x5 x7 x8 x35 (wrap64 (x36 + 1))) else (some false)) else (none)) else (none)) else (none)) else (none)) else (creellaw15_WordsOnce.l0 k x3 x4 x5 x7 x8 x35 (wrap64 (x36 + 1)))) else (if x3 = true then (if x8 = 0 then (if (strOfNums x7).toList = (strOfNums x4).toList then (if (x5.length : Int) ≥ 1 then (some (decide ((x5.length : Int) ≤ 16))) else (some false)) else (some false)) else (some false)) else (some false))
def creellaw15_WordsOnce.f (k : Nat) (l0 : List Int) : Option (Bool) := (creellaw15_shown.f k).bind fun t660 => (if 0 ≤ (mn (l0.length : Int) 700) then (if (mn (l0.length : Int) 700) ≤ (l0.length : Int) then ((words_Take.f k (l0.take ((mn (l0.length : Int) 700) : Int).toNat)).bind fun bt662 => (if bt662.2 = 0 then ((words_Put.f k bt662.1).bind fun bt666 => (creellaw15_WordsOnce.l0 k t660 (l0.take ((mn (l0.length : Int) 700) : Int).toNat) bt662.1 bt666.1 bt666.2 (bt662.1.length : Int) 0)) else (if t660 = true then (some ((bt662.1.length : Int) == 0)) else (some false)))) else (none)) else (none))
theorem creellaw15_WordsOnce.mono_l : ∀ k, (∀ y0 y1 y2 y3 y4 y5 y6, LeO (creellaw15_WordsOnce.l0 k y0 y1 y2 y3 y4 y5 y6) (creellaw15_WordsOnce.l0 (k + 1) y0 y1 y2 y3 y4 y5 y6))
  | 0 => fun _ _ _ _ _ _ _ r h => by simp [creellaw15_WordsOnce.l0] at h
  | k + 1 => by
    have ih0 := creellaw15_WordsOnce.mono_l k
    · intro y0 y1 y2 y3 y4 y5 y6
      unfold creellaw15_WordsOnce.l0
      repeat' first
      | (with_reducible exact ih0 _ _ _ _ _ _ _)
      | (with_reducible exact creellaw15_shown.mono _)
      | (with_reducible exact words_Put.mono _ _)
      | (with_reducible exact words_Take.mono _ _)
      | (with_reducible exact LeO.refl _)
      | (with_reducible exact LeO.none _)
      | (with_reducible refine LeO.ite ?_ ?_)
      | (with_reducible refine LeO.bind ?_ (fun _ => ?_))
      | exact ih0 _ _ _ _ _ _ _
      | exact creellaw15_shown.mono _
      | exact words_Put.mono _ _
      | exact words_Take.mono _ _
      | exact LeO.none _
      | refine LeO.ite ?_ ?_
      | refine LeO.bind ?_ (fun _ => ?_)
theorem creellaw15_WordsOnce.mono : ∀ a0 k, LeO (creellaw15_WordsOnce.f k a0) (creellaw15_WordsOnce.f (k + 1) a0) := by
  intro a0 k
  have ih0 := creellaw15_WordsOnce.mono_l k
  unfold creellaw15_WordsOnce.f
  repeat' first
      | (with_reducible exact ih0 _ _ _ _ _ _ _)
      | (with_reducible exact creellaw15_shown.mono _)
      | (with_reducible exact words_Put.mono _ _)
      | (with_reducible exact words_Take.mono _ _)
      | (with_reducible exact LeO.refl _)
      | (with_reducible exact LeO.none _)
      | (with_reducible refine LeO.ite ?_ ?_)
      | (with_reducible refine LeO.bind ?_ (fun _ => ?_))
      | exact ih0 _ _ _ _ _ _ _
      | exact creellaw15_shown.mono _
      | exact words_Put.mono _ _
      | exact words_Take.mono _ _
      | exact LeO.none _
      | refine LeO.ite ?_ ?_
      | refine LeO.bind ?_ (fun _ => ?_)
set_option maxHeartbeats 8000000 in
set_option maxRecDepth 100000 in
theorem creellaw15_WordsOnce.calls (k : Nat) (A0 : Option Addr) (c0 : Nat) (l0 : List Int) (r : Bool) (w : World) (hr0 : Kd.C (Kd.int .u8) w A0 l0.length l0) (hc0 : l0.length ≤ c0) (h : creellaw15_WordsOnce.f k l0 = some r) :
    Calls Try.prog 13 #[.slice A0 l0.length c0] w fun e w' => e = .returned (.bool r) ∧ Below w.heap.size w w' := by
  have HR0 := Aside0.mk hr0
  have HC0 := Aside0.mk hc0
  clear hr0 hc0
  have HB := Aside0.mk (Below.refl w.heap.size w)
  have H : ((creellaw15_shown.f k).bind fun t660 => (if 0 ≤ (mn (l0.length : Int) 700) then (if (mn (l0.length : Int) 700) ≤ (l0.length : Int) then ((words_Take.f k (l0.take ((mn (l0.length : Int) 700) : Int).toNat)).bind fun bt662 => (if bt662.2 = 0 then ((words_Put.f k bt662.1).bind fun bt666 => (creellaw15_WordsOnce.l0 k t660 (l0.take ((mn (l0.length : Int) 700) : Int).toNat) bt662.1 bt666.1 bt666.2 (bt662.1.length : Int) 0)) else (if t660 = true then (some ((bt662.1.length : Int) == 0)) else (some false)))) else (none)) else (none))) = some r := h
  clear h
  replace H := Option.bind_eq_some_iff.mp H
  obtain ⟨t660, A20, H⟩ := H
  replace H : (if 0 ≤ (mn (l0.length : Int) 700) then (if (mn (l0.length : Int) 700) ≤ (l0.length : Int) then ((words_Take.f k (l0.take ((mn (l0.length : Int) 700) : Int).toNat)).bind fun bt662 => (if bt662.2 = 0 then ((words_Put.f k bt662.1).bind fun bt666 => (creellaw15_WordsOnce.l0 k t660 (l0.take ((mn (l0.length : Int) 700) : Int).toNat) bt662.1 bt666.1 bt666.2 (bt662.1.length : Int) 0)) else (if t660 = true then (some ((bt662.1.length : Int) == 0)) else (some false)))) else (none)) else (none)) = some r := H
  have A2 := Aside0.mk A20
  clear A20
  obtain ⟨ji3, hji3⟩ : ∃ j_ : Int, (mn (l0.length : Int) 700) = j_ := ⟨_, rfl⟩
  replace H : (if 0 ≤ (ji3) then (if (ji3) ≤ (l0.length : Int) then ((words_Take.f k (l0.take ((ji3) : Int).toNat)).bind fun bt662 => (if bt662.2 = 0 then ((words_Put.f k bt662.1).bind fun bt666 => (creellaw15_WordsOnce.l0 k t660 (l0.take ((ji3) : Int).toNat) bt662.1 bt666.1 bt666.2 (bt662.1.length : Int) 0)) else (if t660 = true then (some ((bt662.1.length : Int) == 0)) else (some false)))) else (none)) else (none)) = some r := by first | (rw [hji3] at H; exact H) | (simp only [hji3] at H ⊢; exact H)
  (try rw [hji3] at A2)
  (try (have hji3h : ji3 ≤ 700 := by (rw [← hji3]; unfold mn; (repeat' split) <;> omega)))
  (try (have hji3g : ji3 ≤ 64 := by omega))
  (try (have hji3l : 0 ≤ ji3 := by (rw [← hji3]; unfold mn; (repeat' split) <;> omega)))
  (try (have hji3m : 0 ≤ ji3 := by omega))
  have hji3_ : (if 700 < (l0.length : Int) then 700 else (l0.length : Int)) = ji3 := hji3
  by_cases c4 : 0 ≤ (ji3)
  · rw [if_pos c4] at H
    have c4b0 := eq_true c4
    have c4b1 : decide (0 ≤ (ji3)) = true := decide_eq_true c4
    clear c4
    by_cases c5 : (ji3) ≤ (l0.length : Int)
    · rw [if_pos c5] at H
      have c5b0 := eq_true c5
      have c5b1 : decide ((ji3) ≤ (l0.length : Int)) = true := decide_eq_true c5
      clear c5
      replace H := Option.bind_eq_some_iff.mp H
      obtain ⟨⟨t662, t665⟩, A60, H⟩ := H
      replace H : (if t665 = 0 then ((words_Put.f k t662).bind fun bt666 => (creellaw15_WordsOnce.l0 k t660 (l0.take ((ji3) : Int).toNat) t662 bt666.1 bt666.2 (t662.length : Int) 0)) else (if t660 = true then (some ((t662.length : Int) == 0)) else (some false))) = some r := H
      have A6 := Aside0.mk A60
      clear A60
      by_cases c7 : t665 = 0
      · rw [if_pos c7] at H
        have c7b0 : (t665 == 0) = true := beq_iff_eq.mpr c7
        have c7b1 : (t665 != 0) = false := bne_eq_false_iff_eq.mpr c7
        clear c7
        replace H := Option.bind_eq_some_iff.mp H
        obtain ⟨⟨t666, t669⟩, A80, H⟩ := H
        replace H : (creellaw15_WordsOnce.l0 k t660 (l0.take ((ji3) : Int).toNat) t662 t666 t669 (t662.length : Int) 0) = some r := H
        have A8 := Aside0.mk A80
        clear A80
        have H' := Aside0.mk H
        clear H
        go_enter Try.func13, Try.ntmps13
        go_wp2_with (first | (go_at_call 25; (with_reducible refine (creellaw15_shown.calls k  t660 _ A2.out).mono ?_); rintro e w9 ⟨rfl, hb⟩; have n0_ := Aside0.mk (below_step (by repeat (first | (with_reducible first | exact HB.out | apply below_alloc | apply pw_below_drewN | apply below_drew1) | exact HB.out)) hb); clear HB; have HB := n0_; clear n0_; (try clear hb); (try clear hb2); (try clear hk); (try clear hi); obtain ⟨i010, hi010, _, hsz10, _⟩ := info_parts info5; obtain ⟨hcut10, hA10, hC10⟩ := print_take_of (P := Try.prog) (Value.int .u8) 0 27 5 .i64 Try.underlying27 hi010 hsz10 A0 c0 l0 (ji3) (of_decide_eq_true (by first | (with_reducible assumption) | assumption)) (of_decide_eq_true (by first | (with_reducible assumption) | assumption)) HC0.out; have HR661 := Aside0.mk (Kd.C_of_reads (h1 := fun _ => rfl) (hA10 _ (Kd.reads_of_C HR0.out))); have HC661 := Aside0.mk hC10; clear hA10 hC10 hi010 hsz10) | (go_at_call 29; have hq_ : (ji3 : Int).toNat = (l0.take ((ji3) : Int).toNat).length := (by rw [List.length_take]; have h_ : ((ji3) : Int) ≤ (l0.length : Int) := (by first | exact of_decide_eq_true (by first | (with_reducible assumption) | assumption) | (simp only [← hji3]; unfold mn; split <;> omega)); omega); refine Eq.mpr (congrArg (fun n_ : Nat => Calls Try.prog 29 #[.slice A0 n_ c0] _ _) hq_) ?_; clear hq_; (with_reducible refine (words_Take.calls k _ _ (l0.take ((ji3) : Int).toNat) t662 t665 _ ?side1 ?side2 A6.out).mono ?_); (case side1 => repeat (first | exact (Kd.C_below HR661.out HB.out) | (with_reducible refine Kd.C_alloc ?_ _) | (with_reducible refine Kd.C_drewN ?_ _) | (with_reducible refine Kd.C_drew ?_))); (case side2 => exact HC661.out); rintro e w11 ⟨v663, rfl, ho0, hb⟩; have n0_ := Aside0.mk (Kd.N_lower (Kd.N_mono (ok' := fun k_ => True) ho0 (fun k_ hk_ => trivial)) (below_size (by repeat (first | (with_reducible first | exact HB.out | apply below_alloc | apply pw_below_drewN | apply below_drew1) | exact HB.out)))); have n1_ := Aside0.mk (below_step (by repeat (first | (with_reducible first | exact HB.out | apply below_alloc | apply pw_below_drewN | apply below_drew1) | exact HB.out)) hb); clear HB; have HO664 := n0_; have HB := n1_; clear n0_ n1_; (try clear hb); (try clear hb2); (try clear hk); (try clear hi); (try clear ho0); obtain ⟨Ao12, co12, eo12⟩ := Kd.N_slice HO664.out; subst eo12) | (go_at_call 22; (with_reducible refine (words_Put.calls k (fun k_ => True) _ _ t662 t666 t669 _ ?side1 A8.out).mono ?_); (case side1 => exact Kd.N_V (HO664.out)); rintro e w13 ⟨v667, rfl, ho0, hb⟩; have n0_ := Aside0.mk (Kd.N_elder' (by (with_reducible repeat (first | apply Kd.N_alloc | apply Kd.N_drewN | apply Kd.N_drew)); exact HO664.out) (Kd.R_base ho0) hb); have n1_ := Aside0.mk (Kd.R_lower (Kd.R_mono (ok' := fun k_ => True) ho0 (fun _ hk_ => trivial)) (below_size (by repeat (first | (with_reducible first | exact HB.out | apply below_alloc | apply pw_below_drewN | apply below_drew1) | exact HB.out)))); have n2_ := Aside0.mk (below_step (by repeat (first | (with_reducible first | exact HB.out | apply below_alloc | apply pw_below_drewN | apply below_drew1) | exact HB.out)) hb); clear HO664; clear HB; have HO664 := n0_; have HO668 := n1_; have HB := n2_; clear n0_ n1_ n2_; (try clear hb); (try clear hb2); (try clear hk); (try clear hi); (try clear ho0)))
        repeat (go_quiet (first | (go_at_call 25; (with_reducible refine (creellaw15_shown.calls k  t660 _ A2.out).mono ?_); rintro e w9 ⟨rfl, hb⟩; have n0_ := Aside0.mk (below_step (by repeat (first | (with_reducible first | exact HB.out | apply below_alloc | apply pw_below_drewN | apply below_drew1) | exact HB.out)) hb); clear HB; have HB := n0_; clear n0_; (try clear hb); (try clear hb2); (try clear hk); (try clear hi); obtain ⟨i010, hi010, _, hsz10, _⟩ := info_parts info5; obtain ⟨hcut10, hA10, hC10⟩ := print_take_of (P := Try.prog) (Value.int .u8) 0 27 5 .i64 Try.underlying27 hi010 hsz10 A0 c0 l0 (ji3) (of_decide_eq_true (by first | (with_reducible assumption) | assumption)) (of_decide_eq_true (by first | (with_reducible assumption) | assumption)) HC0.out; have HR661 := Aside0.mk (Kd.C_of_reads (h1 := fun _ => rfl) (hA10 _ (Kd.reads_of_C HR0.out))); have HC661 := Aside0.mk hC10; clear hA10 hC10 hi010 hsz10) | (go_at_call 29; have hq_ : (ji3 : Int).toNat = (l0.take ((ji3) : Int).toNat).length := (by rw [List.length_take]; have h_ : ((ji3) : Int) ≤ (l0.length : Int) := (by first | exact of_decide_eq_true (by first | (with_reducible assumption) | assumption) | (simp only [← hji3]; unfold mn; split <;> omega)); omega); refine Eq.mpr (congrArg (fun n_ : Nat => Calls Try.prog 29 #[.slice A0 n_ c0] _ _) hq_) ?_; clear hq_; (with_reducible refine (words_Take.calls k _ _ (l0.take ((ji3) : Int).toNat) t662 t665 _ ?side1 ?side2 A6.out).mono ?_); (case side1 => repeat (first | exact (Kd.C_below HR661.out HB.out) | (with_reducible refine Kd.C_alloc ?_ _) | (with_reducible refine Kd.C_drewN ?_ _) | (with_reducible refine Kd.C_drew ?_))); (case side2 => exact HC661.out); rintro e w11 ⟨v663, rfl, ho0, hb⟩; have n0_ := Aside0.mk (Kd.N_lower (Kd.N_mono (ok' := fun k_ => True) ho0 (fun k_ hk_ => trivial)) (below_size (by repeat (first | (with_reducible first | exact HB.out | apply below_alloc | apply pw_below_drewN | apply below_drew1) | exact HB.out)))); have n1_ := Aside0.mk (below_step (by repeat (first | (with_reducible first | exact HB.out | apply below_alloc | apply pw_below_drewN | apply below_drew1) | exact HB.out)) hb); clear HB; have HO664 := n0_; have HB := n1_; clear n0_ n1_; (try clear hb); (try clear hb2); (try clear hk); (try clear hi); (try clear ho0); obtain ⟨Ao12, co12, eo12⟩ := Kd.N_slice HO664.out; subst eo12) | (go_at_call 22; (with_reducible refine (words_Put.calls k (fun k_ => True) _ _ t662 t666 t669 _ ?side1 A8.out).mono ?_); (case side1 => exact Kd.N_V (HO664.out)); rintro e w13 ⟨v667, rfl, ho0, hb⟩; have n0_ := Aside0.mk (Kd.N_elder' (by (with_reducible repeat (first | apply Kd.N_alloc | apply Kd.N_drewN | apply Kd.N_drew)); exact HO664.out) (Kd.R_base ho0) hb); have n1_ := Aside0.mk (Kd.R_lower (Kd.R_mono (ok' := fun k_ => True) ho0 (fun _ hk_ => trivial)) (below_size (by repeat (first | (with_reducible first | exact HB.out | apply below_alloc | apply pw_below_drewN | apply below_drew1) | exact HB.out)))); have n2_ := Aside0.mk (below_step (by repeat (first | (with_reducible first | exact HB.out | apply below_alloc | apply pw_below_drewN | apply below_drew1) | exact HB.out)) hb); clear HO664; clear HB; have HO664 := n0_; have HO668 := n1_; have HB := n2_; clear n0_ n1_ n2_; (try clear hb); (try clear hb2); (try clear hk); (try clear hi); (try clear ho0))); try go_wp2_with (first | (go_at_call 25; (with_reducible refine (creellaw15_shown.calls k  t660 _ A2.out).mono ?_); rintro e w9 ⟨rfl, hb⟩; have n0_ := Aside0.mk (below_step (by repeat (first | (with_reducible first | exact HB.out | apply below_alloc | apply pw_below_drewN | apply below_drew1) | exact HB.out)) hb); clear HB; have HB := n0_; clear n0_; (try clear hb); (try clear hb2); (try clear hk); (try clear hi); obtain ⟨i010, hi010, _, hsz10, _⟩ := info_parts info5; obtain ⟨hcut10, hA10, hC10⟩ := print_take_of (P := Try.prog) (Value.int .u8) 0 27 5 .i64 Try.underlying27 hi010 hsz10 A0 c0 l0 (ji3) (of_decide_eq_true (by first | (with_reducible assumption) | assumption)) (of_decide_eq_true (by first | (with_reducible assumption) | assumption)) HC0.out; have HR661 := Aside0.mk (Kd.C_of_reads (h1 := fun _ => rfl) (hA10 _ (Kd.reads_of_C HR0.out))); have HC661 := Aside0.mk hC10; clear hA10 hC10 hi010 hsz10) | (go_at_call 29; have hq_ : (ji3 : Int).toNat = (l0.take ((ji3) : Int).toNat).length := (by rw [List.length_take]; have h_ : ((ji3) : Int) ≤ (l0.length : Int) := (by first | exact of_decide_eq_true (by first | (with_reducible assumption) | assumption) | (simp only [← hji3]; unfold mn; split <;> omega)); omega); refine Eq.mpr (congrArg (fun n_ : Nat => Calls Try.prog 29 #[.slice A0 n_ c0] _ _) hq_) ?_; clear hq_; (with_reducible refine (words_Take.calls k _ _ (l0.take ((ji3) : Int).toNat) t662 t665 _ ?side1 ?side2 A6.out).mono ?_); (case side1 => repeat (first | exact (Kd.C_below HR661.out HB.out) | (with_reducible refine Kd.C_alloc ?_ _) | (with_reducible refine Kd.C_drewN ?_ _) | (with_reducible refine Kd.C_drew ?_))); (case side2 => exact HC661.out); rintro e w11 ⟨v663, rfl, ho0, hb⟩; have n0_ := Aside0.mk (Kd.N_lower (Kd.N_mono (ok' := fun k_ => True) ho0 (fun k_ hk_ => trivial)) (below_size (by repeat (first | (with_reducible first | exact HB.out | apply below_alloc | apply pw_below_drewN | apply below_drew1) | exact HB.out)))); have n1_ := Aside0.mk (below_step (by repeat (first | (with_reducible first | exact HB.out | apply below_alloc | apply pw_below_drewN | apply below_drew1) | exact HB.out)) hb); clear HB; have HO664 := n0_; have HB := n1_; clear n0_ n1_; (try clear hb); (try clear hb2); (try clear hk); (try clear hi); (try clear ho0); obtain ⟨Ao12, co12, eo12⟩ := Kd.N_slice HO664.out; subst eo12) | (go_at_call 22; (with_reducible refine (words_Put.calls k (fun k_ => True) _ _ t662 t666 t669 _ ?side1 A8.out).mono ?_); (case side1 => exact Kd.N_V (HO664.out)); rintro e w13 ⟨v667, rfl, ho0, hb⟩; have n0_ := Aside0.mk (Kd.N_elder' (by (with_reducible repeat (first | apply Kd.N_alloc | apply Kd.N_drewN | apply Kd.N_drew)); exact HO664.out) (Kd.R_base ho0) hb); have n1_ := Aside0.mk (Kd.R_lower (Kd.R_mono (ok' := fun k_ => True) ho0 (fun _ hk_ => trivial)) (below_size (by repeat (first | (with_reducible first | exact HB.out | apply below_alloc | apply pw_below_drewN | apply below_drew1) | exact HB.out)))); have n2_ := Aside0.mk (below_step (by repeat (first | (with_reducible first | exact HB.out | apply below_alloc | apply pw_below_drewN | apply below_drew1) | exact HB.out)) hb); clear HO664; clear HB; have HO664 := n0_; have HO668 := n1_; have HB := n2_; clear n0_ n1_ n2_; (try clear hb); (try clear hb2); (try clear hk); (try clear hi); (try clear ho0))))
        go_loopg [36] k (fun kq v36 w' => ∃ (x36_1 : Int), v36 = .int .i64 x36_1 ∧ Aside0 (creellaw15_WordsOnce.l0 kq t660 (l0.take ((ji3) : Int).toNat) t662 t666 t669 (t662.length : Int) x36_1 = some r) ∧ Aside0 (kq ≤ k) ∧ Aside0 (Kd.N (Kd.slice 5 (Kd.int .u8)) 27 w' w.heap.size (fun k_ => some k_ ≠ (v667 : Value).ownBlock) (.slice Ao12 t662.length co12) t662) ∧ Aside0 (Kd.R (Kd.int .u8) 5 w' w.heap.size (fun _ => True) v667 t666) ∧ Aside0 (Below w.heap.size w w'))
        case atStart => exact ⟨(0), (by first | rfl | (simp; done) | (simp [*]; done)), H', ⟨Nat.le_refl _⟩, ⟨by (with_reducible repeat (first | apply Kd.N_alloc | apply Kd.N_drewN | apply Kd.N_drew)); exact Kd.N_mono HO664.out (fun _ hk => hk.2)⟩, ⟨by (with_reducible repeat (first | apply Kd.R_alloc | apply Kd.R_drewN | apply Kd.R_drew)); exact HO668.out⟩, ⟨by repeat (first | (with_reducible first | exact HB.out | apply below_alloc | apply pw_below_drewN | apply below_drew1) | exact HB.out)⟩⟩
        case round =>
          clear H'
          try clear c1
          try clear p2
          try clear c4
          try clear c4b0
          try clear c4b1
          try clear c5
          try clear c5b0
          try clear c5b1
          try clear c7
          try clear c7b0
          try clear c7b1
          try clear c13
          obtain ⟨x36_1, rfl, HA, HK1, HO_5, HO_7, HB⟩ := hrel
          cases gk with
          | zero => exact absurd HA.out (by simp [creellaw15_WordsOnce.l0])
          | succ k1 =>
            have H := HA.out
            clear HA
            simp only [creellaw15_WordsOnce.l0] at H
            by_cases c14 : x36_1 < (t662.length : Int)
            · rw [if_pos c14] at H
              have c14b0 : decide (x36_1 < (t662.length : Int)) = true := decide_eq_true c14
              clear c14
              by_cases c15 : x36_1 > 0
              · rw [if_pos c15] at H
                have c15b0 : decide (0 < x36_1) = true := decide_eq_true c15
                clear c15
                obtain ⟨ji16, hji16⟩ : ∃ j_ : Int, (wrap64 (x36_1 - 1)) = j_ := ⟨_, rfl⟩
                replace H : (if 0 ≤ (ji16) then (if (ji16) < (t662.length : Int) then (if 0 ≤ x36_1 then (if x36_1 < (t662.length : Int) then (if ((Op.bytesLess ((strOfNums (rd_L3 t662 (ji16))).toList) ((strOfNums (rd_L3 t662 x36_1)).toList)) = true) then (creellaw15_WordsOnce.l0 k1 t660 (l0.take ((ji3) : Int).toNat) t662 t666 t669 (t662.length : Int) (wrap64 (x36_1 + 1))) else (some false)) else (none)) else (none)) else (none)) else (none)) = some r := by first | (rw [hji16] at H; exact H) | (simp only [hji16] at H ⊢; exact H)
                have hji16w : (IntKind.i64.wrap (x36_1 - 1)) = ji16 := (i64_w _).trans hji16
                by_cases c17 : 0 ≤ (ji16)
                · rw [if_pos c17] at H
                  have c17b0 : decide (0 ≤ (ji16)) = true := decide_eq_true c17
                  clear c17
                  by_cases c18 : (ji16) < (t662.length : Int)
                  · rw [if_pos c18] at H
                    have c18b0 : decide ((ji16) < (t662.length : Int)) = true := decide_eq_true c18
                    clear c18
                    by_cases c19 : 0 ≤ x36_1
                    · rw [if_pos c19] at H
                      have c19b0 : decide (0 ≤ x36_1) = true := decide_eq_true c19
                      clear c19
                      by_cases c20 : x36_1 < (t662.length : Int)
                      · rw [if_pos c20] at H
                        have c20b0 : decide (x36_1 < (t662.length : Int)) = true := decide_eq_true c20
                        clear c20
                        by_cases c21 : ((Op.bytesLess ((strOfNums (rd_L3 t662 (ji16))).toList) ((strOfNums (rd_L3 t662 x36_1)).toList)) = true)
                        · rw [if_pos c21] at H
                          have c21b0 : (Op.bytesLess ((strOfNums (rd_L3 t662 (ji16))).toList) ((strOfNums (rd_L3 t662 x36_1)).toList)) = true := c21
                          clear c21
                          have H' := Aside0.mk H
                          clear H
                          have p670 : 0 ≤ ((ji16) : Int) := of_decide_eq_true (by first | (with_reducible assumption) | assumption)
                          have q670 : (ji16) < (t662.length : Int) := of_decide_eq_true (by first | (with_reducible assumption) | assumption)
                          obtain ⟨ad670, A670_0, c670_0, e670, hx670_0, hl670_0, hi670_0⟩ := at_L3 (Kd.N_reads' HO_5.out).2.2 (ji16) p670 q670
                          cases e670
                          obtain ⟨ce670, hce670, hMe670, hcc670⟩ := Kd.N_get HO_5.out [] (ji16) p670 (by first | exact q670 | exact of_decide_eq_true (by first | (with_reducible assumption) | assumption) | (have e_ := (Kd.N_reads' HO_5.out).1; omega))
                          obtain ⟨ua670_0, uc670_0, rfl, ul670_0, ge670_0⟩ := Kd.FK_slice_open hMe670
                          have hv670_0 := hcc670 0 _ rfl
                          rw [Nat.add_zero, show ((Kd.slice 5 (Kd.int .u8))).sz = 1 from rfl, Nat.mul_one] at hv670_0
                          replace hv670_0 := Option.some.inj (hv670_0.symm.trans hx670_0)
                          injection hv670_0 with hva_ hvn_ hvc_
                          rw [hva_] at ge670_0
                          rw [hvc_] at ul670_0
                          have HL670_0 := Aside0.mk (show Kd.V (Kd.int .u8) 5 _ w.heap.size _ _ (rd_L3 t662 (ji16)) from Kd.V_mk ul670_0 ge670_0)
                          clear hva_ hvn_ hvc_ ge670_0 ul670_0
                          clear hcc670 hce670
                          have HR670_0 := Aside0.mk hi670_0
                          have HC670_0 := Aside0.mk hl670_0
                          clear hi670_0 hl670_0
                          replace p670 := eq_true p670
                          replace q670 := eq_true q670
                          have hcv22 := Kd.C_string (P := Try.prog) (A := A670_0) (c := c670_0) Try.underlying27 Try.underlying5 Try.underlying9 (by repeat (first | (with_reducible exact HR670_0.out) | (with_reducible refine Kd.C_alloc ?_ _) | (with_reducible refine Kd.C_drewN ?_ _) | (with_reducible refine Kd.C_drew ?_) | exact HR670_0.out))
                          have hcv22e := fun n_ : Nat => Kd.C_string (P := Try.prog) (A := A670_0) (c := c670_0) Try.underlying27 Try.underlying5 Try.underlying9 (Kd.C_drewN HR670_0.out n_)
                          have p671 : 0 ≤ (x36_1 : Int) := of_decide_eq_true (by first | (with_reducible assumption) | assumption)
                          have q671 : x36_1 < (t662.length : Int) := of_decide_eq_true (by first | (with_reducible assumption) | assumption)
                          obtain ⟨ad671, A671_0, c671_0, e671, hx671_0, hl671_0, hi671_0⟩ := at_L3 (Kd.N_reads' HO_5.out).2.2 x36_1 p671 q671
                          obtain rfl : ad670 = ad671 := (by injection e671)
                          obtain ⟨ce671, hce671, hMe671, hcc671⟩ := Kd.N_get HO_5.out [] x36_1 p671 (by first | exact q671 | exact of_decide_eq_true (by first | (with_reducible assumption) | assumption) | (have e_ := (Kd.N_reads' HO_5.out).1; omega))
                          obtain ⟨ua671_0, uc671_0, rfl, ul671_0, ge671_0⟩ := Kd.FK_slice_open hMe671
                          have hv671_0 := hcc671 0 _ rfl
                          rw [Nat.add_zero, show ((Kd.slice 5 (Kd.int .u8))).sz = 1 from rfl, Nat.mul_one] at hv671_0
                          replace hv671_0 := Option.some.inj (hv671_0.symm.trans hx671_0)
                          injection hv671_0 with hva_ hvn_ hvc_
                          rw [hva_] at ge671_0
                          rw [hvc_] at ul671_0
                          have HL671_0 := Aside0.mk (show Kd.V (Kd.int .u8) 5 _ w.heap.size _ _ (rd_L3 t662 x36_1) from Kd.V_mk ul671_0 ge671_0)
                          clear hva_ hvn_ hvc_ ge671_0 ul671_0
                          clear hcc671 hce671
                          have HR671_0 := Aside0.mk hi671_0
                          have HC671_0 := Aside0.mk hl671_0
                          clear hi671_0 hl671_0
                          replace p671 := eq_true p671
                          replace q671 := eq_true q671
                          have hcv23 := Kd.C_string (P := Try.prog) (A := A671_0) (c := c671_0) Try.underlying27 Try.underlying5 Try.underlying9 (by repeat (first | (with_reducible exact HR671_0.out) | (with_reducible refine Kd.C_alloc ?_ _) | (with_reducible refine Kd.C_drewN ?_ _) | (with_reducible refine Kd.C_drew ?_) | exact HR671_0.out))
                          have hcv23e := fun n_ : Nat => Kd.C_string (P := Try.prog) (A := A671_0) (c := c671_0) Try.underlying27 Try.underlying5 Try.underlying9 (Kd.C_drewN HR671_0.out n_)
                          go_wp2
                          repeat (go_quiet (fail); try go_wp2)
                          go_roundg k1
                          case measure => have := HK1.out; omega
                          case rel => exact ⟨(wrap64 (x36_1 + 1)), (by first | rfl | (simp; done) | (simp [*]; done)), H', ⟨by have := HK1.out; omega⟩, ⟨by (with_reducible repeat (first | apply Kd.N_alloc | apply Kd.N_drewN | apply Kd.N_drew)); exact HO_5.out⟩, ⟨by (with_reducible repeat (first | apply Kd.R_alloc | apply Kd.R_drewN | apply Kd.R_drew)); exact HO_7.out⟩, ⟨by repeat (first | (with_reducible first | exact HB.out | apply below_alloc | apply pw_below_drewN | apply below_drew1) | exact HB.out)⟩⟩
                        · rw [if_neg c21] at H
                          have c21b0 : (Op.bytesLess ((strOfNums (rd_L3 t662 (ji16))).toList) ((strOfNums (rd_L3 t662 x36_1)).toList)) = false := by simpa using c21
                          clear c21
                          obtain rfl := Option.some.inj H
                          have p670 : 0 ≤ ((ji16) : Int) := of_decide_eq_true (by first | (with_reducible assumption) | assumption)
                          have q670 : (ji16) < (t662.length : Int) := of_decide_eq_true (by first | (with_reducible assumption) | assumption)
                          obtain ⟨ad670, A670_0, c670_0, e670, hx670_0, hl670_0, hi670_0⟩ := at_L3 (Kd.N_reads' HO_5.out).2.2 (ji16) p670 q670
                          cases e670
                          obtain ⟨ce670, hce670, hMe670, hcc670⟩ := Kd.N_get HO_5.out [] (ji16) p670 (by first | exact q670 | exact of_decide_eq_true (by first | (with_reducible assumption) | assumption) | (have e_ := (Kd.N_reads' HO_5.out).1; omega))
                          obtain ⟨ua670_0, uc670_0, rfl, ul670_0, ge670_0⟩ := Kd.FK_slice_open hMe670
                          have hv670_0 := hcc670 0 _ rfl
                          rw [Nat.add_zero, show ((Kd.slice 5 (Kd.int .u8))).sz = 1 from rfl, Nat.mul_one] at hv670_0
                          replace hv670_0 := Option.some.inj (hv670_0.symm.trans hx670_0)
                          injection hv670_0 with hva_ hvn_ hvc_
                          rw [hva_] at ge670_0
                          rw [hvc_] at ul670_0
                          have HL670_0 := Aside0.mk (show Kd.V (Kd.int .u8) 5 _ w.heap.size _ _ (rd_L3 t662 (ji16)) from Kd.V_mk ul670_0 ge670_0)
                          clear hva_ hvn_ hvc_ ge670_0 ul670_0
                          clear hcc670 hce670
                          have HR670_0 := Aside0.mk hi670_0
                          have HC670_0 := Aside0.mk hl670_0
                          clear hi670_0 hl670_0
                          replace p670 := eq_true p670
                          replace q670 := eq_true q670
                          have hcv24 := Kd.C_string (P := Try.prog) (A := A670_0) (c := c670_0) Try.underlying27 Try.underlying5 Try.underlying9 (by repeat (first | (with_reducible exact HR670_0.out) | (with_reducible refine Kd.C_alloc ?_ _) | (with_reducible refine Kd.C_drewN ?_ _) | (with_reducible refine Kd.C_drew ?_) | exact HR670_0.out))
                          have hcv24e := fun n_ : Nat => Kd.C_string (P := Try.prog) (A := A670_0) (c := c670_0) Try.underlying27 Try.underlying5 Try.underlying9 (Kd.C_drewN HR670_0.out n_)
                          have p671 : 0 ≤ (x36_1 : Int) := of_decide_eq_true (by first | (with_reducible assumption) | assumption)
                          have q671 : x36_1 < (t662.length : Int) := of_decide_eq_true (by first | (with_reducible assumption) | assumption)
                          obtain ⟨ad671, A671_0, c671_0, e671, hx671_0, hl671_0, hi671_0⟩ := at_L3 (Kd.N_reads' HO_5.out).2.2 x36_1 p671 q671
                          obtain rfl : ad670 = ad671 := (by injection e671)
                          obtain ⟨ce671, hce671, hMe671, hcc671⟩ := Kd.N_get HO_5.out [] x36_1 p671 (by first | exact q671 | exact of_decide_eq_true (by first | (with_reducible assumption) | assumption) | (have e_ := (Kd.N_reads' HO_5.out).1; omega))
                          obtain ⟨ua671_0, uc671_0, rfl, ul671_0, ge671_0⟩ := Kd.FK_slice_open hMe671
                          have hv671_0 := hcc671 0 _ rfl
                          rw [Nat.add_zero, show ((Kd.slice 5 (Kd.int .u8))).sz = 1 from rfl, Nat.mul_one] at hv671_0
                          replace hv671_0 := Option.some.inj (hv671_0.symm.trans hx671_0)
                          injection hv671_0 with hva_ hvn_ hvc_
                          rw [hva_] at ge671_0
                          rw [hvc_] at ul671_0
                          have HL671_0 := Aside0.mk (show Kd.V (Kd.int .u8) 5 _ w.heap.size _ _ (rd_L3 t662 x36_1) from Kd.V_mk ul671_0 ge671_0)
                          clear hva_ hvn_ hvc_ ge671_0 ul671_0
                          clear hcc671 hce671
                          have HR671_0 := Aside0.mk hi671_0
                          have HC671_0 := Aside0.mk hl671_0
                          clear hi671_0 hl671_0
                          replace p671 := eq_true p671
                          replace q671 := eq_true q671
                          have hcv25 := Kd.C_string (P := Try.prog) (A := A671_0) (c := c671_0) Try.underlying27 Try.underlying5 Try.underlying9 (by repeat (first | (with_reducible exact HR671_0.out) | (with_reducible refine Kd.C_alloc ?_ _) | (with_reducible refine Kd.C_drewN ?_ _) | (with_reducible refine Kd.C_drew ?_) | exact HR671_0.out))
                          have hcv25e := fun n_ : Nat => Kd.C_string (P := Try.prog) (A := A671_0) (c := c671_0) Try.underlying27 Try.underlying5 Try.underlying9 (Kd.C_drewN HR671_0.out n_)
                          go_wp2
                          repeat (go_quiet (fail); try go_wp2)
                          go_ret
                          exact ⟨by first | rfl | (simp [errW_none, errW_some] <;> rfl) | (simp only [← hji3, ← hji16]; first | rfl | (simp [errW_none, errW_some] <;> rfl)) | (simp [*, errW_none, errW_some] <;> rfl), by repeat (first | (with_reducible first | exact HB.out | apply below_alloc | apply pw_below_drewN | apply below_drew1) | exact HB.out)⟩
                      · rw [if_neg c20] at H
                        exact absurd H (by simp)
                    · rw [if_neg c19] at H
                      exact absurd H (by simp)
                  · rw [if_neg c18] at H
                    exact absurd H (by simp)
                · rw [if_neg c17] at H
                  exact absurd H (by simp)
              · rw [if_neg c15] at H
                have c15b0 : decide (0 < x36_1) = false := decide_eq_false c15
                clear c15
                have H' := Aside0.mk H
                clear H
                go_wp2
                repeat (go_quiet (fail); try go_wp2)
                go_roundg k1
                case measure => have := HK1.out; omega
                case rel => exact ⟨(wrap64 (x36_1 + 1)), (by first | rfl | (simp; done) | (simp [*]; done)), H', ⟨by have := HK1.out; omega⟩, ⟨by (with_reducible repeat (first | apply Kd.N_alloc | apply Kd.N_drewN | apply Kd.N_drew)); exact HO_5.out⟩, ⟨by (with_reducible repeat (first | apply Kd.R_alloc | apply Kd.R_drewN | apply Kd.R_drew)); exact HO_7.out⟩, ⟨by repeat (first | (with_reducible first | exact HB.out | apply below_alloc | apply pw_below_drewN | apply below_drew1) | exact HB.out)⟩⟩
            · rw [if_neg c14] at H
              have c14b0 : decide (x36_1 < (t662.length : Int)) = false := decide_eq_false c14
              clear c14
              by_cases c26 : t660 = true
              · subst c26
                have H1 : (if t669 = 0 then (if (strOfNums t666).toList = (strOfNums (l0.take ((ji3) : Int).toNat)).toList then (if (t662.length : Int) ≥ 1 then (some (decide ((t662.length : Int) ≤ 16))) else (some false)) else (some false)) else (some false)) = some r := by rw [if_pos rfl] at H; exact H
                clear H
                have H := H1
                clear H1
                by_cases c27 : t669 = 0
                · rw [if_pos c27] at H
                  have c27b0 : (t669 == 0) = true := beq_iff_eq.mpr c27
                  have c27b1 : (t669 != 0) = false := bne_eq_false_iff_eq.mpr c27
                  clear c27
                  by_cases c28 : (strOfNums t666).toList = (strOfNums (l0.take ((ji3) : Int).toNat)).toList
                  · rw [if_pos c28] at H
                    have c28b0 : ((strOfNums t666).toList == (strOfNums (l0.take ((ji3) : Int).toNat)).toList) = true := beq_iff_eq.mpr c28
                    have c28b1 : ((strOfNums t666).toList != (strOfNums (l0.take ((ji3) : Int).toNat)).toList) = false := bne_eq_false_iff_eq.mpr c28
                    clear c28
                    by_cases c29 : (t662.length : Int) ≥ 1
                    · rw [if_pos c29] at H
                      have c29b0 : decide (1 ≤ (t662.length : Int)) = true := decide_eq_true c29
                      have c29b1 : decide (1 ≤ t662.length) = true := decide_eq_true (by omega)
                      clear c29
                      obtain rfl := Option.some.inj H
                      (first | have hcv30 := own_string (P := Try.prog) Try.underlying27 Try.underlying5 Try.underlying9 (Kd.own_of_R HO_7.out) | have hcv30 := Hand.V_string (P := Try.prog) Try.underlying27 Try.underlying5 Try.underlying9 HO_7.out)
                      have hcv31 := Kd.C_string (P := Try.prog) (A := A0) (c := c0) Try.underlying27 Try.underlying5 Try.underlying9 (Kd.C_below HR661.out HB.out); have hcv31l := hcv31; (try (rw [show (l0.take ((ji3) : Int).toNat).length = (ji3).toNat from (by rw [List.length_take]; have h_ : ((ji3) : Int) ≤ (l0.length : Int) := (by first | exact of_decide_eq_true (by first | (with_reducible assumption) | assumption) | (simp only [← hji3]; unfold mn; split <;> omega)); omega)] at hcv31l)); have hcv31l := hcv31; (try (rw [show (l0.take ((ji3) : Int).toNat).length = (ji3).toNat from (by rw [List.length_take]; have h_ : ((ji3) : Int) ≤ (l0.length : Int) := (by first | exact of_decide_eq_true (by first | (with_reducible assumption) | assumption) | (simp only [← hji3]; unfold mn; split <;> omega)); omega)] at hcv31l))
                      go_wp2
                      repeat (go_quiet (fail); try go_wp2)
                      go_ret
                      exact ⟨by first | rfl | (simp [errW_none, errW_some] <;> rfl) | (simp only [← hji3]; first | rfl | (simp [errW_none, errW_some] <;> rfl)) | (simp [*, errW_none, errW_some] <;> rfl), by repeat (first | (with_reducible first | exact HB.out | apply below_alloc | apply pw_below_drewN | apply below_drew1) | exact HB.out)⟩
                    · rw [if_neg c29] at H
                      have c29b0 : decide (1 ≤ (t662.length : Int)) = false := decide_eq_false c29
                      have c29b1 : decide (1 ≤ t662.length) = false := decide_eq_false (by omega)
                      clear c29
                      obtain rfl := Option.some.inj H
                      (first | have hcv32 := own_string (P := Try.prog) Try.underlying27 Try.underlying5 Try.underlying9 (Kd.own_of_R HO_7.out) | have hcv32 := Hand.V_string (P := Try.prog) Try.underlying27 Try.underlying5 Try.underlying9 HO_7.out)
                      have hcv33 := Kd.C_string (P := Try.prog) (A := A0) (c := c0) Try.underlying27 Try.underlying5 Try.underlying9 (Kd.C_below HR661.out HB.out); have hcv33l := hcv33; (try (rw [show (l0.take ((ji3) : Int).toNat).length = (ji3).toNat from (by rw [List.length_take]; have h_ : ((ji3) : Int) ≤ (l0.length : Int) := (by first | exact of_decide_eq_true (by first | (with_reducible assumption) | assumption) | (simp only [← hji3]; unfold mn; split <;> omega)); omega)] at hcv33l)); have hcv33l := hcv33; (try (rw [show (l0.take ((ji3) : Int).toNat).length = (ji3).toNat from (by rw [List.length_take]; have h_ : ((ji3) : Int) ≤ (l0.length : Int) := (by first | exact of_decide_eq_true (by first | (with_reducible assumption) | assumption) | (simp only [← hji3]; unfold mn; split <;> omega)); omega)] at hcv33l))
                      go_wp2
                      repeat (go_quiet (fail); try go_wp2)
                      go_ret
                      exact ⟨by first | rfl | (simp [errW_none, errW_some] <;> rfl) | (simp only [← hji3]; first | rfl | (simp [errW_none, errW_some] <;> rfl)) | (simp [*, errW_none, errW_some] <;> rfl), by repeat (first | (with_reducible first | exact HB.out | apply below_alloc | apply pw_below_drewN | apply below_drew1) | exact HB.out)⟩
                  · rw [if_neg c28] at H
                    have c28b0 : ((strOfNums t666).toList == (strOfNums (l0.take ((ji3) : Int).toNat)).toList) = false := beq_eq_false_iff_ne.mpr c28
                    have c28b1 : ((strOfNums t666).toList != (strOfNums (l0.take ((ji3) : Int).toNat)).toList) = true := bne_iff_ne.mpr c28
                    obtain rfl := Option.some.inj H
                    (first | have hcv34 := own_string (P := Try.prog) Try.underlying27 Try.underlying5 Try.underlying9 (Kd.own_of_R HO_7.out) | have hcv34 := Hand.V_string (P := Try.prog) Try.underlying27 Try.underlying5 Try.underlying9 HO_7.out)
                    have hcv35 := Kd.C_string (P := Try.prog) (A := A0) (c := c0) Try.underlying27 Try.underlying5 Try.underlying9 (Kd.C_below HR661.out HB.out); have hcv35l := hcv35; (try (rw [show (l0.take ((ji3) : Int).toNat).length = (ji3).toNat from (by rw [List.length_take]; have h_ : ((ji3) : Int) ≤ (l0.length : Int) := (by first | exact of_decide_eq_true (by first | (with_reducible assumption) | assumption) | (simp only [← hji3]; unfold mn; split <;> omega)); omega)] at hcv35l)); have hcv35l := hcv35; (try (rw [show (l0.take ((ji3) : Int).toNat).length = (ji3).toNat from (by rw [List.length_take]; have h_ : ((ji3) : Int) ≤ (l0.length : Int) := (by first | exact of_decide_eq_true (by first | (with_reducible assumption) | assumption) | (simp only [← hji3]; unfold mn; split <;> omega)); omega)] at hcv35l))
                    go_wp2
                    repeat (go_quiet (fail); try go_wp2)
                    go_ret
                    exact ⟨by first | rfl | (simp [errW_none, errW_some] <;> rfl) | (simp only [← hji3]; first | rfl | (simp [errW_none, errW_some] <;> rfl)) | (simp [*, errW_none, errW_some] <;> rfl), by repeat (first | (with_reducible first | exact HB.out | apply below_alloc | apply pw_below_drewN | apply below_drew1) | exact HB.out)⟩
                · rw [if_neg c27] at H
                  have c27b0 : (t669 == 0) = false := beq_eq_false_iff_ne.mpr c27
                  have c27b1 : (t669 != 0) = true := bne_iff_ne.mpr c27
                  obtain rfl := Option.some.inj H
                  go_wp2
                  repeat (go_quiet (fail); try go_wp2)
                  go_ret
                  exact ⟨by first | rfl | (simp [errW_none, errW_some] <;> rfl) | (simp only [← hji3]; first | rfl | (simp [errW_none, errW_some] <;> rfl)) | (simp [*, errW_none, errW_some] <;> rfl), by repeat (first | (with_reducible first | exact HB.out | apply below_alloc | apply pw_below_drewN | apply below_drew1) | exact HB.out)⟩
              · replace c26 := Bool.eq_false_iff.mpr c26
                subst c26
                have H1 : (some false) = some r := by rw [if_neg (show ¬ (false = true) by decide)] at H; exact H
                clear H
                have H := H1
                clear H1
                obtain rfl := Option.some.inj H
                go_wp2
                repeat (go_quiet (fail); try go_wp2)
                go_ret
                exact ⟨by first | rfl | (simp [errW_none, errW_some] <;> rfl) | (simp only [← hji3]; first | rfl | (simp [errW_none, errW_some] <;> rfl)) | (simp [*, errW_none, errW_some] <;> rfl), by repeat (first | (with_reducible first | exact HB.out | apply below_alloc | apply pw_below_drewN | apply below_drew1) | exact HB.out)⟩
      · rw [if_neg c7] at H
        have c7b0 : (t665 == 0) = false := beq_eq_false_iff_ne.mpr c7
        have c7b1 : (t665 != 0) = true := bne_iff_ne.mpr c7
        by_cases c36 : t660 = true
        · subst c36
          have H1 : (some ((t662.length : Int) == 0)) = some r := by rw [if_pos rfl] at H; exact H
          clear H
          have H := H1
          clear H1
          obtain rfl := Option.some.inj H
          go_enter Try.func13, Try.ntmps13
          go_wp2_with (first | (go_at_call 25; (with_reducible refine (creellaw15_shown.calls k  true _ A2.out).mono ?_); rintro e w37 ⟨rfl, hb⟩; have n0_ := Aside0.mk (below_step (by repeat (first | (with_reducible first | exact HB.out | apply below_alloc | apply pw_below_drewN | apply below_drew1) | exact HB.out)) hb); clear HB; have HB := n0_; clear n0_; (try clear hb); (try clear hb2); (try clear hk); (try clear hi); obtain ⟨i038, hi038, _, hsz38, _⟩ := info_parts info5; obtain ⟨hcut38, hA38, hC38⟩ := print_take_of (P := Try.prog) (Value.int .u8) 0 27 5 .i64 Try.underlying27 hi038 hsz38 A0 c0 l0 (ji3) (of_decide_eq_true (by first | (with_reducible assumption) | assumption)) (of_decide_eq_true (by first | (with_reducible assumption) | assumption)) HC0.out; have HR661 := Aside0.mk (Kd.C_of_reads (h1 := fun _ => rfl) (hA38 _ (Kd.reads_of_C HR0.out))); have HC661 := Aside0.mk hC38; clear hA38 hC38 hi038 hsz38) | (go_at_call 29; have hq_ : (ji3 : Int).toNat = (l0.take ((ji3) : Int).toNat).length := (by rw [List.length_take]; have h_ : ((ji3) : Int) ≤ (l0.length : Int) := (by first | exact of_decide_eq_true (by first | (with_reducible assumption) | assumption) | (simp only [← hji3]; unfold mn; split <;> omega)); omega); refine Eq.mpr (congrArg (fun n_ : Nat => Calls Try.prog 29 #[.slice A0 n_ c0] _ _) hq_) ?_; clear hq_; (with_reducible refine (words_Take.calls k _ _ (l0.take ((ji3) : Int).toNat) t662 t665 _ ?side1 ?side2 A6.out).mono ?_); (case side1 => repeat (first | exact (Kd.C_below HR661.out HB.out) | (with_reducible refine Kd.C_alloc ?_ _) | (with_reducible refine Kd.C_drewN ?_ _) | (with_reducible refine Kd.C_drew ?_))); (case side2 => exact HC661.out); rintro e w39 ⟨v663, rfl, ho0, hb⟩; have n0_ := Aside0.mk (Kd.N_lower (Kd.N_mono (ok' := fun k_ => True) ho0 (fun k_ hk_ => trivial)) (below_size (by repeat (first | (with_reducible first | exact HB.out | apply below_alloc | apply pw_below_drewN | apply below_drew1) | exact HB.out)))); have n1_ := Aside0.mk (below_step (by repeat (first | (with_reducible first | exact HB.out | apply below_alloc | apply pw_below_drewN | apply below_drew1) | exact HB.out)) hb); clear HB; have HO664 := n0_; have HB := n1_; clear n0_ n1_; (try clear hb); (try clear hb2); (try clear hk); (try clear hi); (try clear ho0); obtain ⟨Ao40, co40, eo40⟩ := Kd.N_slice HO664.out; subst eo40))
          repeat (go_quiet (first | (go_at_call 25; (with_reducible refine (creellaw15_shown.calls k  true _ A2.out).mono ?_); rintro e w37 ⟨rfl, hb⟩; have n0_ := Aside0.mk (below_step (by repeat (first | (with_reducible first | exact HB.out | apply below_alloc | apply pw_below_drewN | apply below_drew1) | exact HB.out)) hb); clear HB; have HB := n0_; clear n0_; (try clear hb); (try clear hb2); (try clear hk); (try clear hi); obtain ⟨i038, hi038, _, hsz38, _⟩ := info_parts info5; obtain ⟨hcut38, hA38, hC38⟩ := print_take_of (P := Try.prog) (Value.int .u8) 0 27 5 .i64 Try.underlying27 hi038 hsz38 A0 c0 l0 (ji3) (of_decide_eq_true (by first | (with_reducible assumption) | assumption)) (of_decide_eq_true (by first | (with_reducible assumption) | assumption)) HC0.out; have HR661 := Aside0.mk (Kd.C_of_reads (h1 := fun _ => rfl) (hA38 _ (Kd.reads_of_C HR0.out))); have HC661 := Aside0.mk hC38; clear hA38 hC38 hi038 hsz38) | (go_at_call 29; have hq_ : (ji3 : Int).toNat = (l0.take ((ji3) : Int).toNat).length := (by rw [List.length_take]; have h_ : ((ji3) : Int) ≤ (l0.length : Int) := (by first | exact of_decide_eq_true (by first | (with_reducible assumption) | assumption) | (simp only [← hji3]; unfold mn; split <;> omega)); omega); refine Eq.mpr (congrArg (fun n_ : Nat => Calls Try.prog 29 #[.slice A0 n_ c0] _ _) hq_) ?_; clear hq_; (with_reducible refine (words_Take.calls k _ _ (l0.take ((ji3) : Int).toNat) t662 t665 _ ?side1 ?side2 A6.out).mono ?_); (case side1 => repeat (first | exact (Kd.C_below HR661.out HB.out) | (with_reducible refine Kd.C_alloc ?_ _) | (with_reducible refine Kd.C_drewN ?_ _) | (with_reducible refine Kd.C_drew ?_))); (case side2 => exact HC661.out); rintro e w39 ⟨v663, rfl, ho0, hb⟩; have n0_ := Aside0.mk (Kd.N_lower (Kd.N_mono (ok' := fun k_ => True) ho0 (fun k_ hk_ => trivial)) (below_size (by repeat (first | (with_reducible first | exact HB.out | apply below_alloc | apply pw_below_drewN | apply below_drew1) | exact HB.out)))); have n1_ := Aside0.mk (below_step (by repeat (first | (with_reducible first | exact HB.out | apply below_alloc | apply pw_below_drewN | apply below_drew1) | exact HB.out)) hb); clear HB; have HO664 := n0_; have HB := n1_; clear n0_ n1_; (try clear hb); (try clear hb2); (try clear hk); (try clear hi); (try clear ho0); obtain ⟨Ao40, co40, eo40⟩ := Kd.N_slice HO664.out; subst eo40)); try go_wp2_with (first | (go_at_call 25; (with_reducible refine (creellaw15_shown.calls k  true _ A2.out).mono ?_); rintro e w37 ⟨rfl, hb⟩; have n0_ := Aside0.mk (below_step (by repeat (first | (with_reducible first | exact HB.out | apply below_alloc | apply pw_below_drewN | apply below_drew1) | exact HB.out)) hb); clear HB; have HB := n0_; clear n0_; (try clear hb); (try clear hb2); (try clear hk); (try clear hi); obtain ⟨i038, hi038, _, hsz38, _⟩ := info_parts info5; obtain ⟨hcut38, hA38, hC38⟩ := print_take_of (P := Try.prog) (Value.int .u8) 0 27 5 .i64 Try.underlying27 hi038 hsz38 A0 c0 l0 (ji3) (of_decide_eq_true (by first | (with_reducible assumption) | assumption)) (of_decide_eq_true (by first | (with_reducible assumption) | assumption)) HC0.out; have HR661 := Aside0.mk (Kd.C_of_reads (h1 := fun _ => rfl) (hA38 _ (Kd.reads_of_C HR0.out))); have HC661 := Aside0.mk hC38; clear hA38 hC38 hi038 hsz38) | (go_at_call 29; have hq_ : (ji3 : Int).toNat = (l0.take ((ji3) : Int).toNat).length := (by rw [List.length_take]; have h_ : ((ji3) : Int) ≤ (l0.length : Int) := (by first | exact of_decide_eq_true (by first | (with_reducible assumption) | assumption) | (simp only [← hji3]; unfold mn; split <;> omega)); omega); refine Eq.mpr (congrArg (fun n_ : Nat => Calls Try.prog 29 #[.slice A0 n_ c0] _ _) hq_) ?_; clear hq_; (with_reducible refine (words_Take.calls k _ _ (l0.take ((ji3) : Int).toNat) t662 t665 _ ?side1 ?side2 A6.out).mono ?_); (case side1 => repeat (first | exact (Kd.C_below HR661.out HB.out) | (with_reducible refine Kd.C_alloc ?_ _) | (with_reducible refine Kd.C_drewN ?_ _) | (with_reducible refine Kd.C_drew ?_))); (case side2 => exact HC661.out); rintro e w39 ⟨v663, rfl, ho0, hb⟩; have n0_ := Aside0.mk (Kd.N_lower (Kd.N_mono (ok' := fun k_ => True) ho0 (fun k_ hk_ => trivial)) (below_size (by repeat (first | (with_reducible first | exact HB.out | apply below_alloc | apply pw_below_drewN | apply below_drew1) | exact HB.out)))); have n1_ := Aside0.mk (below_step (by repeat (first | (with_reducible first | exact HB.out | apply below_alloc | apply pw_below_drewN | apply below_drew1) | exact HB.out)) hb); clear HB; have HO664 := n0_; have HB := n1_; clear n0_ n1_; (try clear hb); (try clear hb2); (try clear hk); (try clear hi); (try clear ho0); obtain ⟨Ao40, co40, eo40⟩ := Kd.N_slice HO664.out; subst eo40)))
          go_ret
          exact ⟨by first | rfl | (simp [errW_none, errW_some] <;> rfl) | (simp only [← hji3]; first | rfl | (simp [errW_none, errW_some] <;> rfl)) | (simp [*, errW_none, errW_some] <;> rfl), by repeat (first | (with_reducible first | exact HB.out | apply below_alloc | apply pw_below_drewN | apply below_drew1) | exact HB.out)⟩
        · replace c36 := Bool.eq_false_iff.mpr c36
          subst c36
          have H1 : (some false) = some r := by rw [if_neg (show ¬ (false = true) by decide)] at H; exact H
          clear H
          have H := H1
          clear H1
          obtain rfl := Option.some.inj H
          go_enter Try.func13, Try.ntmps13
          go_wp2_with (first | (go_at_call 25; (with_reducible refine (creellaw15_shown.calls k  false _ A2.out).mono ?_); rintro e w41 ⟨rfl, hb⟩; have n0_ := Aside0.mk (below_step (by repeat (first | (with_reducible first | exact HB.out | apply below_alloc | apply pw_below_drewN | apply below_drew1) | exact HB.out)) hb); clear HB; have HB := n0_; clear n0_; (try clear hb); (try clear hb2); (try clear hk); (try clear hi); obtain ⟨i042, hi042, _, hsz42, _⟩ := info_parts info5; obtain ⟨hcut42, hA42, hC42⟩ := print_take_of (P := Try.prog) (Value.int .u8) 0 27 5 .i64 Try.underlying27 hi042 hsz42 A0 c0 l0 (ji3) (of_decide_eq_true (by first | (with_reducible assumption) | assumption)) (of_decide_eq_true (by first | (with_reducible assumption) | assumption)) HC0.out; have HR661 := Aside0.mk (Kd.C_of_reads (h1 := fun _ => rfl) (hA42 _ (Kd.reads_of_C HR0.out))); have HC661 := Aside0.mk hC42; clear hA42 hC42 hi042 hsz42) | (go_at_call 29; have hq_ : (ji3 : Int).toNat = (l0.take ((ji3) : Int).toNat).length := (by rw [List.length_take]; have h_ : ((ji3) : Int) ≤ (l0.length : Int) := (by first | exact of_decide_eq_true (by first | (with_reducible assumption) | assumption) | (simp only [← hji3]; unfold mn; split <;> omega)); omega); refine Eq.mpr (congrArg (fun n_ : Nat => Calls Try.prog 29 #[.slice A0 n_ c0] _ _) hq_) ?_; clear hq_; (with_reducible refine (words_Take.calls k _ _ (l0.take ((ji3) : Int).toNat) t662 t665 _ ?side1 ?side2 A6.out).mono ?_); (case side1 => repeat (first | exact (Kd.C_below HR661.out HB.out) | (with_reducible refine Kd.C_alloc ?_ _) | (with_reducible refine Kd.C_drewN ?_ _) | (with_reducible refine Kd.C_drew ?_))); (case side2 => exact HC661.out); rintro e w43 ⟨v663, rfl, ho0, hb⟩; have n0_ := Aside0.mk (Kd.N_lower (Kd.N_mono (ok' := fun k_ => True) ho0 (fun k_ hk_ => trivial)) (below_size (by repeat (first | (with_reducible first | exact HB.out | apply below_alloc | apply pw_below_drewN | apply below_drew1) | exact HB.out)))); have n1_ := Aside0.mk (below_step (by repeat (first | (with_reducible first | exact HB.out | apply below_alloc | apply pw_below_drewN | apply below_drew1) | exact HB.out)) hb); clear HB; have HO664 := n0_; have HB := n1_; clear n0_ n1_; (try clear hb); (try clear hb2); (try clear hk); (try clear hi); (try clear ho0)))
          repeat (go_quiet (first | (go_at_call 25; (with_reducible refine (creellaw15_shown.calls k  false _ A2.out).mono ?_); rintro e w41 ⟨rfl, hb⟩; have n0_ := Aside0.mk (below_step (by repeat (first | (with_reducible first | exact HB.out | apply below_alloc | apply pw_below_drewN | apply below_drew1) | exact HB.out)) hb); clear HB; have HB := n0_; clear n0_; (try clear hb); (try clear hb2); (try clear hk); (try clear hi); obtain ⟨i042, hi042, _, hsz42, _⟩ := info_parts info5; obtain ⟨hcut42, hA42, hC42⟩ := print_take_of (P := Try.prog) (Value.int .u8) 0 27 5 .i64 Try.underlying27 hi042 hsz42 A0 c0 l0 (ji3) (of_decide_eq_true (by first | (with_reducible assumption) | assumption)) (of_decide_eq_true (by first | (with_reducible assumption) | assumption)) HC0.out; have HR661 := Aside0.mk (Kd.C_of_reads (h1 := fun _ => rfl) (hA42 _ (Kd.reads_of_C HR0.out))); have HC661 := Aside0.mk hC42; clear hA42 hC42 hi042 hsz42) | (go_at_call 29; have hq_ : (ji3 : Int).toNat = (l0.take ((ji3) : Int).toNat).length := (by rw [List.length_take]; have h_ : ((ji3) : Int) ≤ (l0.length : Int) := (by first | exact of_decide_eq_true (by first | (with_reducible assumption) | assumption) | (simp only [← hji3]; unfold mn; split <;> omega)); omega); refine Eq.mpr (congrArg (fun n_ : Nat => Calls Try.prog 29 #[.slice A0 n_ c0] _ _) hq_) ?_; clear hq_; (with_reducible refine (words_Take.calls k _ _ (l0.take ((ji3) : Int).toNat) t662 t665 _ ?side1 ?side2 A6.out).mono ?_); (case side1 => repeat (first | exact (Kd.C_below HR661.out HB.out) | (with_reducible refine Kd.C_alloc ?_ _) | (with_reducible refine Kd.C_drewN ?_ _) | (with_reducible refine Kd.C_drew ?_))); (case side2 => exact HC661.out); rintro e w43 ⟨v663, rfl, ho0, hb⟩; have n0_ := Aside0.mk (Kd.N_lower (Kd.N_mono (ok' := fun k_ => True) ho0 (fun k_ hk_ => trivial)) (below_size (by repeat (first | (with_reducible first | exact HB.out | apply below_alloc | apply pw_below_drewN | apply below_drew1) | exact HB.out)))); have n1_ := Aside0.mk (below_step (by repeat (first | (with_reducible first | exact HB.out | apply below_alloc | apply pw_below_drewN | apply below_drew1) | exact HB.out)) hb); clear HB; have HO664 := n0_; have HB := n1_; clear n0_ n1_; (try clear hb); (try clear hb2); (try clear hk); (try clear hi); (try clear ho0))); try go_wp2_with (first | (go_at_call 25; (with_reducible refine (creellaw15_shown.calls k  false _ A2.out).mono ?_); rintro e w41 ⟨rfl, hb⟩; have n0_ := Aside0.mk (below_step (by repeat (first | (with_reducible first | exact HB.out | apply below_alloc | apply pw_below_drewN | apply below_drew1) | exact HB.out)) hb); clear HB; have HB := n0_; clear n0_; (try clear hb); (try clear hb2); (try clear hk); (try clear hi); obtain ⟨i042, hi042, _, hsz42, _⟩ := info_parts info5; obtain ⟨hcut42, hA42, hC42⟩ := print_take_of (P := Try.prog) (Value.int .u8) 0 27 5 .i64 Try.underlying27 hi042 hsz42 A0 c0 l0 (ji3) (of_decide_eq_true (by first | (with_reducible assumption) | assumption)) (of_decide_eq_true (by first | (with_reducible assumption) | assumption)) HC0.out; have HR661 := Aside0.mk (Kd.C_of_reads (h1 := fun _ => rfl) (hA42 _ (Kd.reads_of_C HR0.out))); have HC661 := Aside0.mk hC42; clear hA42 hC42 hi042 hsz42) | (go_at_call 29; have hq_ : (ji3 : Int).toNat = (l0.take ((ji3) : Int).toNat).length := (by rw [List.length_take]; have h_ : ((ji3) : Int) ≤ (l0.length : Int) := (by first | exact of_decide_eq_true (by first | (with_reducible assumption) | assumption) | (simp only [← hji3]; unfold mn; split <;> omega)); omega); refine Eq.mpr (congrArg (fun n_ : Nat => Calls Try.prog 29 #[.slice A0 n_ c0] _ _) hq_) ?_; clear hq_; (with_reducible refine (words_Take.calls k _ _ (l0.take ((ji3) : Int).toNat) t662 t665 _ ?side1 ?side2 A6.out).mono ?_); (case side1 => repeat (first | exact (Kd.C_below HR661.out HB.out) | (with_reducible refine Kd.C_alloc ?_ _) | (with_reducible refine Kd.C_drewN ?_ _) | (with_reducible refine Kd.C_drew ?_))); (case side2 => exact HC661.out); rintro e w43 ⟨v663, rfl, ho0, hb⟩; have n0_ := Aside0.mk (Kd.N_lower (Kd.N_mono (ok' := fun k_ => True) ho0 (fun k_ hk_ => trivial)) (below_size (by repeat (first | (with_reducible first | exact HB.out | apply below_alloc | apply pw_below_drewN | apply below_drew1) | exact HB.out)))); have n1_ := Aside0.mk (below_step (by repeat (first | (with_reducible first | exact HB.out | apply below_alloc | apply pw_below_drewN | apply below_drew1) | exact HB.out)) hb); clear HB; have HO664 := n0_; have HB := n1_; clear n0_ n1_; (try clear hb); (try clear hb2); (try clear hk); (try clear hi); (try clear ho0))))
          go_ret
          exact ⟨by first | rfl | (simp [errW_none, errW_some] <;> rfl) | (simp only [← hji3]; first | rfl | (simp [errW_none, errW_some] <;> rfl)) | (simp [*, errW_none, errW_some] <;> rfl), by repeat (first | (with_reducible first | exact HB.out | apply below_alloc | apply pw_below_drewN | apply below_drew1) | exact HB.out)⟩
    · rw [if_neg c5] at H
      exact absurd H (by simp)
  · rw [if_neg c4] at H
    exact absurd H (by simp)

/-- THE ONE PURE STATEMENT of creellaw15_WordsOnce: yours. -/
def creellaw15_WordsOnce.Pure : Prop := ∀ (l0 : List Int), l0.length ≤ maxLen → l0.length * 1 ≤ 140737488351232 → (∀ x ∈ l0, (Lit.int .u8 x).wf = true) → ∃ k, creellaw15_WordsOnce.f k l0 = some true
theorem creellaw15_WordsOnce.walk (P : creellaw15_WordsOnce.Pure) (a0 : Option Addr) (len0 cap0 : Nat) (z0 : List Int) (w : World) (w0 : (a0 = none ∧ len0 = 0 ∧ cap0 = 0 ∧ z0 = []) ∨ ∃ x, a0 = some x ∧ len0 ≤ cap0 ∧ cap0 ≤ maxLen ∧ z0.length = cap0 ∧ (∀ i, i < z0.length → w.cell? (x.add i) = some (.int .u8 (z0.getD i 0))) ∧ ∀ n ∈ z0, (Lit.int .u8 n).wf = true) (y0 : len0 * 1 ≤ 140737488351232) :
    Calls Try.prog 13 #[.slice a0 len0 cap0] w fun e w' => e = .returned (.bool true) ∧ Below w.heap.size w w' := by
  obtain ⟨l0, rfl, hr0, hm0, hw0, hc0⟩ := ReadsInt.ofRowC w0
  obtain ⟨k, h⟩ := P l0 hm0 y0 hw0
  refine (creellaw15_WordsOnce.calls k _ _ l0 true w (Kd.C_of_reads (d := (0 : Int)) (h1 := fun _ => rfl) hr0) hc0 h).mono ?_
  rintro e w' ⟨rfl, hd⟩
  exact ⟨rfl, hd⟩

end Go.Proofs.Ytgpacbklpmloaaa.Print
