-- Written by a program of this session (wip/cprint.py), which calls the kit's print and adds contracts proved by hand.
import Derived.Test.YtgpacbklpmloaaaPrint0
namespace Go.Proofs.Ytgpacbklpmloaaa.Print
open Go.RowKit Go.Proofs.YtgpacbklpmloaaaW.PrintWords Go.Proofs.YtgpacbklpmloaaaW.PrintLast Go.Proofs.YtgpacbklpmloaaaW.PrintMore
attribute [local go_sem] max2_int min2_int max_two min_two max_three min_three max_four min_four   -- for this text's walks alone
set_option linter.unusedVariables false
set_option linter.unusedSimpArgs false

/-! ### creelref15_right: function 41 -/
def creelref15_right.l0 : Nat → List (List Int) → Int → Option (Bool)
 | 0, _, _ => none
 | k + 1, x0, x3 => if x3 < (x0.length : Int) then (if 0 ≤ x3 then (if ((rd_L3 x0 x3).length : Int) < 1 then (some false) else (if ((rd_L3 x0 x3).length : Int) > 32 then (some false) else (if x3 > 0 then (if 0 ≤ (wrap64 (x3 - 1)) then (if (wrap64 (x3 - 1)) < (x0.length : Int) then (if ((Op.bytesLess ((strOfNums (rd_L3 x0 (wrap64 (x3 - 1)))).toList) ((strOfNums (rd_L3 x0 x3)).toList)) = true) then (creelref15_right.l0 k x0 (wrap64 (x3 + 1))) else (some false)) else (none)) else (none)) else (creelref15_right.l0 k x0 (wrap64 (x3 + 1)))))) else (none)) else (if (x0.length : Int) ≥ 1 then (some (decide ((x0.length : Int) ≤ 16))) else (some false))
def creelref15_right.f (k : Nat) (l0 : List (List Int)) : Option (Bool) := creelref15_right.l0 k l0 0
theorem creelref15_right.mono_l : ∀ k, (∀ y0 y1, LeO (creelref15_right.l0 k y0 y1) (creelref15_right.l0 (k + 1) y0 y1))
 | 0 => fun _ _ r h => by simp [creelref15_right.l0] at h
 | k + 1 => by
  have ih0 := creelref15_right.mono_l k
  ·intro y0 y1
   unfold creelref15_right.l0
   repeat' first
   | (with_reducible exact ih0 _ _)
   | (with_reducible exact LeO.refl _)
   | (with_reducible exact LeO.none _)
   | (with_reducible refine LeO.ite ?_ ?_)
   | (with_reducible refine LeO.bind ?_ (fun _ => ?_))
   | exact ih0 _ _
   | exact LeO.none _
   | refine LeO.ite ?_ ?_
   | refine LeO.bind ?_ (fun _ => ?_)
theorem creelref15_right.mono : ∀ a0 k, LeO (creelref15_right.f k a0) (creelref15_right.f (k + 1) a0) := by
 intro a0 k
 have ih0 := creelref15_right.mono_l k
 unfold creelref15_right.f
 repeat' first
   | (with_reducible exact ih0 _ _)
   | (with_reducible exact LeO.refl _)
   | (with_reducible exact LeO.none _)
   | (with_reducible refine LeO.ite ?_ ?_)
   | (with_reducible refine LeO.bind ?_ (fun _ => ?_))
   | exact ih0 _ _
   | exact LeO.none _
   | refine LeO.ite ?_ ?_
   | refine LeO.bind ?_ (fun _ => ?_)
set_option maxHeartbeats 8000000 in
set_option maxRecDepth 100000 in
theorem creelref15_right.calls (k : Nat) (A0 : Option Addr) (c0 : Nat) (l0 : List (List Int)) (r : Bool) (w : World) (hr0 : Kd.C (Kd.slice 5 (Kd.int .u8)) w A0 l0.length l0) (hc0 : l0.length ≤ c0) (h : creelref15_right.f k l0 = some r) :
  Calls Try.prog 41 #[.slice A0 l0.length c0] w fun e w' => e = .returned (.bool r) ∧ Drawn0 w w' := by
 have HR0 := Aside0.mk hr0
 have HC0 := Aside0.mk hc0
 clear hr0 hc0
 have H : (creelref15_right.l0 k l0 0) = some r := h
 clear h
 have H' := Aside0.mk H
 clear H
 go_enter Try.func41, Try.ntmps41
 go_wp2
 repeat (go_quiet (fail); try go_wp2)
 go_loopg [3] k (fun kq v3 w' => ∃ (x3_1 : Int), v3 = .int .i64 x3_1 ∧ Aside0 (creelref15_right.l0 kq l0 x3_1 = some r) ∧ Aside0 (kq ≤ k) ∧ Drawn0 w w')
 case atStart => exact ⟨(0), (by first | rfl | (simp; done) | (simp [*]; done)), H', ⟨Nat.le_refl _⟩, by repeat (first | exact Drawn0.refl _ | apply Drawn0.step)⟩
 case round =>
  clear H'
  obtain ⟨x3_1, rfl, HA, HK1, ⟨m1, rfl⟩⟩ := hrel
  cases gk with
  | zero => exact absurd HA.out (by simp [creelref15_right.l0])
  | succ k1 =>
   have H := HA.out
   clear HA
   simp only [creelref15_right.l0] at H
   by_cases c2 : x3_1 < (l0.length : Int)
   ·rw [if_pos c2] at H
    have c2b0 : decide (x3_1 < (l0.length : Int)) = true := decide_eq_true c2
    clear c2
    by_cases c3 : 0 ≤ x3_1
    ·rw [if_pos c3] at H
     have c3b0 : decide (0 ≤ x3_1) = true := decide_eq_true c3
     clear c3
     by_cases c4 : ((rd_L3 l0 x3_1).length : Int) < 1
     ·rw [if_pos c4] at H
      have c4b0 : decide (((rd_L3 l0 x3_1).length : Int) < 1) = true := decide_eq_true c4
      have c4b1 : decide ((rd_L3 l0 x3_1).length < 1) = true := decide_eq_true (by omega)
      clear c4
      obtain rfl := Option.some.inj H
      have p424 : 0 ≤ (x3_1 : Int) := of_decide_eq_true (by first | (with_reducible assumption) | assumption)
      have q424 : x3_1 < (l0.length : Int) := of_decide_eq_true (by first | (with_reducible assumption) | assumption)
      obtain ⟨ad424, A424_0, c424_0, e424, hx424_0, hl424_0, hi424_0⟩ := at_L3 HR0.out x3_1 p424 q424
      cases e424
      have HR424_0 := Aside0.mk hi424_0
      have HC424_0 := Aside0.mk hl424_0
      clear hi424_0 hl424_0
      replace p424 := eq_true p424
      replace q424 := eq_true q424
      go_wp2
      repeat (go_quiet (fail); try go_wp2)
      go_ret
      exact ⟨by first | rfl | (simp; done) | (simp [*]; done), by repeat (first | exact Drawn0.refl _ | apply Drawn0.step)⟩
     ·rw [if_neg c4] at H
      have c4b0 : decide (((rd_L3 l0 x3_1).length : Int) < 1) = false := decide_eq_false c4
      have c4b1 : decide ((rd_L3 l0 x3_1).length < 1) = false := decide_eq_false (by omega)
      clear c4
      by_cases c5 : ((rd_L3 l0 x3_1).length : Int) > 32
      ·rw [if_pos c5] at H
       have c5b0 : decide (32 < ((rd_L3 l0 x3_1).length : Int)) = true := decide_eq_true c5
       have c5b1 : decide (32 < (rd_L3 l0 x3_1).length) = true := decide_eq_true (by omega)
       clear c5
       obtain rfl := Option.some.inj H
       have p424 : 0 ≤ (x3_1 : Int) := of_decide_eq_true (by first | (with_reducible assumption) | assumption)
       have q424 : x3_1 < (l0.length : Int) := of_decide_eq_true (by first | (with_reducible assumption) | assumption)
       obtain ⟨ad424, A424_0, c424_0, e424, hx424_0, hl424_0, hi424_0⟩ := at_L3 HR0.out x3_1 p424 q424
       cases e424
       have HR424_0 := Aside0.mk hi424_0
       have HC424_0 := Aside0.mk hl424_0
       clear hi424_0 hl424_0
       replace p424 := eq_true p424
       replace q424 := eq_true q424
       have p425 : 0 ≤ (x3_1 : Int) := of_decide_eq_true (by first | (with_reducible assumption) | assumption)
       have q425 : x3_1 < (l0.length : Int) := of_decide_eq_true (by first | (with_reducible assumption) | assumption)
       obtain ⟨ad425, A425_0, c425_0, e425, hx425_0, hl425_0, hi425_0⟩ := at_L3 HR0.out x3_1 p425 q425
       obtain rfl : ad424 = ad425 := (by injection e425)
       have HR425_0 := Aside0.mk hi425_0
       have HC425_0 := Aside0.mk hl425_0
       clear hi425_0 hl425_0
       replace p425 := eq_true p425
       replace q425 := eq_true q425
       have ea_ := Option.some.inj (hx424_0.symm.trans hx425_0)
       injection ea_ with ea_ en_ ec_
       subst ea_
       subst ec_
       clear en_
       go_wp2
       repeat (go_quiet (fail); try go_wp2)
       go_ret
       exact ⟨by first | rfl | (simp; done) | (simp [*]; done), by repeat (first | exact Drawn0.refl _ | apply Drawn0.step)⟩
      ·rw [if_neg c5] at H
       have c5b0 : decide (32 < ((rd_L3 l0 x3_1).length : Int)) = false := decide_eq_false c5
       have c5b1 : decide (32 < (rd_L3 l0 x3_1).length) = false := decide_eq_false (by omega)
       clear c5
       by_cases c6 : x3_1 > 0
       ·rw [if_pos c6] at H
        have c6b0 : decide (0 < x3_1) = true := decide_eq_true c6
        clear c6
        obtain ⟨ji7, hji7⟩ : ∃ j_ : Int, (wrap64 (x3_1 - 1)) = j_ := ⟨_, rfl⟩
        replace H : (if 0 ≤ (ji7) then (if (ji7) < (l0.length : Int) then (if ((Op.bytesLess ((strOfNums (rd_L3 l0 (ji7))).toList) ((strOfNums (rd_L3 l0 x3_1)).toList)) = true) then (creelref15_right.l0 k1 l0 (wrap64 (x3_1 + 1))) else (some false)) else (none)) else (none)) = some r := by first | (rw [hji7] at H; exact H) | (simp only [hji7] at H ⊢; exact H)
        have hji7w : (IntKind.i64.wrap (x3_1 - 1)) = ji7 := (i64_w _).trans hji7
        by_cases c8 : 0 ≤ (ji7)
        ·rw [if_pos c8] at H
         have c8b0 : decide (0 ≤ (ji7)) = true := decide_eq_true c8
         clear c8
         by_cases c9 : (ji7) < (l0.length : Int)
         ·rw [if_pos c9] at H
          have c9b0 : decide ((ji7) < (l0.length : Int)) = true := decide_eq_true c9
          clear c9
          by_cases c10 : ((Op.bytesLess ((strOfNums (rd_L3 l0 (ji7))).toList) ((strOfNums (rd_L3 l0 x3_1)).toList)) = true)
          ·rw [if_pos c10] at H
           have c10b0 : (Op.bytesLess ((strOfNums (rd_L3 l0 (ji7))).toList) ((strOfNums (rd_L3 l0 x3_1)).toList)) = true := c10
           clear c10
           have H' := Aside0.mk H
           clear H
           have p424 : 0 ≤ (x3_1 : Int) := of_decide_eq_true (by first | (with_reducible assumption) | assumption)
           have q424 : x3_1 < (l0.length : Int) := of_decide_eq_true (by first | (with_reducible assumption) | assumption)
           obtain ⟨ad424, A424_0, c424_0, e424, hx424_0, hl424_0, hi424_0⟩ := at_L3 HR0.out x3_1 p424 q424
           cases e424
           have HR424_0 := Aside0.mk hi424_0
           have HC424_0 := Aside0.mk hl424_0
           clear hi424_0 hl424_0
           replace p424 := eq_true p424
           replace q424 := eq_true q424
           have p425 : 0 ≤ (x3_1 : Int) := of_decide_eq_true (by first | (with_reducible assumption) | assumption)
           have q425 : x3_1 < (l0.length : Int) := of_decide_eq_true (by first | (with_reducible assumption) | assumption)
           obtain ⟨ad425, A425_0, c425_0, e425, hx425_0, hl425_0, hi425_0⟩ := at_L3 HR0.out x3_1 p425 q425
           obtain rfl : ad424 = ad425 := (by injection e425)
           have HR425_0 := Aside0.mk hi425_0
           have HC425_0 := Aside0.mk hl425_0
           clear hi425_0 hl425_0
           replace p425 := eq_true p425
           replace q425 := eq_true q425
           have ea_ := Option.some.inj (hx424_0.symm.trans hx425_0)
           injection ea_ with ea_ en_ ec_
           subst ea_
           subst ec_
           clear en_
           have p426 : 0 ≤ ((ji7) : Int) := of_decide_eq_true (by first | (with_reducible assumption) | assumption)
           have q426 : (ji7) < (l0.length : Int) := of_decide_eq_true (by first | (with_reducible assumption) | assumption)
           obtain ⟨ad426, A426_0, c426_0, e426, hx426_0, hl426_0, hi426_0⟩ := at_L3 HR0.out (ji7) p426 q426
           obtain rfl : ad424 = ad426 := (by injection e426)
           have HR426_0 := Aside0.mk hi426_0
           have HC426_0 := Aside0.mk hl426_0
           clear hi426_0 hl426_0
           replace p426 := eq_true p426
           replace q426 := eq_true q426
           have hcv11 := Kd.C_string (P := Try.prog) (A := A426_0) (c := c426_0) Try.underlying27 Try.underlying5 Try.underlying9 HR426_0.out
           have hcv11d := fun n_ : Nat => Kd.C_string (P := Try.prog) (A := A426_0) (c := c426_0) Try.underlying27 Try.underlying5 Try.underlying9 (Kd.C_drewN HR426_0.out n_)
           have hcv11e := fun n_ m_ : Nat => Kd.C_string (P := Try.prog) (A := A426_0) (c := c426_0) Try.underlying27 Try.underlying5 Try.underlying9 (Kd.C_drewN (Kd.C_drewN HR426_0.out n_) m_)
           have p427 : 0 ≤ (x3_1 : Int) := of_decide_eq_true (by first | (with_reducible assumption) | assumption)
           have q427 : x3_1 < (l0.length : Int) := of_decide_eq_true (by first | (with_reducible assumption) | assumption)
           obtain ⟨ad427, A427_0, c427_0, e427, hx427_0, hl427_0, hi427_0⟩ := at_L3 HR0.out x3_1 p427 q427
           obtain rfl : ad424 = ad427 := (by injection e427)
           have HR427_0 := Aside0.mk hi427_0
           have HC427_0 := Aside0.mk hl427_0
           clear hi427_0 hl427_0
           replace p427 := eq_true p427
           replace q427 := eq_true q427
           have ea_ := Option.some.inj (hx424_0.symm.trans hx427_0)
           injection ea_ with ea_ en_ ec_
           subst ea_
           subst ec_
           clear en_
           have hcv12 := Kd.C_string (P := Try.prog) (A := A424_0) (c := c424_0) Try.underlying27 Try.underlying5 Try.underlying9 HR427_0.out
           have hcv12d := fun n_ : Nat => Kd.C_string (P := Try.prog) (A := A424_0) (c := c424_0) Try.underlying27 Try.underlying5 Try.underlying9 (Kd.C_drewN HR427_0.out n_)
           have hcv12e := fun n_ m_ : Nat => Kd.C_string (P := Try.prog) (A := A424_0) (c := c424_0) Try.underlying27 Try.underlying5 Try.underlying9 (Kd.C_drewN (Kd.C_drewN HR427_0.out n_) m_)
           go_wp2
           repeat (go_quiet (fail); try go_wp2)
           go_roundg k1
           case measure => have := HK1.out; omega
           case rel => exact ⟨(wrap64 (x3_1 + 1)), (by first | rfl | (simp; done) | (simp [*]; done)), H', ⟨by have := HK1.out; omega⟩, by repeat (first | exact Drawn0.refl _ | apply Drawn0.step)⟩
          ·rw [if_neg c10] at H
           have c10b0 : (Op.bytesLess ((strOfNums (rd_L3 l0 (ji7))).toList) ((strOfNums (rd_L3 l0 x3_1)).toList)) = false := by simpa using c10
           clear c10
           obtain rfl := Option.some.inj H
           have p424 : 0 ≤ (x3_1 : Int) := of_decide_eq_true (by first | (with_reducible assumption) | assumption)
           have q424 : x3_1 < (l0.length : Int) := of_decide_eq_true (by first | (with_reducible assumption) | assumption)
           obtain ⟨ad424, A424_0, c424_0, e424, hx424_0, hl424_0, hi424_0⟩ := at_L3 HR0.out x3_1 p424 q424
           cases e424
           have HR424_0 := Aside0.mk hi424_0
           have HC424_0 := Aside0.mk hl424_0
           clear hi424_0 hl424_0
           replace p424 := eq_true p424
           replace q424 := eq_true q424
           have p425 : 0 ≤ (x3_1 : Int) := of_decide_eq_true (by first | (with_reducible assumption) | assumption)
           have q425 : x3_1 < (l0.length : Int) := of_decide_eq_true (by first | (with_reducible assumption) | assumption)
           obtain ⟨ad425, A425_0, c425_0, e425, hx425_0, hl425_0, hi425_0⟩ := at_L3 HR0.out x3_1 p425 q425
           obtain rfl : ad424 = ad425 := (by injection e425)
           have HR425_0 := Aside0.mk hi425_0
           have HC425_0 := Aside0.mk hl425_0
           clear hi425_0 hl425_0
           replace p425 := eq_true p425
           replace q425 := eq_true q425
           have ea_ := Option.some.inj (hx424_0.symm.trans hx425_0)
           injection ea_ with ea_ en_ ec_
           subst ea_
           subst ec_
           clear en_
           have p426 : 0 ≤ ((ji7) : Int) := of_decide_eq_true (by first | (with_reducible assumption) | assumption)
           have q426 : (ji7) < (l0.length : Int) := of_decide_eq_true (by first | (with_reducible assumption) | assumption)
           obtain ⟨ad426, A426_0, c426_0, e426, hx426_0, hl426_0, hi426_0⟩ := at_L3 HR0.out (ji7) p426 q426
           obtain rfl : ad424 = ad426 := (by injection e426)
           have HR426_0 := Aside0.mk hi426_0
           have HC426_0 := Aside0.mk hl426_0
           clear hi426_0 hl426_0
           replace p426 := eq_true p426
           replace q426 := eq_true q426
           have hcv13 := Kd.C_string (P := Try.prog) (A := A426_0) (c := c426_0) Try.underlying27 Try.underlying5 Try.underlying9 HR426_0.out
           have hcv13d := fun n_ : Nat => Kd.C_string (P := Try.prog) (A := A426_0) (c := c426_0) Try.underlying27 Try.underlying5 Try.underlying9 (Kd.C_drewN HR426_0.out n_)
           have hcv13e := fun n_ m_ : Nat => Kd.C_string (P := Try.prog) (A := A426_0) (c := c426_0) Try.underlying27 Try.underlying5 Try.underlying9 (Kd.C_drewN (Kd.C_drewN HR426_0.out n_) m_)
           have p427 : 0 ≤ (x3_1 : Int) := of_decide_eq_true (by first | (with_reducible assumption) | assumption)
           have q427 : x3_1 < (l0.length : Int) := of_decide_eq_true (by first | (with_reducible assumption) | assumption)
           obtain ⟨ad427, A427_0, c427_0, e427, hx427_0, hl427_0, hi427_0⟩ := at_L3 HR0.out x3_1 p427 q427
           obtain rfl : ad424 = ad427 := (by injection e427)
           have HR427_0 := Aside0.mk hi427_0
           have HC427_0 := Aside0.mk hl427_0
           clear hi427_0 hl427_0
           replace p427 := eq_true p427
           replace q427 := eq_true q427
           have ea_ := Option.some.inj (hx424_0.symm.trans hx427_0)
           injection ea_ with ea_ en_ ec_
           subst ea_
           subst ec_
           clear en_
           have hcv14 := Kd.C_string (P := Try.prog) (A := A424_0) (c := c424_0) Try.underlying27 Try.underlying5 Try.underlying9 HR427_0.out
           have hcv14d := fun n_ : Nat => Kd.C_string (P := Try.prog) (A := A424_0) (c := c424_0) Try.underlying27 Try.underlying5 Try.underlying9 (Kd.C_drewN HR427_0.out n_)
           have hcv14e := fun n_ m_ : Nat => Kd.C_string (P := Try.prog) (A := A424_0) (c := c424_0) Try.underlying27 Try.underlying5 Try.underlying9 (Kd.C_drewN (Kd.C_drewN HR427_0.out n_) m_)
           go_wp2
           repeat (go_quiet (fail); try go_wp2)
           go_ret
           exact ⟨by first | rfl | (simp; done) | (simp only [← hji7] <;> (first | rfl | simp)) | (simp [*]; done), by repeat (first | exact Drawn0.refl _ | apply Drawn0.step)⟩
         ·rw [if_neg c9] at H
          exact absurd H (by simp)
        ·rw [if_neg c8] at H
         exact absurd H (by simp)
       ·rw [if_neg c6] at H
        have c6b0 : decide (0 < x3_1) = false := decide_eq_false c6
        clear c6
        have H' := Aside0.mk H
        clear H
        have p424 : 0 ≤ (x3_1 : Int) := of_decide_eq_true (by first | (with_reducible assumption) | assumption)
        have q424 : x3_1 < (l0.length : Int) := of_decide_eq_true (by first | (with_reducible assumption) | assumption)
        obtain ⟨ad424, A424_0, c424_0, e424, hx424_0, hl424_0, hi424_0⟩ := at_L3 HR0.out x3_1 p424 q424
        cases e424
        have HR424_0 := Aside0.mk hi424_0
        have HC424_0 := Aside0.mk hl424_0
        clear hi424_0 hl424_0
        replace p424 := eq_true p424
        replace q424 := eq_true q424
        have p425 : 0 ≤ (x3_1 : Int) := of_decide_eq_true (by first | (with_reducible assumption) | assumption)
        have q425 : x3_1 < (l0.length : Int) := of_decide_eq_true (by first | (with_reducible assumption) | assumption)
        obtain ⟨ad425, A425_0, c425_0, e425, hx425_0, hl425_0, hi425_0⟩ := at_L3 HR0.out x3_1 p425 q425
        obtain rfl : ad424 = ad425 := (by injection e425)
        have HR425_0 := Aside0.mk hi425_0
        have HC425_0 := Aside0.mk hl425_0
        clear hi425_0 hl425_0
        replace p425 := eq_true p425
        replace q425 := eq_true q425
        have ea_ := Option.some.inj (hx424_0.symm.trans hx425_0)
        injection ea_ with ea_ en_ ec_
        subst ea_
        subst ec_
        clear en_
        go_wp2
        repeat (go_quiet (fail); try go_wp2)
        go_roundg k1
        case measure => have := HK1.out; omega
        case rel => exact ⟨(wrap64 (x3_1 + 1)), (by first | rfl | (simp; done) | (simp [*]; done)), H', ⟨by have := HK1.out; omega⟩, by repeat (first | exact Drawn0.refl _ | apply Drawn0.step)⟩
    ·rw [if_neg c3] at H
     exact absurd H (by simp)
   ·rw [if_neg c2] at H
    have c2b0 : decide (x3_1 < (l0.length : Int)) = false := decide_eq_false c2
    clear c2
    by_cases c15 : (l0.length : Int) ≥ 1
    ·rw [if_pos c15] at H
     have c15b0 : decide (1 ≤ (l0.length : Int)) = true := decide_eq_true c15
     have c15b1 : decide (1 ≤ l0.length) = true := decide_eq_true (by omega)
     clear c15
     obtain rfl := Option.some.inj H
     go_wp2
     repeat (go_quiet (fail); try go_wp2)
     go_ret
     exact ⟨by first | rfl | (simp; done) | (simp [*]; done), by repeat (first | exact Drawn0.refl _ | apply Drawn0.step)⟩
    ·rw [if_neg c15] at H
     have c15b0 : decide (1 ≤ (l0.length : Int)) = false := decide_eq_false c15
     have c15b1 : decide (1 ≤ l0.length) = false := decide_eq_false (by omega)
     clear c15
     obtain rfl := Option.some.inj H
     go_wp2
     repeat (go_quiet (fail); try go_wp2)
     go_ret
     exact ⟨by first | rfl | (simp; done) | (simp [*]; done), by repeat (first | exact Drawn0.refl _ | apply Drawn0.step)⟩

end Go.Proofs.Ytgpacbklpmloaaa.Print
