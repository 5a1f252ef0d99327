/- Words of the print, of which only those stand here that this claim names. -/
-- Written by a program of this session (wip/cprint.py), which calls the kit's print and adds contracts proved by hand.
import Derived.Test.YtaiechbdcddalaaPrint0
import Derived.Test.YtaiechbdcddalaaPrint1
import Derived.Test.YtaiechbdcddalaaPrint3
import Derived.Test.YtaiechbdcddalaaPrint7
import Derived.Test.YtaiechbdcddalaaPrint8
namespace Go.Proofs.Ytaiechbdcddalaa.Print
open Go.RowKit Go.Proofs.YtaiechbdcddalaaW.PrintWords Go.Proofs.YtaiechbdcddalaaW.PrintLast Go.Proofs.YtaiechbdcddalaaW.PrintMore
attribute [local go_sem] max2_int min2_int max_two min_two max_three min_three max_four min_four   -- for this text's walks alone
set_option linter.unusedVariables false
set_option linter.unusedSimpArgs false

/-! ### creellaw16_rise: function 11 -/
/-! ### creelref12_Same: function 21 -/
def creelref12_Same.l0 : Nat → List (List Int) → List (List Int) → Int → Option (Bool)
 | 0, _, _, _ => none
 | k + 1, x0, x1, x5 => if x5 < (x0.length : Int) then (if 0 ≤ x5 then (if x5 < (x1.length : Int) then (if (strOfNums (rd_L1 x0 x5)).toList = (strOfNums (rd_L1 x1 x5)).toList then (creelref12_Same.l0 k x0 x1 (wrap64 (x5 + 1))) else (some false)) else (none)) else (none)) else (some true)
def creelref12_Same.f (k : Nat) (l0 : List (List Int)) (l1 : List (List Int)) : Option (Bool) := if (l0.length : Int) = (l1.length : Int) then (creelref12_Same.l0 k l0 l1 0) else (some false)
set_option maxHeartbeats 8000000 in
set_option maxRecDepth 100000 in
theorem creelref12_Same.calls (k : Nat) (A0 : Option Addr) (c0 : Nat) (l0 : List (List Int)) (A1 : Option Addr) (c1 : Nat) (l1 : List (List Int)) (r : Bool) (w : World) (hr0 : Kd.C (Kd.slice 5 (Kd.int .u8)) w A0 l0.length l0) (hc0 : l0.length ≤ c0) (hr1 : Kd.C (Kd.slice 5 (Kd.int .u8)) w A1 l1.length l1) (hc1 : l1.length ≤ c1) (h : creelref12_Same.f k l0 l1 = some r) :
  Calls Try.prog 21 #[.slice A0 l0.length c0, .slice A1 l1.length c1] w fun e w' => e = .returned (.bool r) ∧ Drawn0 w w' := by
 have HR0 := Aside0.mk hr0
 have HC0 := Aside0.mk hc0
 clear hr0 hc0
 have HR1 := Aside0.mk hr1
 have HC1 := Aside0.mk hc1
 clear hr1 hc1
 have H : (if (l0.length : Int) = (l1.length : Int) then (creelref12_Same.l0 k l0 l1 0) else (some false)) = some r := h
 clear h
 by_cases c3 : (l0.length : Int) = (l1.length : Int)
 ·rw [if_pos c3] at H
  have c3b0 : ((l0.length : Int) == (l1.length : Int)) = true := beq_iff_eq.mpr c3
  have c3b1 : ((l0.length : Int) != (l1.length : Int)) = false := bne_eq_false_iff_eq.mpr c3
  have c3b2 : (l0.length == l1.length) = true := by first | simpa using c3 | (simp at c3 ⊢; omega)
  clear c3
  have H' := Aside0.mk H
  clear H
  go_enter Try.func21, Try.ntmps21
  go_wp2
  repeat (go_quiet (fail); try go_wp2)
  go_loopg [5] k (fun kq v5 w' => ∃ (x5_1 : Int), v5 = .int .i64 x5_1 ∧ Aside0 (creelref12_Same.l0 kq l0 l1 x5_1 = some r) ∧ Aside0 (kq ≤ k) ∧ Drawn0 w w')
  case atStart => exact ⟨(0), (by first | rfl | (simp; done) | (simp [*]; done)), H', ⟨Nat.le_refl _⟩, by repeat (first | exact Drawn0.refl _ | apply Drawn0.step)⟩
  case round =>
   clear H'
   try clear c1
   try clear c2
   try clear p2
   try clear c3
   try clear c3b0
   try clear c3b1
   try clear c3b2
   obtain ⟨x5_1, rfl, HA, HK1, ⟨m1, rfl⟩⟩ := hrel
   cases gk with
   | zero => exact absurd HA.out (by simp [creelref12_Same.l0])
   | succ k1 =>
    have H := HA.out
    clear HA
    simp only [creelref12_Same.l0] at H
    by_cases c4 : x5_1 < (l0.length : Int)
    ·rw [if_pos c4] at H
     have c4b0 : decide (x5_1 < (l0.length : Int)) = true := decide_eq_true c4
     clear c4
     by_cases c5 : 0 ≤ x5_1
     ·rw [if_pos c5] at H
      have c5b0 : decide (0 ≤ x5_1) = true := decide_eq_true c5
      clear c5
      by_cases c6 : x5_1 < (l1.length : Int)
      ·rw [if_pos c6] at H
       have c6b0 : decide (x5_1 < (l1.length : Int)) = true := decide_eq_true c6
       clear c6
       by_cases c7 : (strOfNums (rd_L1 l0 x5_1)).toList = (strOfNums (rd_L1 l1 x5_1)).toList
       ·rw [if_pos c7] at H
        have c7b0 : ((strOfNums (rd_L1 l0 x5_1)).toList == (strOfNums (rd_L1 l1 x5_1)).toList) = true := beq_iff_eq.mpr c7
        have c7b1 : ((strOfNums (rd_L1 l0 x5_1)).toList != (strOfNums (rd_L1 l1 x5_1)).toList) = false := bne_eq_false_iff_eq.mpr c7
        clear c7
        have H' := Aside0.mk H
        clear H
        have p288 : 0 ≤ (x5_1 : Int) := of_decide_eq_true (by first | (with_reducible assumption) | assumption)
        have q288 : x5_1 < (l0.length : Int) := of_decide_eq_true (by first | (with_reducible assumption) | assumption)
        obtain ⟨ad288, A288_0, c288_0, e288, hx288_0, hl288_0, hi288_0⟩ := at_L1 HR0.out x5_1 p288 q288
        cases e288
        have HR288_0 := Aside0.mk hi288_0
        have HC288_0 := Aside0.mk hl288_0
        clear hi288_0 hl288_0
        replace p288 := eq_true p288
        replace q288 := eq_true q288
        have hcv8 := Kd.C_string (P := Try.prog) (A := A288_0) (c := c288_0) Try.underlying26 Try.underlying5 Try.underlying9 HR288_0.out
        have hcv8d := fun n_ : Nat => Kd.C_string (P := Try.prog) (A := A288_0) (c := c288_0) Try.underlying26 Try.underlying5 Try.underlying9 (Kd.C_drewN HR288_0.out n_)
        have hcv8e := fun n_ m_ : Nat => Kd.C_string (P := Try.prog) (A := A288_0) (c := c288_0) Try.underlying26 Try.underlying5 Try.underlying9 (Kd.C_drewN (Kd.C_drewN HR288_0.out n_) m_)
        have p289 : 0 ≤ (x5_1 : Int) := of_decide_eq_true (by first | (with_reducible assumption) | assumption)
        have q289 : x5_1 < (l1.length : Int) := of_decide_eq_true (by first | (with_reducible assumption) | assumption)
        obtain ⟨ad289, A289_0, c289_0, e289, hx289_0, hl289_0, hi289_0⟩ := at_L1 HR1.out x5_1 p289 q289
        cases e289
        have HR289_0 := Aside0.mk hi289_0
        have HC289_0 := Aside0.mk hl289_0
        clear hi289_0 hl289_0
        replace p289 := eq_true p289
        replace q289 := eq_true q289
        have hcv9 := Kd.C_string (P := Try.prog) (A := A289_0) (c := c289_0) Try.underlying26 Try.underlying5 Try.underlying9 HR289_0.out
        have hcv9d := fun n_ : Nat => Kd.C_string (P := Try.prog) (A := A289_0) (c := c289_0) Try.underlying26 Try.underlying5 Try.underlying9 (Kd.C_drewN HR289_0.out n_)
        have hcv9e := fun n_ m_ : Nat => Kd.C_string (P := Try.prog) (A := A289_0) (c := c289_0) Try.underlying26 Try.underlying5 Try.underlying9 (Kd.C_drewN (Kd.C_drewN HR289_0.out n_) m_)
        go_wp2
        repeat (go_quiet (fail); try go_wp2)
        go_roundg k1
        case measure => have := HK1.out; omega
        case rel => exact ⟨(wrap64 (x5_1 + 1)), (by first | rfl | (simp; done) | (simp [*]; done)), H', ⟨by have := HK1.out; omega⟩, by repeat (first | exact Drawn0.refl _ | apply Drawn0.step)⟩
       ·rw [if_neg c7] at H
        have c7b0 : ((strOfNums (rd_L1 l0 x5_1)).toList == (strOfNums (rd_L1 l1 x5_1)).toList) = false := beq_eq_false_iff_ne.mpr c7
        have c7b1 : ((strOfNums (rd_L1 l0 x5_1)).toList != (strOfNums (rd_L1 l1 x5_1)).toList) = true := bne_iff_ne.mpr c7
        obtain rfl := Option.some.inj H
        have p288 : 0 ≤ (x5_1 : Int) := of_decide_eq_true (by first | (with_reducible assumption) | assumption)
        have q288 : x5_1 < (l0.length : Int) := of_decide_eq_true (by first | (with_reducible assumption) | assumption)
        obtain ⟨ad288, A288_0, c288_0, e288, hx288_0, hl288_0, hi288_0⟩ := at_L1 HR0.out x5_1 p288 q288
        cases e288
        have HR288_0 := Aside0.mk hi288_0
        have HC288_0 := Aside0.mk hl288_0
        clear hi288_0 hl288_0
        replace p288 := eq_true p288
        replace q288 := eq_true q288
        have hcv10 := Kd.C_string (P := Try.prog) (A := A288_0) (c := c288_0) Try.underlying26 Try.underlying5 Try.underlying9 HR288_0.out
        have hcv10d := fun n_ : Nat => Kd.C_string (P := Try.prog) (A := A288_0) (c := c288_0) Try.underlying26 Try.underlying5 Try.underlying9 (Kd.C_drewN HR288_0.out n_)
        have hcv10e := fun n_ m_ : Nat => Kd.C_string (P := Try.prog) (A := A288_0) (c := c288_0) Try.underlying26 Try.underlying5 Try.underlying9 (Kd.C_drewN (Kd.C_drewN HR288_0.out n_) m_)
        have p289 : 0 ≤ (x5_1 : Int) := of_decide_eq_true (by first | (with_reducible assumption) | assumption)
        have q289 : x5_1 < (l1.length : Int) := of_decide_eq_true (by first | (with_reducible assumption) | assumption)
        obtain ⟨ad289, A289_0, c289_0, e289, hx289_0, hl289_0, hi289_0⟩ := at_L1 HR1.out x5_1 p289 q289
        cases e289
        have HR289_0 := Aside0.mk hi289_0
        have HC289_0 := Aside0.mk hl289_0
        clear hi289_0 hl289_0
        replace p289 := eq_true p289
        replace q289 := eq_true q289
        have hcv11 := Kd.C_string (P := Try.prog) (A := A289_0) (c := c289_0) Try.underlying26 Try.underlying5 Try.underlying9 HR289_0.out
        have hcv11d := fun n_ : Nat => Kd.C_string (P := Try.prog) (A := A289_0) (c := c289_0) Try.underlying26 Try.underlying5 Try.underlying9 (Kd.C_drewN HR289_0.out n_)
        have hcv11e := fun n_ m_ : Nat => Kd.C_string (P := Try.prog) (A := A289_0) (c := c289_0) Try.underlying26 Try.underlying5 Try.underlying9 (Kd.C_drewN (Kd.C_drewN HR289_0.out n_) m_)
        go_wp2
        repeat (go_quiet (fail); try go_wp2)
        go_ret
        exact ⟨by first | rfl | (simp; done) | (simp [*]; done), by repeat (first | exact Drawn0.refl _ | apply Drawn0.step)⟩
      ·rw [if_neg c6] at H
       exact absurd H (by simp)
     ·rw [if_neg c5] at H
      exact absurd H (by simp)
    ·rw [if_neg c4] at H
     have c4b0 : decide (x5_1 < (l0.length : Int)) = false := decide_eq_false c4
     clear c4
     obtain rfl := Option.some.inj H
     go_wp2
     repeat (go_quiet (fail); try go_wp2)
     go_ret
     exact ⟨by first | rfl | (simp; done) | (simp [*]; done), by repeat (first | exact Drawn0.refl _ | apply Drawn0.step)⟩
 ·rw [if_neg c3] at H
  have c3b0 : ((l0.length : Int) == (l1.length : Int)) = false := beq_eq_false_iff_ne.mpr c3
  have c3b1 : ((l0.length : Int) != (l1.length : Int)) = true := bne_iff_ne.mpr c3
  have c3b2 : (l0.length == l1.length) = false := by first | simpa using c3 | (simp at c3 ⊢; omega)
  obtain rfl := Option.some.inj H
  go_enter Try.func21, Try.ntmps21
  go_wp2
  repeat (go_quiet (fail); try go_wp2)
  go_ret
  exact ⟨by first | rfl | (simp; done) | (simp [*]; done), by repeat (first | exact Drawn0.refl _ | apply Drawn0.step)⟩

/-! ### creellaw16_DictBack: function 5 -/
/-! ### creellaw16_DictCut: function 6 -/
/-! ### creellaw16_DictOrder: function 8 -/
end Go.Proofs.Ytaiechbdcddalaa.Print
