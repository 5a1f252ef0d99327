-- Written by a program of this session (wip/cprint.py), which calls the kit's print and adds contracts proved by hand.
import Derived.Test.YtnkjbgoibmbmoaaPrint0
import Derived.Test.YtnkjbgoibmbmoaaPrint2
import Derived.Test.YtnkjbgoibmbmoaaPrint4
import Derived.Test.YtnkjbgoibmbmoaaPrint5
namespace Go.Proofs.Ytnkjbgoibmbmoaa.Print
open Go.RowKit Go.Proofs.YtnkjbgoibmbmoaaW.PrintWords Go.Proofs.YtnkjbgoibmbmoaaW.PrintLast Go.Proofs.YtnkjbgoibmbmoaaW.PrintMore
attribute [local go_sem] max2_int min2_int max_two min_two max_three min_three max_four min_four   -- for this text's walks alone
set_option linter.unusedVariables false
set_option linter.unusedSimpArgs false

/-! ### creellaw18_few: function 10 -/
def creellaw18_few.l0 : Nat → List (List Int) → List (List Int) → Int → Int → Option ((List (List Int)))
 | 0, _, _, _, _ => none
 | k + 1, x3, x6, x7, x8 => if x8 < x7 then (if 0 ≤ x8 then (if x8 < (x6.length : Int) then (if x8 < 60 then (if ((rd_L3 x6 x8).length : Int) ≤ 60 then (if x3.length < 5864062014805 then (creellaw18_few.l0 k (x3 ++ [rd_L3 x6 x8]) x6 x7 (wrap64 (x8 + 1))) else (none)) else (creellaw18_few.l0 k x3 x6 x7 (wrap64 (x8 + 1)))) else (creellaw18_few.l0 k x3 x6 x7 (wrap64 (x8 + 1)))) else (none)) else (none)) else (some x3)
def creellaw18_few.f (k : Nat) (l0 : List (List Int)) : Option ((List (List Int))) := creellaw18_few.l0 k ([] : List (List Int)) l0 (l0.length : Int) 0
theorem creellaw18_few.mono_l : ∀ k, (∀ y0 y1 y2 y3, LeO (creellaw18_few.l0 k y0 y1 y2 y3) (creellaw18_few.l0 (k + 1) y0 y1 y2 y3))
 | 0 => fun _ _ _ _ r h => by simp [creellaw18_few.l0] at h
 | k + 1 => by
  have ih0 := creellaw18_few.mono_l k
  ·intro y0 y1 y2 y3
   unfold creellaw18_few.l0
   repeat' first
   | (with_reducible exact ih0 _ _ _ _)
   | (with_reducible exact LeO.refl _)
   | (with_reducible exact LeO.none _)
   | (with_reducible refine LeO.ite ?_ ?_)
   | (with_reducible refine LeO.bind ?_ (fun _ => ?_))
   | exact ih0 _ _ _ _
   | exact LeO.none _
   | refine LeO.ite ?_ ?_
   | refine LeO.bind ?_ (fun _ => ?_)
theorem creellaw18_few.mono : ∀ a0 k, LeO (creellaw18_few.f k a0) (creellaw18_few.f (k + 1) a0) := by
 intro a0 k
 have ih0 := creellaw18_few.mono_l k
 unfold creellaw18_few.f
 repeat' first
   | (with_reducible exact ih0 _ _ _ _)
   | (with_reducible exact LeO.refl _)
   | (with_reducible exact LeO.none _)
   | (with_reducible refine LeO.ite ?_ ?_)
   | (with_reducible refine LeO.bind ?_ (fun _ => ?_))
   | exact ih0 _ _ _ _
   | exact LeO.none _
   | refine LeO.ite ?_ ?_
   | refine LeO.bind ?_ (fun _ => ?_)
set_option maxHeartbeats 8000000 in
set_option maxRecDepth 100000 in
theorem creellaw18_few.calls (k : Nat) (P0_ : Nat → Prop) (A0 : Option Addr) (c0 : Nat) (l0 : List (List Int)) (r : List (List Int)) (w : World) (hs0 : Kd.V (Kd.slice 31 (Kd.int .u32)) 36 w w.heap.size (fun k_ => P0_ k_) (.slice A0 l0.length c0) l0) (h : creellaw18_few.f k l0 = some r) :
  Calls Try.prog 10 #[.slice A0 l0.length c0] w fun e w' => ∃ v0_ : Value, e = .returned (v0_) ∧ Kd.N (Kd.slice 31 (Kd.int .u32)) 36 w' w.heap.size (fun k_ => (P0_ k_ ∨ w.heap.size ≤ k_)) v0_ r ∧ Below w.heap.size w w' := by
 have HO0 := Aside0.mk (show Kd.V (Kd.slice 31 (Kd.int .u32)) 36 w w.heap.size (fun k_ => (P0_ k_ ∨ w.heap.size ≤ k_)) (.slice A0 l0.length c0) l0 from Kd.V_mono hs0 (fun k_ hk => .inl hk))
 have HB := Aside0.mk (Below.refl w.heap.size w)
 have H : (creellaw18_few.l0 k ([] : List (List Int)) l0 (l0.length : Int) 0) = some r := h
 clear h
 have H' := Aside0.mk H
 clear H
 go_enter Try.func10, Try.ntmps10
 go_wp2
 go_loopg [3, 8] k (fun kq v3 v8 w' => ∃ (x3_1 : List (List Int)) (x8_1 : Int), v8 = .int .i64 x8_1 ∧ Aside0 (creellaw18_few.l0 kq x3_1 l0 (l0.length : Int) x8_1 = some r) ∧ Aside0 (kq ≤ k) ∧ Aside0 (Kd.N (Kd.slice 31 (Kd.int .u32)) 36 w' w.heap.size (fun k_ => (P0_ k_ ∨ w.heap.size ≤ k_)) v3 x3_1) ∧ Aside0 (Kd.V (Kd.slice 31 (Kd.int .u32)) 36 w' w.heap.size (fun k_ => (P0_ k_ ∨ w.heap.size ≤ k_) ∧ some k_ ≠ (v3 : Value).ownBlock) (.slice A0 l0.length c0) l0) ∧ Aside0 (Below w.heap.size w w'))
 case atStart => exact ⟨(([] : List (List Int))), (0), (by first | rfl | (simp; done) | (simp [*]; done)), H', ⟨Nat.le_refl _⟩, ⟨by first | exact Kd.S_nil _ _ _ _ _ | exact Kd.N_nil _ _ _ _ _ | exact Kd.V_nil _ _ _ _ _ | exact Kd.Q_nil _ _ _ _ _ | exact Kd.R_nil _ _ _ _ _⟩, ⟨by (with_reducible repeat (first | apply Kd.V_alloc | apply Kd.V_drewN | apply Kd.V_drew)); exact Kd.V_mono HO0.out (fun _ hk => ⟨hk, (by simp [Value.ownBlock])⟩)⟩, ⟨by repeat (first | (with_reducible first | exact HB.out | apply below_alloc | apply pw_below_drewN | apply below_drew1) | exact HB.out)⟩⟩
 case round =>
  clear H'
  try clear c1
  obtain ⟨x3_1, x8_1, rfl, HA, HK1, HO_3, HO_6, HB⟩ := hrel
  cases gk with
  | zero => exact absurd HA.out (by simp [creellaw18_few.l0])
  | succ k1 =>
   have H := HA.out
   clear HA
   simp only [creellaw18_few.l0] at H
   by_cases c2 : x8_1 < (l0.length : Int)
   ·rw [if_pos c2] at H
    have c2b0 : decide (x8_1 < (l0.length : Int)) = true := decide_eq_true c2
    clear c2
    by_cases c3 : 0 ≤ x8_1
    ·rw [if_pos c3] at H
     have c3b0 : decide (0 ≤ x8_1) = true := decide_eq_true c3
     clear c3
     by_cases c4 : x8_1 < (l0.length : Int)
     ·rw [if_pos c4] at H
      have c4b0 : decide (x8_1 < (l0.length : Int)) = true := decide_eq_true c4
      clear c4
      by_cases c5 : x8_1 < 60
      ·rw [if_pos c5] at H
       have c5b0 : decide (x8_1 < 60) = true := decide_eq_true c5
       clear c5
       by_cases c6 : ((rd_L3 l0 x8_1).length : Int) ≤ 60
       ·rw [if_pos c6] at H
        have c6b0 : decide (((rd_L3 l0 x8_1).length : Int) ≤ 60) = true := decide_eq_true c6
        have c6b1 : decide ((rd_L3 l0 x8_1).length ≤ 60) = true := decide_eq_true (by omega)
        clear c6
        by_cases c7 : x3_1.length < 5864062014805
        ·rw [if_pos c7] at H
         have LMc7 := Aside0.mk c7
         clear c7
         obtain ⟨y278, hy278⟩ : ∃ y_ : List (List Int), y_ = (x3_1 ++ [rd_L3 l0 x8_1]) := ⟨_, rfl⟩
         replace H : (creellaw18_few.l0 k1 y278 l0 (l0.length : Int) (wrap64 (x8_1 + 1))) = some r := by first | (rw [hy278]; with_reducible exact H) | (have H2_ := (Option.bind_some _ _).symm.trans H; rw [hy278]; with_reducible exact H2_) | (have H2_ := (Option.bind_some _ _).symm.trans H; with_reducible exact H2_) | with_reducible exact H | (rw [hy278]; exact H) | exact H
         have Ny278 := Aside0.mk hy278
         clear hy278
         have H' := Aside0.mk H
         clear H
         have p277 : 0 ≤ (x8_1 : Int) := of_decide_eq_true (by first | (with_reducible assumption) | assumption)
         have q277 : x8_1 < (l0.length : Int) := of_decide_eq_true (by first | (with_reducible assumption) | assumption)
         obtain ⟨ad277, A277_0, c277_0, e277, hx277_0, hl277_0, hi277_0⟩ := at_L3 (Kd.V_reads' HO_6.out).2.2 x8_1 p277 q277
         cases e277
         obtain ⟨ce277, hce277, hMe277, hcc277⟩ := Kd.V_get HO_6.out [] x8_1 p277 (by first | exact q277 | exact of_decide_eq_true (by first | (with_reducible assumption) | assumption) | (have e_ := (Kd.V_reads' HO_6.out).1; omega))
         obtain ⟨ua277_0, uc277_0, rfl, ul277_0, ge277_0⟩ := Kd.FK_slice_open hMe277
         have hv277_0 := hcc277 0 _ rfl
         rw [Nat.add_zero, show ((Kd.slice 31 (Kd.int .u32))).sz = 1 from rfl, Nat.mul_one] at hv277_0
         replace hv277_0 := Option.some.inj (hv277_0.symm.trans hx277_0)
         injection hv277_0 with hva_ hvn_ hvc_
         rw [hva_] at ge277_0
         rw [hvc_] at ul277_0
         have HL277_0 := Aside0.mk (show Kd.V (Kd.int .u32) 31 _ w.heap.size _ _ (rd_L3 l0 x8_1) from Kd.V_mk ul277_0 ge277_0)
         clear hva_ hvn_ hvc_ ge277_0 ul277_0
         clear hcc277 hce277
         have HR277_0 := Aside0.mk hi277_0
         have HC277_0 := Aside0.mk hl277_0
         clear hi277_0 hl277_0
         replace p277 := eq_true p277
         replace q277 := eq_true q277
         go_wp2_with (first | ((with_reducible refine gate_builtin (b := .append) (xs := #[.tmp 20, .tmp 22]) rfl ?_); (try (refine gate_guard (by rfl) ?_; dsimp only)); at_builtin; refine Kd.N_append (Kd.slice 31 (Kd.int .u32)) (w0 := w) w.heap.size rfl (.tmp 20) (.tmp 22) 22 36 (.slice none 0 0) 24 rfl Try.underlying22 info36 rfl (by decide) (by omega) u3 x3_1 (rd_L3 l0 x8_1) [.slice A277_0 (rd_L3 l0 x8_1).length c277_0] (fun k_ => (P0_ k_ ∨ w.heap.size ≤ k_)) (fun k_ => ((fun k_ => (P0_ k_ ∨ w.heap.size ≤ k_))) k_ ∧ some k_ ≠ (u3 : Value).ownBlock) rfl rfl ?aP (fun _ hk => hk) ?aF ?aO ?aB ?aS ?aL ?_; (case aP => exact (Kd.FK_slice_mk (Kd.V_reads' (Kd.V_mono (ok' := (fun k_ => ((fun k_ => (P0_ k_ ∨ w.heap.size ≤ k_))) k_ ∧ some k_ ≠ (u3 : Value).ownBlock)) (HL277_0.out) (fun k_ hk => ⟨hk.1, hk.2⟩))).2.1 (Kd.V_F (Kd.V_mono (ok' := (fun k_ => ((fun k_ => (P0_ k_ ∨ w.heap.size ≤ k_))) k_ ∧ some k_ ≠ (u3 : Value).ownBlock)) (HL277_0.out) (fun k_ hk => ⟨hk.1, hk.2⟩))))); (case aB => exact (by repeat (first | (with_reducible first | exact HB.out | apply below_alloc | apply pw_below_drewN | apply below_drew1) | exact HB.out))); (case aF => exact (fun k_ hk => (.inr (Nat.le_trans (below_size (by repeat (first | (with_reducible first | exact HB.out | apply below_alloc | apply pw_below_drewN | apply below_drew1) | exact HB.out))) hk)))); (case aO => exact (by (with_reducible repeat (first | apply Kd.N_alloc | apply Kd.N_drewN | apply Kd.N_drew)); exact HO_3.out)); (case aS => exact (below_size (by repeat (first | (with_reducible first | exact HB.out | apply below_alloc | apply pw_below_drewN | apply below_drew1) | exact HB.out)))); (case aL => have := LMc7.out; omega); intro v279 w8 ho hb hg hat; rw [← Ny278.out] at ho; have n0_ := Aside0.mk (Kd.V_afterv (ok := (fun k_ => (P0_ k_ ∨ w.heap.size ≤ k_))) (by (with_reducible repeat (first | apply Kd.V_alloc | apply Kd.V_drewN | apply Kd.V_drew)); exact HO_6.out) hg hat); have n1_ := Aside0.mk (Kd.V_afterv (ok := (fun k_ => (P0_ k_ ∨ w.heap.size ≤ k_))) (by (with_reducible repeat (first | apply Kd.V_alloc | apply Kd.V_drewN | apply Kd.V_drew)); exact HL277_0.out) hg hat); have n2_ := Aside0.mk (hb); have n3_ := Aside0.mk (ho); clear HO_6; clear HL277_0; clear HB; clear HO_3; have HO_6 := n0_; have HL277_0 := n1_; have HB := n2_; have HO280 := n3_; clear n0_ n1_ n2_ n3_; clear ho hb hg hat))
         go_roundg k1
         case measure => have := HK1.out; omega
         case rel => exact ⟨(y278), (wrap64 (x8_1 + 1)), (by first | rfl | (simp; done) | (simp [*]; done)), H', ⟨by have := HK1.out; omega⟩, ⟨by (with_reducible repeat (first | apply Kd.N_alloc | apply Kd.N_drewN | apply Kd.N_drew)); exact HO280.out⟩, ⟨by (with_reducible repeat (first | apply Kd.V_alloc | apply Kd.V_drewN | apply Kd.V_drew)); exact HO_6.out⟩, ⟨by repeat (first | (with_reducible first | exact HB.out | apply below_alloc | apply pw_below_drewN | apply below_drew1) | exact HB.out)⟩⟩
        ·rw [if_neg c7] at H
         exact absurd H (by simp)
       ·rw [if_neg c6] at H
        have c6b0 : decide (((rd_L3 l0 x8_1).length : Int) ≤ 60) = false := decide_eq_false c6
        have c6b1 : decide ((rd_L3 l0 x8_1).length ≤ 60) = false := decide_eq_false (by omega)
        clear c6
        have H' := Aside0.mk H
        clear H
        have p277 : 0 ≤ (x8_1 : Int) := of_decide_eq_true (by first | (with_reducible assumption) | assumption)
        have q277 : x8_1 < (l0.length : Int) := of_decide_eq_true (by first | (with_reducible assumption) | assumption)
        obtain ⟨ad277, A277_0, c277_0, e277, hx277_0, hl277_0, hi277_0⟩ := at_L3 (Kd.V_reads' HO_6.out).2.2 x8_1 p277 q277
        cases e277
        obtain ⟨ce277, hce277, hMe277, hcc277⟩ := Kd.V_get HO_6.out [] x8_1 p277 (by first | exact q277 | exact of_decide_eq_true (by first | (with_reducible assumption) | assumption) | (have e_ := (Kd.V_reads' HO_6.out).1; omega))
        obtain ⟨ua277_0, uc277_0, rfl, ul277_0, ge277_0⟩ := Kd.FK_slice_open hMe277
        have hv277_0 := hcc277 0 _ rfl
        rw [Nat.add_zero, show ((Kd.slice 31 (Kd.int .u32))).sz = 1 from rfl, Nat.mul_one] at hv277_0
        replace hv277_0 := Option.some.inj (hv277_0.symm.trans hx277_0)
        injection hv277_0 with hva_ hvn_ hvc_
        rw [hva_] at ge277_0
        rw [hvc_] at ul277_0
        have HL277_0 := Aside0.mk (show Kd.V (Kd.int .u32) 31 _ w.heap.size _ _ (rd_L3 l0 x8_1) from Kd.V_mk ul277_0 ge277_0)
        clear hva_ hvn_ hvc_ ge277_0 ul277_0
        clear hcc277 hce277
        have HR277_0 := Aside0.mk hi277_0
        have HC277_0 := Aside0.mk hl277_0
        clear hi277_0 hl277_0
        replace p277 := eq_true p277
        replace q277 := eq_true q277
        go_wp2
        go_roundg k1
        case measure => have := HK1.out; omega
        case rel => exact ⟨(x3_1), (wrap64 (x8_1 + 1)), (by first | rfl | (simp; done) | (simp [*]; done)), H', ⟨by have := HK1.out; omega⟩, ⟨by (with_reducible repeat (first | apply Kd.N_alloc | apply Kd.N_drewN | apply Kd.N_drew)); exact HO_3.out⟩, ⟨by (with_reducible repeat (first | apply Kd.V_alloc | apply Kd.V_drewN | apply Kd.V_drew)); exact HO_6.out⟩, ⟨by repeat (first | (with_reducible first | exact HB.out | apply below_alloc | apply pw_below_drewN | apply below_drew1) | exact HB.out)⟩⟩
      ·rw [if_neg c5] at H
       have c5b0 : decide (x8_1 < 60) = false := decide_eq_false c5
       clear c5
       have H' := Aside0.mk H
       clear H
       have p277 : 0 ≤ (x8_1 : Int) := of_decide_eq_true (by first | (with_reducible assumption) | assumption)
       have q277 : x8_1 < (l0.length : Int) := of_decide_eq_true (by first | (with_reducible assumption) | assumption)
       obtain ⟨ad277, A277_0, c277_0, e277, hx277_0, hl277_0, hi277_0⟩ := at_L3 (Kd.V_reads' HO_6.out).2.2 x8_1 p277 q277
       cases e277
       obtain ⟨ce277, hce277, hMe277, hcc277⟩ := Kd.V_get HO_6.out [] x8_1 p277 (by first | exact q277 | exact of_decide_eq_true (by first | (with_reducible assumption) | assumption) | (have e_ := (Kd.V_reads' HO_6.out).1; omega))
       obtain ⟨ua277_0, uc277_0, rfl, ul277_0, ge277_0⟩ := Kd.FK_slice_open hMe277
       have hv277_0 := hcc277 0 _ rfl
       rw [Nat.add_zero, show ((Kd.slice 31 (Kd.int .u32))).sz = 1 from rfl, Nat.mul_one] at hv277_0
       replace hv277_0 := Option.some.inj (hv277_0.symm.trans hx277_0)
       injection hv277_0 with hva_ hvn_ hvc_
       rw [hva_] at ge277_0
       rw [hvc_] at ul277_0
       have HL277_0 := Aside0.mk (show Kd.V (Kd.int .u32) 31 _ w.heap.size _ _ (rd_L3 l0 x8_1) from Kd.V_mk ul277_0 ge277_0)
       clear hva_ hvn_ hvc_ ge277_0 ul277_0
       clear hcc277 hce277
       have HR277_0 := Aside0.mk hi277_0
       have HC277_0 := Aside0.mk hl277_0
       clear hi277_0 hl277_0
       replace p277 := eq_true p277
       replace q277 := eq_true q277
       go_wp2
       go_roundg k1
       case measure => have := HK1.out; omega
       case rel => exact ⟨(x3_1), (wrap64 (x8_1 + 1)), (by first | rfl | (simp; done) | (simp [*]; done)), H', ⟨by have := HK1.out; omega⟩, ⟨by (with_reducible repeat (first | apply Kd.N_alloc | apply Kd.N_drewN | apply Kd.N_drew)); exact HO_3.out⟩, ⟨by (with_reducible repeat (first | apply Kd.V_alloc | apply Kd.V_drewN | apply Kd.V_drew)); exact HO_6.out⟩, ⟨by repeat (first | (with_reducible first | exact HB.out | apply below_alloc | apply pw_below_drewN | apply below_drew1) | exact HB.out)⟩⟩
     ·rw [if_neg c4] at H
      exact absurd H (by simp)
    ·rw [if_neg c3] at H
     exact absurd H (by simp)
   ·rw [if_neg c2] at H
    have c2b0 : decide (x8_1 < (l0.length : Int)) = false := decide_eq_false c2
    clear c2
    obtain rfl := Option.some.inj H
    go_wp2
    go_ret
    exact ⟨_, by first | rfl | (simp [errW_none, errW_some] <;> rfl) | (simp [*, errW_none, errW_some] <;> rfl), by (with_reducible repeat (first | apply Kd.N_alloc | apply Kd.N_drewN | apply Kd.N_drew)); exact HO_3.out, by repeat (first | (with_reducible first | exact HB.out | apply below_alloc | apply pw_below_drewN | apply below_drew1) | exact HB.out)⟩

/-! ### creellaw18_rise: function 11 -/
def backR (y : List Int) (n : Int) : Nat → Nat
 | 0 => 0
 | k + 1 => if n < y.getD k 0 then backR y n k else k + 1
def insR (y : List Int) (n : Int) : List Int :=
 if 0 < backR y n y.length ∧ y.getD (backR y n y.length - 1) 0 = n then y else y.take (backR y n y.length) ++ ([n] ++ y.drop (backR y n y.length))
def riseR (x : List Int) : List Int := x.foldl insR []
theorem backR_le (y : List Int) (n : Int) : ∀ k, backR y n k ≤ k
 | 0 => Nat.le_refl _
 | k + 1 => by unfold backR; split; exact Nat.le_succ_of_le (backR_le y n k); exact Nat.le_refl _
theorem insR_len (y : List Int) (n : Int) : (insR y n).length ≤ y.length + 1 := by
 have h := backR_le y n y.length
 unfold insR
 split
 ·omega
 ·simp only [List.length_append, List.length_take, List.length_drop, List.length_cons, List.length_nil]; omega
def creellaw18_rise.f (k : Nat) (l : List (List Int)) : Option (List (List Int)) := (creellaw18_few.f k l).bind fun t => if t.length ≤ 1000 ∧ ∀ x ∈ t, x.length ≤ 1000 then some (t.map riseR) else none
theorem creellaw18_rise.mono : ∀ (a0 : List (List Int)) (k : Nat), LeO (creellaw18_rise.f k a0) (creellaw18_rise.f (k + 1) a0) := by
 intro a0 k
 unfold creellaw18_rise.f
 exact LeO.bind (creellaw18_few.mono a0 k) (fun t => LeO.refl _)
set_option maxHeartbeats 8000000 in
set_option maxRecDepth 100000 in
theorem creellaw18_rise.calls (k : Nat) (P0_ : Nat → Prop) (A0 : Option Addr) (c0 : Nat) (l0 : List (List Int)) (r : List (List Int)) (w : World) (hs0 : Kd.V (Kd.slice 31 (Kd.int .u32)) 36 w w.heap.size (fun k_ => P0_ k_) (.slice A0 l0.length c0) l0) (h : creellaw18_rise.f k l0 = some r) :
  Calls Try.prog 11 #[.slice A0 l0.length c0] w fun e w' => ∃ v0_ : Value, e = .returned (v0_) ∧ Kd.N (Kd.slice 31 (Kd.int .u32)) 36 w' w.heap.size (fun k_ => (P0_ k_ ∨ w.heap.size ≤ k_)) v0_ r ∧ Below w.heap.size w w' := by
 unfold creellaw18_rise.f at h
 obtain ⟨t, ht, h'⟩ := Option.bind_eq_some_iff.mp h
 have HS := Aside0.mk hs0
 have HT := Aside0.mk ht
 clear h ht hs0
 by_cases hb : t.length ≤ 1000 ∧ ∀ x ∈ t, x.length ≤ 1000
 ·rw [if_pos hb] at h'
  obtain rfl := Option.some.inj h'
  clear h'
  obtain ⟨hb1, hb2⟩ := hb
  have HB2 := Aside0.mk hb2
  clear hb2
  go_enter Try.func11, Try.ntmps11
  go_wp2_with (first | (go_at_call 10; (with_reducible refine (creellaw18_few.calls k P0_ _ _ l0 _ _ HS.out HT.out).mono ?_); rintro e w3 ⟨v1, rfl, ho, hb⟩; obtain ⟨A4, c4, rfl⟩ := Kd.N_slice ho; have HF := Aside0.mk (Kd.C_F (Kd.heap_slice 31 (Kd.heap_int .u32)) (Kd.N_reads' ho).2.2); have HB3 := Aside0.mk hb; clear ho hb))
  go_loopw [3, 13] (fun v3 v13 wr => ∃ (i : Nat) (acc : List (List Int)), v13 = .int .i64 i ∧ i ≤ t.length ∧ acc.length = i ∧ Aside0 (acc ++ (t.drop i).map riseR = t.map riseR) ∧ Aside0 (Kd.N (Kd.slice 31 (Kd.int .u32)) 36 wr w3.heap.size (fun k_ => w3.heap.size ≤ k_) v3 acc) ∧ Aside0 (Below w3.heap.size w3 wr)) (fun _ v13 _ => t.length - (intOf v13).toNat)
  case atStart => exact ⟨0, [], rfl, Nat.zero_le _, rfl, ⟨by simp⟩, ⟨Kd.N_nil _ _ _ _ _⟩, ⟨Below.refl _ _⟩⟩
  case round =>
   obtain ⟨i, acc, rfl, hi, hal, HE, HN, HB⟩ := hrel
   obtain ⟨wS, rfl⟩ : ∃ z, z = wr := ⟨_, rfl⟩
   by_cases hlt : i < t.length
   ·obtain ⟨ad, Ax, cx, e, hc, hlc, hFx⟩ := Hand.F_row_at (Kd.F_below HF.out HB.out) i hlt
    subst e
    have hx : t.getD i [] = t[i] := by simp [hlt]
    obtain ⟨x, hxx⟩ : ∃ x, t.getD i [] = x := ⟨_, rfl⟩
    have hxm : x ∈ t := by rw [← hxx, hx]; exact List.getElem_mem _
    have hxl : x.length ≤ 1000 := HB2.out x hxm
    have hee : acc ++ [riseR x] ++ (t.drop (i + 1)).map riseR = t.map riseR := by
     rw [← HE.out, List.drop_eq_getElem_cons hlt, List.map_cons, ← hx, hxx, List.append_assoc]; rfl
    rw [hxx] at hc hlc hFx
    have HE2 := Aside0.mk hee
    have HFX := Aside0.mk (Kd.F_bound hFx)
    have HLC := Aside0.mk hlc
    clear hee hFx hlc HE hx hxx hxm
    obtain ⟨Y, hY⟩ : ∃ Y, riseR x = Y := ⟨_, rfl⟩
    have HY := Aside0.mk hY
    rw [hY] at HE2
    clear hY
    have hh0 : (0 : Int) ≤ (i : Int) := by omega
    have hh1 : (i : Int) < (t.length : Int) := by omega
    go_wp2
    go_loopw [6, 19] (fun v6 v19 wq => ∃ (j : Nat) (y : List Int), v19 = .int .i64 j ∧ j ≤ x.length ∧ y.length ≤ j ∧ Aside0 ((x.drop j).foldl insR y = Y) ∧ Aside0 (Kd.R (Kd.int .u32) 31 wq wS.heap.size (fun _ => True) v6 y) ∧ Aside0 (Below wS.heap.size wS wq)) (fun _ v19 _ => x.length - (intOf v19).toNat)
    case atStart => exact ⟨0, [], rfl, Nat.zero_le _, Nat.le_refl _, HY, ⟨Kd.R_nil _ _ _ _ _⟩, ⟨Below.refl _ _⟩⟩
    case round =>
     obtain ⟨j, y, rfl, hj, hyl, HE3, HR, HBQ⟩ := hrel
     obtain ⟨wQ, rfl⟩ : ∃ z, z = wr := ⟨_, rfl⟩
     obtain ⟨A6, c6, rfl⟩ := Kd.R_slice HR.out
     by_cases hlt2 : j < x.length
     ·obtain ⟨ad2, e2, hcell⟩ := Kd.at_int (Kd.F_now (Kd.F_step HFX.out (fun k_ hk hlt => HBQ.out.block k_ hlt))) (j : Int) (by omega) (by omega)
      subst e2
      obtain ⟨n, hn⟩ : ∃ n, rd x (j : Int) = n := ⟨_, rfl⟩
      rw [hn] at hcell
      simp only [Int.toNat_natCast] at hcell
      have he3 := HE3.out
      rw [show x.drop j = n :: x.drop (j + 1) from by rw [← hn, List.drop_eq_getElem_cons hlt2]; simp [rd, rdOf, hlt2], List.foldl_cons] at he3
      have HE4 := Aside0.mk he3
      clear he3 hn HE3
      have hh2 : (0 : Int) ≤ (j : Int) := by omega
      have hh3 : (j : Int) < (x.length : Int) := by omega
      obtain ⟨K, hK⟩ : ∃ K, backR y n y.length = K := ⟨_, rfl⟩
      have hKl : K ≤ y.length := by rw [← hK]; exact backR_le _ _ _
      have HK := Aside0.mk hK
      have HKQ := HK
      clear hK
      go_wp2
      go_loopw [9] (fun v9 wz => ∃ (kk : Nat), v9 = .int .i64 kk ∧ kk ≤ y.length ∧ Aside0 (backR y n kk = K) ∧ wz = wQ) (fun v9 _ => (intOf v9).toNat)
      case atStart => exact ⟨y.length, rfl, Nat.le_refl _, HK, rfl⟩
      case round =>
       clear HK
       obtain ⟨kk, rfl, hkl, HK, rfl⟩ := hrel
       by_cases hk0 : kk = 0
       ·have d1 : decide ((0 : Int) < (kk : Int)) = false := decide_eq_false (by omega)
        have d2 : decide (0 < kk) = false := decide_eq_false (by omega)
        have HKK : Aside0 (backR y n y.length = kk) := ⟨by rw [HKQ.out, ← HK.out, hk0]; unfold backR; rfl⟩
        have hno : ¬ (0 < kk ∧ y.getD (kk - 1) 0 = n) := fun h_ => by omega
        clear hk0
        go_wp2
        obtain ⟨n3, hn3, hnc3, hcut3, hFt⟩ := Hand.cut_take (P := Try.prog) 36 .i64 Try.underlying36 (by kernel_rfl) (Kd.R_F (Kd.R_bound HR.out)) (Kd.R_reads' HR.out).2.1 kk hkl
        obtain ⟨A8, n4, c8, hn4, hnc4, hcut4, hFd⟩ := Hand.cut_drop (P := Try.prog) 36 .i64 Try.underlying36 (by kernel_rfl) (Kd.R_F (Kd.R_bound HR.out)) (Kd.R_reads' HR.out).2.1 kk hkl
        have hins : insR y n = y.take kk ++ ([n] ++ y.drop kk) := by unfold insR; rw [HKK.out]; exact if_neg hno
        have hl1 : (y.take kk).length = kk := by rw [List.length_take]; omega
        have hl2 : (y.drop kk).length = y.length - kk := List.length_drop
        rw [hl1] at hn3
        subst hn3
        generalize y.take n3 = p1 at *
        generalize y.drop n3 = p2 at *
        subst hn4
        have HFT := Aside0.mk hFt
        have HFD := Aside0.mk hFd
        have HINS := Aside0.mk hins
        clear hFt hFd hins hno
        subst hl1
        have HL2 := Aside0.mk hl2
        clear hl2
        have HLa0 := Aside0.mk (Hand.R_lit0 (W := wr) (base := wr.heap.size) (ok := fun k_ => wr.heap.size ≤ k_) (Kd.int .u32) 31 wr.heap.size rfl (Nat.le_refl _) (Nat.le_refl _))
        have HLa := Aside0.mk (Kd.R_drew HLa0.out)
        have HLb := Aside0.mk (Kd.R_drew (Kd.R_alloc HLa0.out (Obj.cells #[Value.int .u32 n] 31)))
        have HLc := Aside0.mk (Kd.R_drew (Hand.R_lit0 (W := (wr.alloc (Obj.cells #[Value.int .u32 n] 31))) (base := wr.heap.size) (ok := fun k_ => wr.heap.size ≤ k_) (Kd.int .u32) 31 (wr.heap.size + 1) (World.size_alloc _ _) (Nat.le_succ _) (Nat.le_succ _)))
        have HFb := Aside0.mk (Kd.F_drew (Hand.F_nums (W := ((wr.alloc (Obj.cells #[] 31)).alloc (Obj.cells #[Value.int .u32 n] 31))) (ok := fun k_ => k_ = wr.heap.size + 1) (k := .u32) (g := wr.heap.size + 1) (e := 31) (fr := (0, 0)) [n] (by have h_ := heap_alloc_new (wr.alloc (Obj.cells #[] 31)) (Obj.cells #[Value.int .u32 n] 31); rw [World.size_alloc] at h_; exact h_) rfl (Nat.le_of_ble_eq_true rfl) rfl))
        have HFc := Aside0.mk (Kd.F_drew (Kd.F_alloc (Hand.F_nums (W := (wr.alloc (Obj.cells #[Value.int .u32 n] 31))) (ok := fun k_ => k_ = wr.heap.size) (k := .u32) (g := wr.heap.size) (e := 31) (fr := (0, 0)) [n] (heap_alloc_new wr (Obj.cells #[Value.int .u32 n] 31)) rfl (Nat.le_of_ble_eq_true rfl) rfl) (Obj.cells #[] 31)))
        have HCa0 := Aside0.mk (Kd.C_alloc (Kd.F_now HFT.out) (Obj.cells #[] 31))
        have HCa := Aside0.mk (Kd.C_drew HCa0.out)
        have HCb := Aside0.mk (Kd.C_drew (Kd.C_alloc HCa0.out (Obj.cells #[Value.int .u32 n] 31)))
        have HCc := Aside0.mk (Kd.C_drew (Kd.C_alloc (Kd.C_alloc (Kd.F_now HFT.out) (Obj.cells #[Value.int .u32 n] 31)) (Obj.cells #[] 31)))
        have HBa0 : Aside0 (Below wr.heap.size wr (wr.alloc (Obj.cells #[] 31))) := ⟨Below.alloc (Below.refl _ _) (Nat.le_refl _) _⟩
        have HBa : Aside0 (Below wr.heap.size wr (wr.alloc (Obj.cells #[] 31)).drew) := ⟨below_drew1 HBa0.out⟩
        have HBb : Aside0 (Below wr.heap.size wr ((wr.alloc (Obj.cells #[] 31)).alloc (Obj.cells #[Value.int .u32 n] 31)).drew) := ⟨below_drew1 (Below.alloc HBa0.out HBa0.out.size _)⟩
        have HBl : Aside0 (Below wr.heap.size wr (wr.alloc (Obj.cells #[Value.int .u32 n] 31))) := ⟨Below.alloc (Below.refl _ _) (Nat.le_refl _) _⟩
        have HBc : Aside0 (Below wr.heap.size wr ((wr.alloc (Obj.cells #[Value.int .u32 n] 31)).alloc (Obj.cells #[] 31)).drew) := ⟨below_drew1 (Below.alloc HBl.out HBl.out.size _)⟩
        go_region_held3 (fun _ => True) (trivial) (first | (refine Hand.R_row_step .u32 (w0 := wr) wr.heap.size ?_ (.tmp 49) (.tmp 52) 36 31 (.int .u32 0) 4 ?_ Try.underlying36 info31 rfl ?_ (.slice (some ⟨_, 0, none⟩) 0 0) [] p1 _ p1.length _ (fun k_ => wr.heap.size ≤ k_) (by rfl) (by rfl) ?_ ?_ ?_ ?_ ?_ ?_ ?_; rfl; rfl; decide; (first | exact HLa.out | exact HLb.out | exact HLc.out); (first | exact HCa.out | exact HCb.out | exact HCc.out); (intro k_ hk; first | exact Nat.le_trans HBa.out.size hk | exact Nat.le_trans HBb.out.size hk | exact Nat.le_trans HBc.out.size hk); (first | exact HBa.out | exact HBb.out | exact HBc.out); (first | exact HBa.out.size | exact HBb.out.size | exact HBc.out.size); (first | omega | (simp only [List.length_append, List.length_cons, List.length_nil]; omega)); intro v3 w3 ho hb hg hat; rw [List.nil_append] at ho; have HO3 := Aside0.mk ho; have HB3 := Aside0.mk hb; (first | (have HF1 := Aside0.mk (Kd.F_grown HFb.out hg (fun k_ hk e_ => by simp [Value.ownBlock] at e_; omega))) | (have HF1 := Aside0.mk (Kd.F_grown HFc.out hg (fun k_ hk e_ => by simp [Value.ownBlock] at e_; omega))) | skip); (try have HO3b := Aside0.mk (Kd.R_alloc HO3.out (Obj.cells #[Value.int .u32 n] 31))); (try have HB3b : Aside0 (Below wr.heap.size wr (w3.alloc (Obj.cells #[Value.int .u32 n] 31))) := ⟨Below.alloc HB3.out HB3.out.size _⟩); (try have HF2 := Aside0.mk (Kd.F_now (Hand.F_nums (W := w3.alloc (Obj.cells #[Value.int .u32 n] 31)) (ok := fun _ => True) (k := .u32) (g := w3.heap.size) (e := 31) (fr := (0, 0)) [n] (heap_alloc_new w3 (Obj.cells #[Value.int .u32 n] 31)) rfl (Nat.le_of_ble_eq_true rfl) trivial))); clear ho hb hg hat) | (refine Hand.R_row_step .u32 (w0 := wr) wr.heap.size ?_ (.tmp 53) (.tmp 55) 36 31 (.int .u32 0) 4 ?_ Try.underlying36 info31 rfl ?_ v3 p1 [n] (some ⟨_, 0, none⟩) 1 1 (fun k_ => wr.heap.size ≤ k_) (by rfl) (by rfl) ?_ ?_ ?_ ?_ ?_ ?_ ?_; rfl; rfl; decide; (first | exact HO3.out | exact HO3b.out); (first | exact HF2.out | exact Kd.F_now HF1.out); (intro k_ hk; first | exact Nat.le_trans HB3.out.size hk | exact Nat.le_trans HB3b.out.size hk); (first | exact HB3.out | exact HB3b.out); (first | exact HB3.out.size | exact HB3b.out.size); (first | omega | (simp only [List.length_append, List.length_cons, List.length_nil]; omega)); intro v4 w4 ho hb hg hat; have HO4 := Aside0.mk ho; have HB4 := Aside0.mk hb; clear ho hb hg hat) | (refine Hand.R_row_step .u32 (w0 := wr) wr.heap.size ?_ (.tmp 56) (.tmp 59) 36 31 (.int .u32 0) 4 ?_ Try.underlying36 info31 rfl ?_ v4 (p1 ++ [n]) p2 _ p2.length _ (fun k_ => wr.heap.size ≤ k_) (by rfl) (by rfl) ?_ ?_ ?_ ?_ ?_ ?_ ?_; rfl; rfl; decide; (exact HO4.out); (exact Kd.F_now (Kd.F_below HFD.out HB4.out)); (intro k_ hk; first | exact Nat.le_trans HB4.out.size hk); (first | exact HB4.out); (first | exact HB4.out.size); (have h2_ := HL2.out; simp only [List.length_append, List.length_cons, List.length_nil]; omega); intro v5 w5 ho hb hg hat; rw [List.append_assoc, ← HINS.out] at ho; have HO5 := Aside0.mk ho; have HB5 := Aside0.mk hb; clear ho hb hg hat) | fail)
        all_goals (
         go_wp2
         refine ⟨⟨j + 1, insR y n, by go_num, by omega, by have := insR_len y n; omega, HE4, ⟨Kd.R_mono (Kd.R_lower HO5.out HBQ.out.size) (fun _ _ => trivial)⟩, ⟨HBQ.out.trans (HB5.out.mono HBQ.out.size)⟩⟩, ?_⟩
         simp [intOf]; omega)
       ·obtain ⟨q, hq⟩ : ∃ q, kk = q + 1 := ⟨kk - 1, by omega⟩
        have hk1 := HK.out
        rw [hq] at hk1
        unfold backR at hk1
        have d1 : decide ((0 : Int) < (kk : Int)) = true := decide_eq_true (by omega)
        have d2 : decide (0 < kk) = true := decide_eq_true (by omega)
        obtain ⟨ad3, e3, hce3⟩ := Kd.at_int (Kd.R_reads' HR.out).2.2 (q : Int) (by omega) (by omega)
        obtain ⟨m, hm⟩ : ∃ m, rd y (q : Int) = m := ⟨_, rfl⟩
        have hm2 : y.getD q 0 = m := hm
        rw [hm] at hce3
        simp only [Int.toNat_natCast] at hce3
        rw [hm2] at hk1
        have hq1 : (kk : Int) - 1 = (q : Int) := by omega
        have hh4 : (0 : Int) ≤ (q : Int) := by omega
        have hh5 : (q : Int) < (y.length : Int) := by omega
        subst e3
        by_cases hnm : n < m
        ·rw [if_pos hnm] at hk1
         have d3 : decide (n < m) = true := decide_eq_true hnm
         have HK1 := Aside0.mk hk1
         have HQ := Aside0.mk hq
         clear hk0 hm hk1 hq
         go_wp2
         go_roundw
         case rel => exact ⟨q, by go_num, by omega, ⟨HK1.out⟩, by first | rfl | trivial⟩
         case measure => simp [intOf]; omega
        ·rw [if_neg hnm] at hk1
         have HKK : Aside0 (backR y n y.length = kk) := ⟨by rw [HKQ.out, ← hk1, hq]⟩
         have d3 : decide (n < m) = false := decide_eq_false hnm
         by_cases hmn : m = n
         ·have d4 : (m == n) = true := beq_iff_eq.mpr hmn
          have hins : insR y n = y := by unfold insR; rw [HKK.out]; exact if_pos ⟨by omega, by rw [show kk - 1 = q by omega, hm2]; exact hmn⟩
          have HQ := Aside0.mk hq
          have HINS := Aside0.mk hins
          clear hk0 hm hk1 hq hins
          go_wp2
          go_roundw
          case rel => exact ⟨j + 1, y, by go_num, by omega, by omega, ⟨by have h_ := HE4.out; rw [HINS.out] at h_; exact h_⟩, HR, HBQ⟩
          case measure => simp [intOf]; omega
         ·have d4 : (m == n) = false := beq_eq_false_iff_ne.mpr hmn
          have hno : ¬ (0 < kk ∧ y.getD (kk - 1) 0 = n) := fun h_ => hmn (by rw [← hm2, show q = kk - 1 by omega]; exact h_.2)
          have HQ := Aside0.mk hq
          clear hk0 hm hk1 hq
          go_wp2
          obtain ⟨n3, hn3, hnc3, hcut3, hFt⟩ := Hand.cut_take (P := Try.prog) 36 .i64 Try.underlying36 (by kernel_rfl) (Kd.R_F (Kd.R_bound HR.out)) (Kd.R_reads' HR.out).2.1 kk hkl
          obtain ⟨A8, n4, c8, hn4, hnc4, hcut4, hFd⟩ := Hand.cut_drop (P := Try.prog) 36 .i64 Try.underlying36 (by kernel_rfl) (Kd.R_F (Kd.R_bound HR.out)) (Kd.R_reads' HR.out).2.1 kk hkl
          have hins : insR y n = y.take kk ++ ([n] ++ y.drop kk) := by unfold insR; rw [HKK.out]; exact if_neg hno
          have hl1 : (y.take kk).length = kk := by rw [List.length_take]; omega
          have hl2 : (y.drop kk).length = y.length - kk := List.length_drop
          rw [hl1] at hn3
          subst hn3
          generalize y.take n3 = p1 at *
          generalize y.drop n3 = p2 at *
          subst hn4
          have HFT := Aside0.mk hFt
          have HFD := Aside0.mk hFd
          have HINS := Aside0.mk hins
          clear hFt hFd hins hno
          subst hl1
          have HL2 := Aside0.mk hl2
          clear hl2
          have HLa0 := Aside0.mk (Hand.R_lit0 (W := wr) (base := wr.heap.size) (ok := fun k_ => wr.heap.size ≤ k_) (Kd.int .u32) 31 wr.heap.size rfl (Nat.le_refl _) (Nat.le_refl _))
          have HLa := Aside0.mk (Kd.R_drew HLa0.out)
          have HLb := Aside0.mk (Kd.R_drew (Kd.R_alloc HLa0.out (Obj.cells #[Value.int .u32 n] 31)))
          have HLc := Aside0.mk (Kd.R_drew (Hand.R_lit0 (W := (wr.alloc (Obj.cells #[Value.int .u32 n] 31))) (base := wr.heap.size) (ok := fun k_ => wr.heap.size ≤ k_) (Kd.int .u32) 31 (wr.heap.size + 1) (World.size_alloc _ _) (Nat.le_succ _) (Nat.le_succ _)))
          have HFb := Aside0.mk (Kd.F_drew (Hand.F_nums (W := ((wr.alloc (Obj.cells #[] 31)).alloc (Obj.cells #[Value.int .u32 n] 31))) (ok := fun k_ => k_ = wr.heap.size + 1) (k := .u32) (g := wr.heap.size + 1) (e := 31) (fr := (0, 0)) [n] (by have h_ := heap_alloc_new (wr.alloc (Obj.cells #[] 31)) (Obj.cells #[Value.int .u32 n] 31); rw [World.size_alloc] at h_; exact h_) rfl (Nat.le_of_ble_eq_true rfl) rfl))
          have HFc := Aside0.mk (Kd.F_drew (Kd.F_alloc (Hand.F_nums (W := (wr.alloc (Obj.cells #[Value.int .u32 n] 31))) (ok := fun k_ => k_ = wr.heap.size) (k := .u32) (g := wr.heap.size) (e := 31) (fr := (0, 0)) [n] (heap_alloc_new wr (Obj.cells #[Value.int .u32 n] 31)) rfl (Nat.le_of_ble_eq_true rfl) rfl) (Obj.cells #[] 31)))
          have HCa0 := Aside0.mk (Kd.C_alloc (Kd.F_now HFT.out) (Obj.cells #[] 31))
          have HCa := Aside0.mk (Kd.C_drew HCa0.out)
          have HCb := Aside0.mk (Kd.C_drew (Kd.C_alloc HCa0.out (Obj.cells #[Value.int .u32 n] 31)))
          have HCc := Aside0.mk (Kd.C_drew (Kd.C_alloc (Kd.C_alloc (Kd.F_now HFT.out) (Obj.cells #[Value.int .u32 n] 31)) (Obj.cells #[] 31)))
          have HBa0 : Aside0 (Below wr.heap.size wr (wr.alloc (Obj.cells #[] 31))) := ⟨Below.alloc (Below.refl _ _) (Nat.le_refl _) _⟩
          have HBa : Aside0 (Below wr.heap.size wr (wr.alloc (Obj.cells #[] 31)).drew) := ⟨below_drew1 HBa0.out⟩
          have HBb : Aside0 (Below wr.heap.size wr ((wr.alloc (Obj.cells #[] 31)).alloc (Obj.cells #[Value.int .u32 n] 31)).drew) := ⟨below_drew1 (Below.alloc HBa0.out HBa0.out.size _)⟩
          have HBl : Aside0 (Below wr.heap.size wr (wr.alloc (Obj.cells #[Value.int .u32 n] 31))) := ⟨Below.alloc (Below.refl _ _) (Nat.le_refl _) _⟩
          have HBc : Aside0 (Below wr.heap.size wr ((wr.alloc (Obj.cells #[Value.int .u32 n] 31)).alloc (Obj.cells #[] 31)).drew) := ⟨below_drew1 (Below.alloc HBl.out HBl.out.size _)⟩
          go_region_held3 (fun _ => True) (trivial) (first | (refine Hand.R_row_step .u32 (w0 := wr) wr.heap.size ?_ (.tmp 49) (.tmp 52) 36 31 (.int .u32 0) 4 ?_ Try.underlying36 info31 rfl ?_ (.slice (some ⟨_, 0, none⟩) 0 0) [] p1 _ p1.length _ (fun k_ => wr.heap.size ≤ k_) (by rfl) (by rfl) ?_ ?_ ?_ ?_ ?_ ?_ ?_; rfl; rfl; decide; (first | exact HLa.out | exact HLb.out | exact HLc.out); (first | exact HCa.out | exact HCb.out | exact HCc.out); (intro k_ hk; first | exact Nat.le_trans HBa.out.size hk | exact Nat.le_trans HBb.out.size hk | exact Nat.le_trans HBc.out.size hk); (first | exact HBa.out | exact HBb.out | exact HBc.out); (first | exact HBa.out.size | exact HBb.out.size | exact HBc.out.size); (first | omega | (simp only [List.length_append, List.length_cons, List.length_nil]; omega)); intro v3 w3 ho hb hg hat; rw [List.nil_append] at ho; have HO3 := Aside0.mk ho; have HB3 := Aside0.mk hb; (first | (have HF1 := Aside0.mk (Kd.F_grown HFb.out hg (fun k_ hk e_ => by simp [Value.ownBlock] at e_; omega))) | (have HF1 := Aside0.mk (Kd.F_grown HFc.out hg (fun k_ hk e_ => by simp [Value.ownBlock] at e_; omega))) | skip); (try have HO3b := Aside0.mk (Kd.R_alloc HO3.out (Obj.cells #[Value.int .u32 n] 31))); (try have HB3b : Aside0 (Below wr.heap.size wr (w3.alloc (Obj.cells #[Value.int .u32 n] 31))) := ⟨Below.alloc HB3.out HB3.out.size _⟩); (try have HF2 := Aside0.mk (Kd.F_now (Hand.F_nums (W := w3.alloc (Obj.cells #[Value.int .u32 n] 31)) (ok := fun _ => True) (k := .u32) (g := w3.heap.size) (e := 31) (fr := (0, 0)) [n] (heap_alloc_new w3 (Obj.cells #[Value.int .u32 n] 31)) rfl (Nat.le_of_ble_eq_true rfl) trivial))); clear ho hb hg hat) | (refine Hand.R_row_step .u32 (w0 := wr) wr.heap.size ?_ (.tmp 53) (.tmp 55) 36 31 (.int .u32 0) 4 ?_ Try.underlying36 info31 rfl ?_ v3 p1 [n] (some ⟨_, 0, none⟩) 1 1 (fun k_ => wr.heap.size ≤ k_) (by rfl) (by rfl) ?_ ?_ ?_ ?_ ?_ ?_ ?_; rfl; rfl; decide; (first | exact HO3.out | exact HO3b.out); (first | exact HF2.out | exact Kd.F_now HF1.out); (intro k_ hk; first | exact Nat.le_trans HB3.out.size hk | exact Nat.le_trans HB3b.out.size hk); (first | exact HB3.out | exact HB3b.out); (first | exact HB3.out.size | exact HB3b.out.size); (first | omega | (simp only [List.length_append, List.length_cons, List.length_nil]; omega)); intro v4 w4 ho hb hg hat; have HO4 := Aside0.mk ho; have HB4 := Aside0.mk hb; clear ho hb hg hat) | (refine Hand.R_row_step .u32 (w0 := wr) wr.heap.size ?_ (.tmp 56) (.tmp 59) 36 31 (.int .u32 0) 4 ?_ Try.underlying36 info31 rfl ?_ v4 (p1 ++ [n]) p2 _ p2.length _ (fun k_ => wr.heap.size ≤ k_) (by rfl) (by rfl) ?_ ?_ ?_ ?_ ?_ ?_ ?_; rfl; rfl; decide; (exact HO4.out); (exact Kd.F_now (Kd.F_below HFD.out HB4.out)); (intro k_ hk; first | exact Nat.le_trans HB4.out.size hk); (first | exact HB4.out); (first | exact HB4.out.size); (have h2_ := HL2.out; simp only [List.length_append, List.length_cons, List.length_nil]; omega); intro v5 w5 ho hb hg hat; rw [List.append_assoc, ← HINS.out] at ho; have HO5 := Aside0.mk ho; have HB5 := Aside0.mk hb; clear ho hb hg hat) | fail)
          all_goals (
           go_wp2
           refine ⟨⟨j + 1, insR y n, by go_num, by omega, by have := insR_len y n; omega, HE4, ⟨Kd.R_mono (Kd.R_lower HO5.out HBQ.out.size) (fun _ _ => trivial)⟩, ⟨HBQ.out.trans (HB5.out.mono HBQ.out.size)⟩⟩, ?_⟩
           simp [intOf]; omega)
     ·obtain rfl : j = x.length := by omega
      have hy : y = Y := by have h_ := HE3.out; rw [List.drop_length] at h_; exact h_
      subst hy
      have HQ := Aside0.mk (HB.out.trans (HBQ.out.mono HB.out.size))
      have HNQ := Aside0.mk (Kd.N_below HN.out HBQ.out)
      have HNL := Aside0.mk (Kd.N_lt HN.out)
      have HFY := Aside0.mk (show (Kd.slice 31 (Kd.int .u32)).FK wQ (fun k_ => wS.heap.size ≤ k_ ∧ k_ < wQ.heap.size) y [.slice A6 y.length c6] from Kd.FK_slice_mk (Kd.R_reads' HR.out).2.1 (Kd.F_mono (Kd.R_F (Kd.R_bound HR.out)) (fun k_ hk => ⟨hk.2.1, hk.2.2.1⟩)))
      have hs1 := HB.out.size
      have hs2 := HBQ.out.size
      have HOK : Aside0 (∀ k_, (wS.heap.size ≤ k_ ∧ k_ < wQ.heap.size) → w3.heap.size ≤ k_ ∧ some k_ ≠ u3.ownBlock) := ⟨fun k_ hk => ⟨by omega, fun e_ => by have := HNL.out k_ e_.symm; omega⟩⟩
      have HFR : Aside0 (∀ k_, wQ.heap.size ≤ k_ → w3.heap.size ≤ k_) := ⟨fun k_ hk => by omega⟩
      have HSZ : Aside0 (w3.heap.size ≤ wQ.heap.size) := ⟨by omega⟩
      have HLN : Aside0 ((acc.length + 1) * 24 ≤ 140737488355328) := ⟨by omega⟩
      go_wp2_with (first | ((with_reducible refine gate_dst (N := 65) rfl ?_); refine Kd.N_append (Kd.slice 31 (Kd.int .u32)) (w0 := w3) w3.heap.size rfl (.tmp 62) (.tmp 64) 22 36 (.slice none 0 0) 24 rfl Try.underlying22 info36 rfl (by decide) (by decide) u3 acc y [.slice A6 y.length c6] (fun k_ => w3.heap.size ≤ k_) (fun k_ => wS.heap.size ≤ k_ ∧ k_ < wQ.heap.size) rfl rfl HFY.out HOK.out HFR.out HNQ.out HQ.out HSZ.out HLN.out ?_; intro u7 w4 ho hb hg hat; have HN4 := Aside0.mk ho; have HB4 := Aside0.mk hb; clear ho hb hg hat))
      go_roundw
      case rel => exact ⟨i + 1, acc ++ [y], by go_num, by omega, by rw [List.length_append, hal]; rfl, ⟨by have h_ := HE2.out; exact h_⟩, HN4, HB4⟩
      case measure => simp [intOf]; omega
   ·obtain rfl : i = t.length := by omega
    have he := HE.out
    rw [List.drop_length, List.map_nil, List.append_nil] at he
    subst he
    obtain ⟨A3, c3, rfl⟩ := Kd.N_slice HN.out
    go_wp2
    go_ret
    exact ⟨_, rfl, Kd.N_mono (Kd.N_lower HN.out HB3.out.size) (fun k_ hk => .inr (Nat.le_trans HB3.out.size hk)), HB3.out.trans (HB.out.mono HB3.out.size)⟩
 ·rw [if_neg hb] at h'
  exact absurd h' (by simp)

/-! ### creelref17_Same: function 16 -/
def creelref17_Same.l0 : Nat → List Int → List Int → Int → Option (Bool)
 | 0, _, _, _ => none
 | k + 1, x0, x1, x5 => if x5 < (x0.length : Int) then (if 0 ≤ x5 then (if x5 < (x1.length : Int) then (if (rd x0 x5) = (rd x1 x5) then (creelref17_Same.l0 k x0 x1 (wrap64 (x5 + 1))) else (some false)) else (none)) else (none)) else (some true)
def creelref17_Same.f (k : Nat) (l0 : List Int) (l1 : List Int) : Option (Bool) := if (l0.length : Int) = (l1.length : Int) then (creelref17_Same.l0 k l0 l1 0) else (some false)
theorem creelref17_Same.mono_l : ∀ k, (∀ y0 y1 y2, LeO (creelref17_Same.l0 k y0 y1 y2) (creelref17_Same.l0 (k + 1) y0 y1 y2))
 | 0 => fun _ _ _ r h => by simp [creelref17_Same.l0] at h
 | k + 1 => by
  have ih0 := creelref17_Same.mono_l k
  ·intro y0 y1 y2
   unfold creelref17_Same.l0
   repeat' first
   | (with_reducible exact ih0 _ _ _)
   | (with_reducible exact LeO.refl _)
   | (with_reducible exact LeO.none _)
   | (with_reducible refine LeO.ite ?_ ?_)
   | (with_reducible refine LeO.bind ?_ (fun _ => ?_))
   | exact ih0 _ _ _
   | exact LeO.none _
   | refine LeO.ite ?_ ?_
   | refine LeO.bind ?_ (fun _ => ?_)
theorem creelref17_Same.mono : ∀ a0 a1 k, LeO (creelref17_Same.f k a0 a1) (creelref17_Same.f (k + 1) a0 a1) := by
 intro a0 a1 k
 have ih0 := creelref17_Same.mono_l k
 unfold creelref17_Same.f
 repeat' first
   | (with_reducible exact ih0 _ _ _)
   | (with_reducible exact LeO.refl _)
   | (with_reducible exact LeO.none _)
   | (with_reducible refine LeO.ite ?_ ?_)
   | (with_reducible refine LeO.bind ?_ (fun _ => ?_))
   | exact ih0 _ _ _
   | exact LeO.none _
   | refine LeO.ite ?_ ?_
   | refine LeO.bind ?_ (fun _ => ?_)
set_option maxHeartbeats 8000000 in
set_option maxRecDepth 100000 in
theorem creelref17_Same.calls (k : Nat) (A0 : Option Addr) (c0 : Nat) (l0 : List Int) (A1 : Option Addr) (c1 : Nat) (l1 : List Int) (r : Bool) (w : World) (hr0 : Kd.C (Kd.int .u32) w A0 l0.length l0) (hc0 : l0.length ≤ c0) (hr1 : Kd.C (Kd.int .u32) w A1 l1.length l1) (hc1 : l1.length ≤ c1) (h : creelref17_Same.f k l0 l1 = some r) :
  Calls Try.prog 16 #[.slice A0 l0.length c0, .slice A1 l1.length c1] w fun e w' => e = .returned (.bool r) ∧ Drawn0 w w' := by
 have HR0 := Aside0.mk hr0
 have HC0 := Aside0.mk hc0
 clear hr0 hc0
 have HR1 := Aside0.mk hr1
 have HC1 := Aside0.mk hc1
 clear hr1 hc1
 have H : (if (l0.length : Int) = (l1.length : Int) then (creelref17_Same.l0 k l0 l1 0) else (some false)) = some r := h
 clear h
 by_cases c3 : (l0.length : Int) = (l1.length : Int)
 ·rw [if_pos c3] at H
  have c3b0 : ((l0.length : Int) == (l1.length : Int)) = true := beq_iff_eq.mpr c3
  have c3b1 : ((l0.length : Int) != (l1.length : Int)) = false := bne_eq_false_iff_eq.mpr c3
  have c3b2 : (l0.length == l1.length) = true := by first | simpa using c3 | (simp at c3 ⊢; omega)
  clear c3
  have H' := Aside0.mk H
  clear H
  go_enter Try.func16, Try.ntmps16
  go_wp2
  repeat (go_quiet (fail); try go_wp2)
  go_loopg [5] k (fun kq v5 w' => ∃ (x5_1 : Int), v5 = .int .i64 x5_1 ∧ Aside0 (creelref17_Same.l0 kq l0 l1 x5_1 = some r) ∧ Aside0 (kq ≤ k) ∧ Drawn0 w w')
  case atStart => exact ⟨(0), (by first | rfl | (simp; done) | (simp [*]; done)), H', ⟨Nat.le_refl _⟩, by repeat (first | exact Drawn0.refl _ | apply Drawn0.step)⟩
  case round =>
   clear H'
   try clear c1
   try clear p2
   try clear c3
   try clear c3b0
   try clear c3b1
   try clear c3b2
   obtain ⟨x5_1, rfl, HA, HK1, ⟨m1, rfl⟩⟩ := hrel
   cases gk with
   | zero => exact absurd HA.out (by simp [creelref17_Same.l0])
   | succ k1 =>
    have H := HA.out
    clear HA
    simp only [creelref17_Same.l0] at H
    by_cases c4 : x5_1 < (l0.length : Int)
    ·rw [if_pos c4] at H
     have c4b0 : decide (x5_1 < (l0.length : Int)) = true := decide_eq_true c4
     clear c4
     by_cases c5 : 0 ≤ x5_1
     ·rw [if_pos c5] at H
      have c5b0 : decide (0 ≤ x5_1) = true := decide_eq_true c5
      clear c5
      by_cases c6 : x5_1 < (l1.length : Int)
      ·rw [if_pos c6] at H
       have c6b0 : decide (x5_1 < (l1.length : Int)) = true := decide_eq_true c6
       clear c6
       by_cases c7 : (rd l0 x5_1) = (rd l1 x5_1)
       ·rw [if_pos c7] at H
        have c7b0 : ((rd l0 x5_1) == (rd l1 x5_1)) = true := beq_iff_eq.mpr c7
        have c7b1 : ((rd l0 x5_1) != (rd l1 x5_1)) = false := bne_eq_false_iff_eq.mpr c7
        clear c7
        have H' := Aside0.mk H
        clear H
        have p281 : 0 ≤ (x5_1 : Int) := of_decide_eq_true (by first | (with_reducible assumption) | assumption)
        have q281 : x5_1 < (l0.length : Int) := of_decide_eq_true (by first | (with_reducible assumption) | assumption)
        obtain ⟨ad281, e281, hx281_0⟩ := Kd.at_int HR0.out x5_1 p281 q281
        cases e281
        replace p281 := eq_true p281
        replace q281 := eq_true q281
        have p282 : 0 ≤ (x5_1 : Int) := of_decide_eq_true (by first | (with_reducible assumption) | assumption)
        have q282 : x5_1 < (l1.length : Int) := of_decide_eq_true (by first | (with_reducible assumption) | assumption)
        obtain ⟨ad282, e282, hx282_0⟩ := Kd.at_int HR1.out x5_1 p282 q282
        cases e282
        replace p282 := eq_true p282
        replace q282 := eq_true q282
        go_wp2
        repeat (go_quiet (fail); try go_wp2)
        go_roundg k1
        case measure => have := HK1.out; omega
        case rel => exact ⟨(wrap64 (x5_1 + 1)), (by first | rfl | (simp; done) | (simp [*]; done)), H', ⟨by have := HK1.out; omega⟩, by repeat (first | exact Drawn0.refl _ | apply Drawn0.step)⟩
       ·rw [if_neg c7] at H
        have c7b0 : ((rd l0 x5_1) == (rd l1 x5_1)) = false := beq_eq_false_iff_ne.mpr c7
        have c7b1 : ((rd l0 x5_1) != (rd l1 x5_1)) = true := bne_iff_ne.mpr c7
        obtain rfl := Option.some.inj H
        have p281 : 0 ≤ (x5_1 : Int) := of_decide_eq_true (by first | (with_reducible assumption) | assumption)
        have q281 : x5_1 < (l0.length : Int) := of_decide_eq_true (by first | (with_reducible assumption) | assumption)
        obtain ⟨ad281, e281, hx281_0⟩ := Kd.at_int HR0.out x5_1 p281 q281
        cases e281
        replace p281 := eq_true p281
        replace q281 := eq_true q281
        have p282 : 0 ≤ (x5_1 : Int) := of_decide_eq_true (by first | (with_reducible assumption) | assumption)
        have q282 : x5_1 < (l1.length : Int) := of_decide_eq_true (by first | (with_reducible assumption) | assumption)
        obtain ⟨ad282, e282, hx282_0⟩ := Kd.at_int HR1.out x5_1 p282 q282
        cases e282
        replace p282 := eq_true p282
        replace q282 := eq_true q282
        go_wp2
        repeat (go_quiet (fail); try go_wp2)
        go_ret
        exact ⟨by first | rfl | (simp; done) | (simp [*]; done), by repeat (first | exact Drawn0.refl _ | apply Drawn0.step)⟩
      ·rw [if_neg c6] at H
       exact absurd H (by simp)
     ·rw [if_neg c5] at H
      exact absurd H (by simp)
    ·rw [if_neg c4] at H
     have c4b0 : decide (x5_1 < (l0.length : Int)) = false := decide_eq_false c4
     clear c4
     obtain rfl := Option.some.inj H
     go_wp2
     repeat (go_quiet (fail); try go_wp2)
     go_ret
     exact ⟨by first | rfl | (simp; done) | (simp [*]; done), by repeat (first | exact Drawn0.refl _ | apply Drawn0.step)⟩
 ·rw [if_neg c3] at H
  have c3b0 : ((l0.length : Int) == (l1.length : Int)) = false := beq_eq_false_iff_ne.mpr c3
  have c3b1 : ((l0.length : Int) != (l1.length : Int)) = true := bne_iff_ne.mpr c3
  have c3b2 : (l0.length == l1.length) = false := by first | simpa using c3 | (simp at c3 ⊢; omega)
  obtain rfl := Option.some.inj H
  go_enter Try.func16, Try.ntmps16
  go_wp2
  repeat (go_quiet (fail); try go_wp2)
  go_ret
  exact ⟨by first | rfl | (simp; done) | (simp [*]; done), by repeat (first | exact Drawn0.refl _ | apply Drawn0.step)⟩

/-! ### creellaw18_ShardOwn: function 4 -/
def creellaw18_ShardOwn.Pure : Prop := ∀ (m at_ : Nat) (l : List (List Int)), m < 2147483648 → at_ < 256 → l.length ≤ maxLen → (∀ x ∈ l, x.length ≤ maxLen ∧ ∀ y ∈ x, (Lit.int .u32 y).wf = true) → ∃ (k : Nat) (L : List (List Int)) (b : List Int), creellaw18_shown.f k = some true ∧ creellaw18_rise.f k l = some L ∧ shard_Build.f k (m : Int) L = some (b, 0) ∧ shard_Open.f k b = some (some ((m : Int), L)) ∧ L.length ≤ 60 ∧ (∀ x ∈ L, x.length ≤ 60) ∧ 0 < b.length ∧ b.length ≤ 1000000 ∧ (0 < L.length → creelref17_Same.f k (rd_L3 L ((at_ % L.length : Nat) : Int)) (rd_L3 L ((at_ % L.length : Nat) : Int)) = some true)
/-- Only one row's block may have changed. -/
def Rest (v : Value) (A B : World) : Prop := B.os = A.os ∧ B.tape = A.tape ∧ B.output = A.output ∧ B.heap.size = A.heap.size ∧ ∀ k, some k ≠ v.ownBlock → B.heap[k]? = A.heap[k]?
theorem Rest.refl (v : Value) (A : World) : Rest v A A := ⟨rfl, rfl, rfl, rfl, fun _ _ => rfl⟩
theorem Rest.set {g n c : Nat} {A B : World} (h : Rest (.slice (some ⟨g, 0, none⟩) n c) A B) (i : Nat) (u : Value) : Rest (.slice (some ⟨g, 0, none⟩) n c) A (B.setCell ⟨g, i, none⟩ u) :=
 ⟨h.1, h.2.1, h.2.2.1, by simpa using h.2.2.2.1, fun k hk => (Below.heap_setCell B ⟨g, i, none⟩ u k (fun e => hk (by rw [e]; rfl))).trans (h.2.2.2.2 k hk)⟩
theorem Rest.below {v : Value} {A B : World} (h : Rest v A B) {M : Nat} (hM : M ≤ A.heap.size) (hv : ∀ k, v.ownBlock = some k → M ≤ k) : Below M A B :=
 ⟨h.1, h.2.1, h.2.2.1, Nat.le_of_eq h.2.2.2.1.symm, fun k hk => h.2.2.2.2 k (fun e => by have := hv k e.symm; omega)⟩
theorem ShIs.rest {W W' : World} {q m : Nat} {a e : Int} {l : List (List Int)} {v : Value} (h : ShIs W q m a l e) (hr : Rest v W W') (hv : ∀ k, v.ownBlock = some k → k < m ∨ W.heap.size ≤ k) : ShIs W' q m a l e := by
 obtain ⟨h0, u, h1, h2⟩ := h
 have hq := (Array.getElem?_eq_some_iff.1 h1).1
 exact ⟨h0, u, (hr.2.2.2.2 q (fun e_ => by have := hv q e_.symm; omega)).trans h1, Kd.N_step h2 (fun k hk hlt => hr.2.2.2.2 k (fun e_ => by have := hv k e_.symm; have := hk.1; omega))⟩
theorem ShIs.lift {W W' : World} {q m : Nat} {a e : Int} {l : List (List Int)} {v : Value} {s : Nat} (h : ShIs W q m a l e) (hs : s = W.heap.size) {W1 : World} (hb : Below s W W1) (hr : Rest v W1 W') (hv : ∀ k, v.ownBlock = some k → s ≤ k) : ShIs W' q m a l e := by
 subst hs
 have h1 := h.below hb
 obtain ⟨h0, u, hq, hN⟩ := h
 have hq' := (Array.getElem?_eq_some_iff.1 hq).1
 exact ⟨h0, u, (hr.2.2.2.2 q (fun e_ => by have := hv q e_.symm; omega)).trans ((hb.block q hq').trans hq), Kd.N_step hN (fun k hk hlt => (hr.2.2.2.2 k (fun e_ => by have := hv k e_.symm; omega)).trans (hb.block k hlt))⟩
theorem nat_u8' {x : Int} (h : (Lit.int .u8 x).wf = true) : ∃ n : Nat, x = n ∧ n < 256 := by
 have e1 : IntKind.u8.min = 0 := by decide
 have e2 : IntKind.u8.max = 255 := by decide
 simp only [Lit.wf, e1, e2, Bool.and_eq_true, decide_eq_true_eq] at h
 exact ⟨x.toNat, by omega, by omega⟩
theorem nat_u32' {x : Int} (h : (Lit.int .u32 x).wf = true) : ∃ n : Nat, x = n ∧ n < 4294967296 := by
 have e1 : IntKind.u32.min = 0 := by decide
 have e2 : IntKind.u32.max = 4294967295 := by decide
 simp only [Lit.wf, e1, e2, Bool.and_eq_true, decide_eq_true_eq] at h
 exact ⟨x.toNat, by omega, by omega⟩
set_option maxHeartbeats 8000000 in
set_option maxRecDepth 100000 in
theorem creellaw18_ShardOwn.walk (P : creellaw18_ShardOwn.Pure) (a0 : Int) (a1 : Option Addr) (len1 cap1 : Nat) (l1 : List (List Int)) (a2 : Int) (w : World) (w0 : (Lit.int .u32 a0).wf = true) (w1 : Hand.IsSl (Kd.slice 31 (Kd.int .u32)) (fun x => x.length ≤ maxLen ∧ ∀ y ∈ x, (Lit.int .u32 y).wf = true) w a1 len1 cap1 l1) (w2 : (Lit.int .u8 a2).wf = true) :
  Calls Try.prog 4 #[.int .u32 a0, .slice a1 len1 cap1, .int .u8 a2] w fun e w' => e = .returned (.bool true) ∧ Below w.heap.size w w' := by
 obtain ⟨rfl, hc1, hm1, hr1, hw1⟩ := w1
 obtain ⟨x0, rfl, hx0⟩ := nat_u32' w0
 obtain ⟨at_, rfl, hat⟩ := nat_u8' w2
 obtain ⟨m, hm⟩ : ∃ m, x0 / 2 = m := ⟨_, rfl⟩
 have hm2 : m < 2147483648 := by omega
 obtain ⟨k, L, b, hs, hR, hB, hO, hL, hLx, hb0, hbl, hS⟩ := P m at_ l1 hm2 hat hm1 hw1
 have e1 : (x0 : Int) / 2 = (m : Int) := by omega
 have e1b : shr .u32 (x0 : Int) 1 = (m : Int) := by rw [← e1]; rfl
 have HV := Aside0.mk (show Kd.V (Kd.slice 31 (Kd.int .u32)) 36 w w.heap.size (fun k_ => k_ < w.heap.size) (.slice a1 l1.length cap1) l1 from Kd.V_mk hc1 (Kd.C_F (Kd.heap_slice 31 (Kd.heap_int .u32)) hr1))
 have HS := Aside0.mk hs
 have HRI := Aside0.mk hR
 have HB := Aside0.mk hB
 have HO := Aside0.mk hO
 have HSA := Aside0.mk hS
 have HLX := Aside0.mk hLx
 clear hs hR hB hO hS hLx w0 w2 hm hr1 hw1 hm1 hc1
 go_enter Try.func4, Try.ntmps4
 go_wp2_with (first | (go_at_call 9; (with_reducible refine (creellaw18_shown.calls k _ _ HS.out).mono ?_); rintro e wa ⟨rfl, hb⟩; have HBa := Aside0.mk hb; have HV2 := Aside0.mk (Kd.V_below HV.out hb); clear hb) | (go_at_call 11; (with_reducible refine (creellaw18_rise.calls k _ _ _ l1 L _ (Kd.V_mono HV2.out (fun _ h_ => h_)) HRI.out).mono ?_); rintro e wb ⟨v1, rfl, ho, hb⟩; obtain ⟨A1, c1, rfl⟩ := Kd.N_slice ho; have HL := Aside0.mk (Kd.C_F (Kd.heap_slice 31 (Kd.heap_int .u32)) (Kd.N_reads' ho).2.2); have HLC := Aside0.mk (Kd.N_reads' ho).2.1; have HBb := Aside0.mk (below_step HBa.out hb); clear ho hb) | (go_at_call 12; (with_reducible refine (shard_Build.calls k _ _ _ L _ _ _ (Kd.F_now HL.out) HLC.out HB.out).mono ?_); rintro e wc ⟨v2, rfl, ho, hb⟩; obtain ⟨Ab, cb, rfl⟩ := Kd.R_slice ho; have HR := Aside0.mk ho; have HL2 := Aside0.mk (Kd.F_below HL.out hb); have HBc := Aside0.mk (below_step HBb.out hb); clear ho hb) | (go_at_call 14; (with_reducible refine (shard_Open.calls k _ _ b _ _ (Kd.R_reads' HR.out).2.2 (Kd.R_reads' HR.out).2.1 HO.out).mono ?_); rintro e wd ⟨⟨q, rfl, hsh⟩, hb⟩; have HSH := Aside0.mk hsh; have HR2 := Aside0.mk (Kd.R_bound (Kd.R_below HR.out hb)); have HRB := Aside0.mk (Kd.R_lt HR.out); have HL3 := Aside0.mk (Kd.F_below HL2.out hb); have HBd := Aside0.mk (below_step HBc.out hb); have HBe := Aside0.mk hb; clear hb hsh))
 obtain ⟨g, cg, he, hg1, hg2, -⟩ := Kd.R_form HR2.out hb0
 injection he with he1 he2 he3
 subst he1
 have hgc : g < wc.heap.size := HRB.out g (by simp [Value.ownBlock]; done)
 have hi0 := Kd.R_mono HR2.out (fun _ _ => trivial)
 have HR3 : Aside0 (Kd.R (Kd.int .u8) 5 wd wb.heap.size (fun _ => True) (.slice (some ⟨g, 0, none⟩) b.length cb) b) := ⟨hi0⟩
 clear hi0 he2 he3
 go_loopw [50] (fun v50 wr => ∃ (i : Nat) (bs : List Int), v50 = .int .i64 i ∧ i ≤ b.length ∧ bs.length = b.length ∧ Aside0 (Kd.R (Kd.int .u8) 5 wr wb.heap.size (fun _ => True) (.slice (some ⟨g, 0, none⟩) b.length cb) bs) ∧ Aside0 (Rest (.slice (some ⟨g, 0, none⟩) b.length cb) wd wr)) (fun v50 _ => b.length - (intOf v50).toNat)
 case atStart => exact ⟨0, b, rfl, Nat.zero_le _, rfl, HR3, ⟨Rest.refl _ _⟩⟩
 case round =>
  obtain ⟨i, bs, rfl, hi, hbs, HR4, HRE⟩ := hrel
  by_cases hlt : i < b.length
  ·obtain ⟨hc, hf⟩ := Kd.R_celln (0 : Int) HR4.out (i : Int) (by omega) (by omega)
   rw [Int.toNat_natCast] at hc hf
   obtain ⟨z, hz⟩ : ∃ z, rdOf (0 : Int) bs (i : Int) = z := ⟨_, rfl⟩
   rw [hz] at hc
   have hi1 : (0 : Int) ≤ (i : Int) := by omega
   have hi2 : (i : Int) < (b.length : Int) := by omega
   go_wp2
   go_roundw
   case rel => exact ⟨i + 1, bs.set i (Go.bits .xor .u8 z 85), by go_num, by omega, by rw [List.length_set]; exact hbs, ⟨by have h_ := Kd.R_putn HR4.out (i : Int) (Go.bits .xor .u8 z 85); rw [Int.toNat_natCast] at h_; exact h_⟩, ⟨HRE.out.set i _⟩⟩
   case measure => simp [intOf]; omega
  ·have hgv : ∀ k_, (Value.slice (some ⟨g, 0, none⟩) b.length cb).ownBlock = some k_ → k_ = g := fun k_ h_ => by
    have h2 : some g = some k_ := h_
    injection h2 with h2
    exact h2.symm
   have hwb : w.heap.size ≤ wb.heap.size := HBb.out.size
   have hwd : wb.heap.size ≤ wd.heap.size := by have := HBe.out.size; omega
   have HB2 : Aside0 (Below w.heap.size w wr) := ⟨HBd.out.trans (HRE.out.below (by omega) (fun k_ h_ => by have := hgv k_ h_; omega))⟩
   have HSH2 := Aside0.mk (ShIs.rest HSH.out HRE.out (fun k_ h_ => .inl (by have := hgv k_ h_; omega)))
   have HL4 := Aside0.mk (Kd.F_step HL3.out (fun k_ hk hlt_ => HRE.out.2.2.2.2 k_ (fun e_ => by have := hgv k_ e_.symm; omega)))
   clear hgv
   by_cases hl0 : L.length = 0
   ·have d0 : ((L.length : Int) == 0) = true := beq_iff_eq.mpr (by omega)
    have HL0 := Aside0.mk hl0
    clear hl0
    go_wp2
    go_ret
    exact ⟨rfl, HB2.out⟩
   ·have d0 : ((L.length : Int) == 0) = false := beq_eq_false_iff_ne.mpr (by omega)
    obtain ⟨v, hv⟩ : ∃ v, at_ % L.length = v := ⟨_, rfl⟩
    have hvl : v < L.length := by rw [← hv]; exact Nat.mod_lt _ (by omega)
    have hve : (at_ : Int) % (L.length : Int) = (v : Int) := by rw [← hv, Int.natCast_emod]
    have hsame := HSA.out (by omega)
    rw [hv] at hsame
    obtain ⟨x, hx⟩ : ∃ x, rd_L3 L (v : Int) = x := ⟨_, rfl⟩
    rw [hx] at hsame
    have hxl : x.length ≤ 60 := by
     refine HLX.out x ?_
     have : rd_L3 L (v : Int) = L[v] := by simp [rd_L3, hvl]
     rw [← hx, this]; exact List.getElem_mem _
    have hsn : shNext (some ((m : Int), L)) ((m : Int) + (v : Int)) = (x, true) := by
     unfold shNext
     rw [if_neg (by show ¬ ((m : Int) + (v : Int) < (m : Int) ∨ (m : Int) + (L.length : Int) ≤ (m : Int) + (v : Int)); omega)]
     show (rd_L3 L ((m : Int) + (v : Int) - (m : Int)), true) = _
     rw [show (m : Int) + (v : Int) - (m : Int) = (v : Int) by omega, hx]
    have hN := fun (W : World) (h_ : ShIs W q wc.heap.size m L (sumLen L : Nat)) => sh_Next (.pointer (some ⟨q, 0, none⟩)) wc.heap.size (some ((m : Int), L)) ((m : Int) + (v : Int)) W ⟨q, rfl, h_⟩ ⟨by show (0 : Int) ≤ (m : Int); omega, by show (m : Int) ≤ 4294967296; omega, by show L.length ≤ 1000000; omega⟩ ⟨by omega, by omega⟩ (by rw [hsn]; show x.length < 1000000000; omega)
    simp only [hsn] at hN
    have HN := Aside0.mk hN
    have HSM := Aside0.mk hsame
    have HHX := Aside0.mk hx
    have n0 : (0 : Int) ≤ (v : Int) := by omega
    have n1 : (v : Int) < (L.length : Int) := by omega
    have HL0 := Aside0.mk hl0
    have l1_ : (L.length : Int) ≠ 0 := by omega
    clear hN hsame hsn hx hv hl0
    go_wp2_with (first | (go_at_call 15; (with_reducible refine (HN.out _ HSH2.out).mono ?_); rintro e we ⟨v3, rfl, ho, hb⟩; obtain ⟨Ax, cx, rfl⟩ := Kd.R_slice ho; have HX := Aside0.mk ho; have HBx := Aside0.mk hb; clear ho hb))
    obtain ⟨wX, rfl⟩ : ∃ z, z = wr := ⟨_, rfl⟩
    have HRO : Aside0 (wb.heap.size ≤ wX.heap.size) := ⟨by have := HRE.out.2.2.2.1; omega⟩
    go_loopw [79] (fun v79 wq => ∃ (i : Nat) (xs : List Int), v79 = .int .i64 i ∧ i ≤ x.length ∧ xs.length = x.length ∧ Aside0 (Kd.R (Kd.int .u32) 31 wq wX.heap.size (fun _ => True) (.slice Ax x.length cx) xs) ∧ Aside0 (Rest (.slice Ax x.length cx) we wq)) (fun v79 _ => x.length - (intOf v79).toNat)
    case atStart => exact ⟨0, x, rfl, Nat.zero_le _, rfl, HX, ⟨Rest.refl _ _⟩⟩
    case round =>
     obtain ⟨j, xs, rfl, hj, hxs, HX2, HRX⟩ := hrel
     by_cases hlt2 : j < x.length
     ·obtain ⟨g2, cg2, he2, -, -, -⟩ := Kd.R_form HX2.out (by omega)
      injection he2 with he2 he3 he4
      subst he2
      obtain ⟨hc2, hf2⟩ := Kd.R_celln (0 : Int) HX2.out (j : Int) (by omega) (by omega)
      rw [Int.toNat_natCast] at hc2 hf2
      obtain ⟨z, hz⟩ : ∃ z, rdOf (0 : Int) xs (j : Int) = z := ⟨_, rfl⟩
      rw [hz] at hc2
      have hj1 : (0 : Int) ≤ (j : Int) := by omega
      have hj2 : (j : Int) < (x.length : Int) := by omega
      clear he3 he4
      go_wp2
      go_roundw
      case rel => exact ⟨j + 1, xs.set j ((z + 1) % 4294967296), by go_num, by omega, by rw [List.length_set]; exact hxs, ⟨by have h_ := Kd.R_putn HX2.out (j : Int) ((z + 1) % 4294967296); rw [Int.toNat_natCast] at h_; exact h_⟩, ⟨HRX.out.set j _⟩⟩
      case measure => simp [intOf]; omega
     ·have hown : ∀ k_, (Value.slice Ax x.length cx).ownBlock = some k_ → wX.heap.size ≤ k_ := fun k_ h_ => Kd.R_base HX.out k_ h_
      have hsz := HBx.out.size
      have HB3 : Aside0 (Below w.heap.size w wr) := ⟨(HB2.out.trans (HBx.out.mono HB2.out.size)).trans (HRX.out.below (by have := HB2.out.size; omega) (fun k_ h_ => by have := hown k_ h_; have := HB2.out.size; omega))⟩
      have HSH3 := Aside0.mk (ShIs.lift HSH2.out rfl HBx.out HRX.out hown)
      have HL5 := Aside0.mk (Kd.F_step (Kd.F_below HL4.out HBx.out) (fun k_ hk hlt_ => HRX.out.2.2.2.2 k_ (fun e_ => by have := hown k_ e_.symm; have := HRO.out; omega)))
      clear hown hsz
      go_wp2_with (first | (go_at_call 15; (with_reducible refine (HN.out _ HSH3.out).mono ?_); rintro e wf ⟨v4, rfl, ho, hb⟩; obtain ⟨Ay, cy, rfl⟩ := Kd.R_slice ho; have HY := Aside0.mk ho; have HB4 := Aside0.mk (below_step HB3.out hb); have HL6 := Aside0.mk (Kd.F_below HL5.out hb); clear ho hb; obtain ⟨ad, Ai, ci, e5, hcell, hci, hCi⟩ := at_L3 (Kd.F_now HL6.out) (v : Int) n0 n1; rw [Int.toNat_natCast, HHX.out] at hcell; rw [HHX.out] at hci hCi; cases e5; have HCI := Aside0.mk hci; have HCC := Aside0.mk hCi; clear hci hCi) | (go_at_call 16; (with_reducible refine (creelref17_Same.calls k _ _ x _ _ x true _ (Kd.R_reads' HY.out).2.2 (Kd.R_reads' HY.out).2.1 HCC.out HCI.out HSM.out).mono ?_); rintro e wg ⟨rfl, hd⟩; have HB5 := Aside0.mk (below_step HB4.out hd.below); clear hd))
      go_ret
      exact ⟨rfl, HB5.out⟩

/-! ### creellaw18_ShardBack: function 7 -/
def creellaw18_ShardBack.Pure : Prop := ∀ (m at_ : Nat) (l : List (List Int)), m < 2147483648 → at_ < 65536 → l.length ≤ maxLen → (∀ x ∈ l, x.length ≤ maxLen ∧ ∀ y ∈ x, (Lit.int .u32 y).wf = true) → ∃ (k : Nat) (L : List (List Int)) (b : List Int), creellaw18_shown.f k = some true ∧ creellaw18_rise.f k l = some L ∧ shard_Build.f k (m : Int) L = some (b, 0) ∧ shard_Open.f k b = some (some ((m : Int), L)) ∧ L.length ≤ 60 ∧ (∀ x ∈ L, x.length ≤ 60) ∧ 0 < b.length ∧ b.length ≤ 1000000 ∧ (∀ x ∈ L, creelref17_Same.f k x x = some true) ∧ (∀ i : Nat, i < L.length → ∀ t ∈ rd_L3 L (i : Int), shHas k (some ((m : Int), L)) ((m : Int) + (i : Int)) t = some true) ∧ shard_Open.f k (b.take (at_ % b.length)) = some none
theorem nat_u16' {x : Int} (h : (Lit.int .u16 x).wf = true) : ∃ n : Nat, x = n ∧ n < 65536 := by
 have e1 : IntKind.u16.min = 0 := by decide
 have e2 : IntKind.u16.max = 65535 := by decide
 simp only [Lit.wf, e1, e2, Bool.and_eq_true, decide_eq_true_eq] at h
 exact ⟨x.toNat, by omega, by omega⟩
theorem nat_u32b {x : Int} (h : (Lit.int .u32 x).wf = true) : ∃ n : Nat, x = n ∧ n < 4294967296 := by
 have e1 : IntKind.u32.min = 0 := by decide
 have e2 : IntKind.u32.max = 4294967295 := by decide
 simp only [Lit.wf, e1, e2, Bool.and_eq_true, decide_eq_true_eq] at h
 exact ⟨x.toNat, by omega, by omega⟩
theorem shNext_out (m : Int) (L : List (List Int)) (v : Int) (h : v < m ∨ m + L.length ≤ v) : shNext (some (m, L)) v = ([], false) := by
 unfold shNext
 exact if_pos h
theorem shNext_in (m : Int) (L : List (List Int)) (i : Nat) (h : i < L.length) : shNext (some (m, L)) (m + (i : Int)) = (rd_L3 L (i : Int), true) := by
 unfold shNext
 rw [if_neg (by show ¬ (m + (i : Int) < m ∨ m + (L.length : Int) ≤ m + (i : Int)); omega)]
 show (rd_L3 L (m + (i : Int) - m), true) = _
 rw [show m + (i : Int) - m = (i : Int) by omega]
theorem rdL_in {L : List (List Int)} {i : Nat} (h : i < L.length) : rd_L3 L (i : Int) ∈ L := by
 have : rd_L3 L (i : Int) = L[i] := by simp [rd_L3, h]
 rw [this]; exact List.getElem_mem _
theorem sumLen_next {L : List (List Int)} {i : Nat} (h : i < L.length) : sumLen (L.take (i + 1)) = sumLen (L.take i) + (rd_L3 L (i : Int)).length := by
 rw [List.take_succ_eq_append_getElem h, sumLen_snoc]
 congr 2
 simp [rd_L3, h]
theorem sumLen_small (L : List (List Int)) (h : ∀ x ∈ L, x.length ≤ 60) : sumLen L ≤ 60 * L.length := by
 induction L with
 | nil => exact Nat.zero_le _
 | cons x L ih =>
  have h1 := h x (by simp)
  have h2 := ih (fun y hy => h y (by simp [hy]))
  have h3 : sumLen (x :: L) = x.length + sumLen L := by simp [sumLen]
  rw [h3, List.length_cons]
  omega
set_option maxHeartbeats 8000000 in
set_option maxRecDepth 100000 in
theorem creellaw18_ShardBack.walk (P : creellaw18_ShardBack.Pure) (a0 : Int) (a1 : Option Addr) (len1 cap1 : Nat) (l1 : List (List Int)) (a2 : Int) (w : World) (w0 : (Lit.int .u32 a0).wf = true) (w1 : Hand.IsSl (Kd.slice 31 (Kd.int .u32)) (fun x => x.length ≤ maxLen ∧ ∀ y ∈ x, (Lit.int .u32 y).wf = true) w a1 len1 cap1 l1) (w2 : (Lit.int .u16 a2).wf = true) :
  Calls Try.prog 7 #[.int .u32 a0, .slice a1 len1 cap1, .int .u16 a2] w fun e w' => e = .returned (.bool true) ∧ Below w.heap.size w w' := by
 obtain ⟨rfl, hc1, hm1, hr1, hw1⟩ := w1
 obtain ⟨x0, rfl, hx0⟩ := nat_u32b w0
 obtain ⟨at_, rfl, hat⟩ := nat_u16' w2
 obtain ⟨m, hm⟩ : ∃ m, x0 / 2 = m := ⟨_, rfl⟩
 have hm2 : m < 2147483648 := by omega
 obtain ⟨k, L, b, hs, hR, hB, hO, hL, hLx, hb0, hbl, hS, hH, hO2⟩ := P m at_ l1 hm2 hat hm1 hw1
 have e1 : (x0 : Int) / 2 = (m : Int) := by omega
 have e1b : shr .u32 (x0 : Int) 1 = (m : Int) := by rw [← e1]; rfl
 obtain ⟨p, hp⟩ : ∃ p, b.take (at_ % b.length) = p := ⟨_, rfl⟩
 have hpl : p.length = at_ % b.length := by rw [← hp, List.length_take]; have := Nat.mod_lt at_ hb0; omega
 have hpb : p.length ≤ b.length := by rw [hpl]; exact Nat.le_of_lt (Nat.mod_lt _ hb0)
 have e3 : (at_ : Int) % (b.length : Int) = (p.length : Int) := by rw [hpl, Int.natCast_emod]
 rw [hp] at hO2
 rw [← hpl] at hp
 have hsum := sumLen_small L hLx
 have HV := Aside0.mk (show Kd.V (Kd.slice 31 (Kd.int .u32)) 36 w w.heap.size (fun k_ => k_ < w.heap.size) (.slice a1 l1.length cap1) l1 from Kd.V_mk hc1 (Kd.C_F (Kd.heap_slice 31 (Kd.heap_int .u32)) hr1))
 have hfit : ShFit (some ((m : Int), L)) := ⟨by show (0 : Int) ≤ (m : Int); omega, by show (m : Int) ≤ 4294967296; omega, by show L.length ≤ 1000000; omega⟩
 have hN1 := fun (q s : Nat) (W : World) (h_ : ShIs W q s m L (sumLen L : Nat)) => sh_Next (.pointer (some ⟨q, 0, none⟩)) s (some ((m : Int), L)) ((m : Int) - 1) W ⟨q, rfl, h_⟩ hfit ⟨by omega, by omega⟩ (by rw [shNext_out _ _ _ (.inl (by omega))]; decide)
 simp only [shNext_out (m : Int) L ((m : Int) - 1) (.inl (by omega))] at hN1
 have hN2 := fun (q s : Nat) (W : World) (h_ : ShIs W q s m L (sumLen L : Nat)) => sh_Next (.pointer (some ⟨q, 0, none⟩)) s (some ((m : Int), L)) ((m : Int) + (L.length : Int)) W ⟨q, rfl, h_⟩ hfit ⟨by omega, by omega⟩ (by rw [shNext_out _ _ _ (.inr (by omega))]; decide)
 simp only [shNext_out (m : Int) L ((m : Int) + (L.length : Int)) (.inr (by omega))] at hN2
 have HS := Aside0.mk hs
 have HRI := Aside0.mk hR
 have HB := Aside0.mk hB
 have HO := Aside0.mk hO
 have HO2 := Aside0.mk hO2
 have HSA := Aside0.mk hS
 have HHA := Aside0.mk hH
 have HLX := Aside0.mk hLx
 have HP := Aside0.mk hp
 have HPL := Aside0.mk hpl
 have HFIT := Aside0.mk hfit
 have HN1 := Aside0.mk hN1
 have HN2 := Aside0.mk hN2
 clear hs hR hB hO hS hH hO2 hLx w0 w2 hm hr1 hw1 hm1 hc1 hp hpl hfit hN1 hN2
 have bz : ((b.length : Int) == 0) = false := beq_eq_false_iff_ne.mpr (by omega)
 have bz2 : (b.length : Int) ≠ 0 := by omega
 go_enter Try.func7, Try.ntmps7
 go_wp2_with (first | (go_at_call 9; (with_reducible refine (creellaw18_shown.calls k _ _ HS.out).mono ?_); rintro e wa ⟨rfl, hb⟩; have HBa := Aside0.mk hb; have HV2 := Aside0.mk (Kd.V_below HV.out hb); clear hb) | (go_at_call 11; (with_reducible refine (creellaw18_rise.calls k _ _ _ l1 L _ (Kd.V_mono HV2.out (fun _ h_ => h_)) HRI.out).mono ?_); rintro e wb ⟨v1, rfl, ho, hb⟩; obtain ⟨A1, c1, rfl⟩ := Kd.N_slice ho; have HL := Aside0.mk (Kd.C_F (Kd.heap_slice 31 (Kd.heap_int .u32)) (Kd.N_reads' ho).2.2); have HLC := Aside0.mk (Kd.N_reads' ho).2.1; have HBb := Aside0.mk (below_step HBa.out hb); clear ho hb) | (go_at_call 12; (with_reducible refine (shard_Build.calls k _ _ _ L _ _ _ (Kd.F_now HL.out) HLC.out HB.out).mono ?_); rintro e wc ⟨v2, rfl, ho, hb⟩; obtain ⟨Ab, cb, rfl⟩ := Kd.R_slice ho; have HR := Aside0.mk ho; have HL2 := Aside0.mk (Kd.F_below HL.out hb); have HBc := Aside0.mk (below_step HBb.out hb); clear ho hb) | (go_at_call 14; (with_reducible refine (shard_Open.calls k _ _ b _ _ (Kd.R_reads' HR.out).2.2 (Kd.R_reads' HR.out).2.1 HO.out).mono ?_); rintro e wd ⟨⟨q, rfl, hsh⟩, hb⟩; have HSH := Aside0.mk hsh; have HR2 := Aside0.mk (Kd.R_bound (Kd.R_below HR.out hb)); have HRB := Aside0.mk (Kd.R_lt HR.out); have HL3 := Aside0.mk (Kd.F_below HL2.out hb); have HBd := Aside0.mk (below_step HBc.out hb); have HBe := Aside0.mk hb; have HPT : Aside0 (ShPtr wd (.pointer (some ⟨q, 0, none⟩)) wc.heap.size (some ((m : Int), L))) := ⟨⟨q, rfl, hsh⟩⟩; clear hb hsh) | (go_at_call 20; (with_reducible refine (sh_From _ _ _ _ HPT.out).mono ?_); rintro e we ⟨rfl, h_⟩; cases h_; rw [show shFrom (some ((m : Int), L)) = (m : Int) from rfl]) | (go_at_call 17; (with_reducible refine (sh_Len _ _ _ _ HPT.out).mono ?_); rintro e we ⟨rfl, h_⟩; cases h_; rw [show shLen (some ((m : Int), L)) = L.length from rfl]))
 have hq1 := (Kd.R_reads' HR2.out).2.1
 obtain ⟨n2, hn2, hn2c, hcut, hFp⟩ := Hand.cut_take (P := Try.prog) 26 .i64 Try.underlying26 (by kernel_rfl) (Kd.F_bound (Kd.R_F HR2.out)) hq1 p.length hpb
 rw [HP.out] at hn2 hFp
 subst hn2
 have HFP := Aside0.mk hFp
 have HNC := Aside0.mk hn2c
 clear hFp hn2c hq1
 go_loopw [14, 69] (fun v14 v69 wr => ∃ (i : Nat), v69 = .int .i64 i ∧ i ≤ L.length ∧ v14 = .int .i64 (sumLen (L.take i) : Nat) ∧ Aside0 (Below wd.heap.size wd wr)) (fun _ v69 _ => L.length - (intOf v69).toNat)
 case atStart => exact ⟨0, rfl, Nat.zero_le _, rfl, ⟨Below.refl _ _⟩⟩
 case round =>
  obtain ⟨i, rfl, hi, rfl, HBR⟩ := hrel
  obtain ⟨wS, rfl⟩ : ∃ z, z = wr := ⟨_, rfl⟩
  by_cases hlt : i < L.length
  ·obtain ⟨ad, Ai, ci, e5, hcell, hci, hCi⟩ := at_L3 (Kd.F_now (Kd.F_below HL3.out HBR.out)) (i : Int) (by omega) (by omega)
   obtain ⟨x, hx⟩ : ∃ x, rd_L3 L (i : Int) = x := ⟨_, rfl⟩
   have hxm : x ∈ L := by rw [← hx]; exact rdL_in hlt
   have hxl := HLX.out x hxm
   have hsame := HSA.out x hxm
   have hhas := HHA.out i hlt
   have hnx := sumLen_next hlt
   have hsn := shNext_in (m : Int) L i hlt
   have hsl : sumLen (L.take i) ≤ 60 * L.length := by
    have h2 := sumLen_small (L.take i) (fun y hy => HLX.out y (List.mem_of_mem_take hy))
    rw [List.length_take] at h2
    omega
   rw [hx] at hcell hci hCi hhas hnx hsn
   rw [Int.toNat_natCast] at hcell
   cases e5
   have hN := fun (W : World) (h_ : ShIs W q wc.heap.size m L (sumLen L : Nat)) => sh_Next (.pointer (some ⟨q, 0, none⟩)) wc.heap.size (some ((m : Int), L)) ((m : Int) + (i : Int)) W ⟨q, rfl, h_⟩ HFIT.out ⟨by omega, by omega⟩ (by rw [hsn]; show x.length < 1000000000; omega)
   simp only [hsn] at hN
   have HN := Aside0.mk hN
   have HSM := Aside0.mk hsame
   have HHS := Aside0.mk hhas
   have HSN := Aside0.mk hsn
   have HNX := Aside0.mk hnx
   have HCI := Aside0.mk hci
   have HFI := Aside0.mk (Kd.C_F (Kd.heap_int .u32) hCi)
   have HSH2 := Aside0.mk (HSH.out.below HBR.out)
   have n0 : (0 : Int) ≤ (i : Int) := by omega
   have n1 : (i : Int) < (L.length : Int) := by omega
   clear hN hsame hhas hsn hnx hci hCi hx hxm
   go_wp2_with (first | (go_at_call 15; (with_reducible refine (HN.out _ HSH2.out).mono ?_); rintro e we ⟨v3, rfl, ho, hb⟩; obtain ⟨Ax, cx, rfl⟩ := Kd.R_slice ho; have HX := Aside0.mk ho; have HBx := Aside0.mk hb; have HFI2 := Aside0.mk (Kd.F_below HFI.out hb); clear ho hb) | (go_at_call 16; (with_reducible refine (creelref17_Same.calls k _ _ x _ _ x true _ (Kd.F_now HFI2.out) HCI.out (Kd.R_reads' HX.out).2.2 (Kd.R_reads' HX.out).2.1 HSM.out).mono ?_); rintro e wg ⟨rfl, hd⟩; have HBg := Aside0.mk (below_step HBx.out hd.below); have HFI3 := Aside0.mk (Kd.F_below HFI2.out hd.below); clear hd))
   have HSH3 := Aside0.mk (HSH2.out.below HBg.out)
   obtain ⟨wG, hwG⟩ : ∃ z, z = wg := ⟨_, rfl⟩
   subst hwG
   go_loopw [92] (fun v92 wq => ∃ (j : Nat), v92 = .int .i64 j ∧ j ≤ x.length ∧ Aside0 (Below wG.heap.size wG wq)) (fun v92 _ => x.length - (intOf v92).toNat)
   case atStart => exact ⟨0, rfl, Nat.zero_le _, ⟨Below.refl _ _⟩⟩
   case round =>
    obtain ⟨j, rfl, hj, HBJ⟩ := hrel
    by_cases hlt2 : j < x.length
    ·obtain ⟨ad2, e6, hce2⟩ := Kd.at_int (Kd.F_now (Kd.F_below HFI3.out HBJ.out)) (j : Int) (by omega) (by omega)
     obtain ⟨t, ht⟩ : ∃ t, rd x (j : Int) = t := ⟨_, rfl⟩
     have htm : t ∈ x := by
      have h_ : rd x (j : Int) = x[j] := by simp [rd, hlt2]
      rw [← ht, h_]; exact List.getElem_mem _
     rw [ht, Int.toNat_natCast] at hce2
     subst e6
     have hhs := HHS.out t htm
     have hhc := sh_Has k (.pointer (some ⟨q, 0, none⟩)) wc.heap.size (some ((m : Int), L)) ((m : Int) + (i : Int)) t true wr ⟨q, rfl, HSH3.out.below HBJ.out⟩ HFIT.out ⟨by omega, by omega⟩ (by rw [HSN.out]; show x.length < 1000000000; omega) hhs
     have HHC := Aside0.mk hhc
     have j0 : (0 : Int) ≤ (j : Int) := by omega
     have j1 : (j : Int) < (x.length : Int) := by omega
     clear hhs hhc ht htm
     go_wp2_with (first | (go_at_call 23; (with_reducible refine (HHC.out).mono ?_); rintro e wh ⟨rfl, hb⟩; have HBK := Aside0.mk (below_step HBJ.out hb); clear hb))
     go_roundw
     case rel => exact ⟨j + 1, by go_num, by omega, HBK⟩
     case measure => simp [intOf]; omega
    ·have HBZ := Aside0.mk (HBR.out.trans (((HBg.out.trans (HBJ.out.mono HBg.out.size))).mono HBR.out.size))
     go_wp2
     go_roundw
     case rel => exact ⟨i + 1, by go_num, by omega, by rw [HNX.out, Int.natCast_add], HBZ⟩
     case measure => simp [intOf]; omega
  ·obtain rfl : i = L.length := by omega
   have hst : sumLen (L.take L.length) = sumLen L := by rw [List.take_length]
   rw [hst]
   have HSH2 := Aside0.mk (HSH.out.below HBR.out)
   have HFP2 := Aside0.mk (Kd.F_below HFP.out HBR.out)
   clear hst
   go_wp2_with (first | (go_at_call 15; (with_reducible refine (HN1.out _ _ _ HSH2.out).mono ?_); rintro e we ⟨v3, rfl, ho, hb⟩; obtain ⟨Ax, cx, rfl⟩ := Kd.R_slice ho; have HBx := Aside0.mk hb; have HSH3 := Aside0.mk (HSH2.out.below hb); have HFP3 := Aside0.mk (Kd.F_below HFP2.out hb); clear ho hb) | (go_at_call 15; (with_reducible refine (HN2.out _ _ _ HSH3.out).mono ?_); rintro e wf ⟨v4, rfl, ho, hb⟩; obtain ⟨Ay, cy, rfl⟩ := Kd.R_slice ho; have HBy := Aside0.mk (below_step HBx.out hb); have HSH4 := Aside0.mk (HSH3.out.below hb); have HFP4 := Aside0.mk (Kd.F_below HFP3.out hb); clear ho hb) | (go_at_call 14; (with_reducible refine (shard_Open.calls k _ _ p _ _ (Kd.F_now HFP4.out) HNC.out HO2.out).mono ?_); rintro e wg ⟨h_, hb⟩; replace h_ : e = .returned (.tuple #[.pointer none, .int .i64 6]) := h_; subst h_; have HBz := Aside0.mk (below_step HBy.out hb); have HP5 : Aside0 (ShPtr wg (.pointer (some ⟨q, 0, none⟩)) wc.heap.size (some ((m : Int), L))) := ⟨⟨q, rfl, HSH4.out.below hb⟩⟩; clear hb) | (go_at_call 18; (with_reducible refine (sh_Edges _ _ _ _ HP5.out).mono ?_); rintro e wh ⟨rfl, h_⟩; cases h_; rw [show shEdges (some ((m : Int), L)) = sumLen L from rfl]))
   go_ret
   exact ⟨rfl, HBd.out.trans ((HBR.out.trans (HBz.out.mono HBR.out.size)).mono HBd.out.size)⟩

end Go.Proofs.Ytnkjbgoibmbmoaa.Print
