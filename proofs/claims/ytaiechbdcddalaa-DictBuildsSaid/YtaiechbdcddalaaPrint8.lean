/- Words of the print, of which only those stand here that this claim names. -/
-- Written by a program of this session (wip/cprint.py), which calls the kit's print and adds contracts proved by hand.
import Derived.Test.YtaiechbdcddalaaPrint0
import Derived.Test.YtaiechbdcddalaaPrint1
import Derived.Test.YtaiechbdcddalaaPrint7
namespace Go.Proofs.Ytaiechbdcddalaa.Print
open Go.RowKit Go.Proofs.YtaiechbdcddalaaW.PrintWords Go.Proofs.YtaiechbdcddalaaW.PrintLast Go.Proofs.YtaiechbdcddalaaW.PrintMore
attribute [local go_sem] max2_int min2_int max_two min_two max_three min_three max_four min_four   -- for this text's walks alone
set_option linter.unusedVariables false
set_option linter.unusedSimpArgs false

/-! ### creellaw16_list: function 17 -/
def TypB (M : Nat) (W : World) (k : Nat) : Prop := M ≤ k ∧ ∃ C fr, W.heap[k]? = some (.cells C 5 fr)
theorem TypB.keep {M : Nat} {A B : World} (hb : ∀ k, M ≤ k → (∃ C fr, A.heap[k]? = some (.cells C 5 fr)) → B.heap[k]? = A.heap[k]?) {k : Nat} (h : TypB M A k) : TypB M B k := by
 obtain ⟨h1, C, fr, h2⟩ := h
 exact ⟨h1, C, fr, (hb k h1 ⟨C, fr, h2⟩).trans h2⟩
/-- A Dict stands as long as the blocks that were there do. -/
theorem DPtr.keep {W W' : World} {p : Value} {m : Nat} {s : Option Dct} (h : DPtr W p m s) (hk : ∀ k, k < W.heap.size → W'.heap[k]? = W.heap[k]?) : DPtr W' p m s := by
 cases s with
 | none => exact h
 | some B =>
  obtain ⟨q, h0, h1, v, h2, h3⟩ := h
  exact ⟨q, h0, h1, v, (hk _ (Array.getElem?_eq_some_iff.1 h2).1).trans h2, Kd.N_step h3 (fun k _ hlt => hk k hlt)⟩
/-- Between two labels: what came stands in the box of 'out'. -/
def InvD (w : World) (most : Int) (pre : List (Nat × Option Addr × Nat × List Int)) (A : World) : Prop :=
 Below w.heap.size w A ∧ A.heap[w.heap.size]? = some (.cells #[.int .i64 most] 3) ∧ A.heap[w.heap.size + 1]? = some (.cells #[.slice none 0 0] 22) ∧ A.heap[w.heap.size + 2]? = some (.cells #[.bool false] 4) ∧
  ∃ v, A.heap[w.heap.size + 3]? = some (.cells #[v] 22) ∧ Kd.N (Kd.slice 5 (Kd.int .u8)) 26 A (w.heap.size + 7) (fun k => w.heap.size + 7 ≤ k) v (pre.map (·.2.2.2))
theorem InvD.keep {w : World} {most : Int} {pre : List (Nat × Option Addr × Nat × List Int)} {A B : World} (h : InvD w most pre A) (hs : A.heap.size ≤ B.heap.size) (hk : ∀ k, k < A.heap.size → (k < w.heap.size + 5 ∨ w.heap.size + 7 ≤ k) → B.heap[k]? = A.heap[k]?)
  (ho : B.os = A.os) (ht : B.tape = A.tape) (hu : B.output = A.output) : InvD w most pre B := by
 obtain ⟨hB, h0, h1, h2, v, h3, hN⟩ := h
 have lt : ∀ {k : Nat} {o : Obj}, A.heap[k]? = some o → k < A.heap.size := fun h => (Array.getElem?_eq_some_iff.1 h).1
 have hsz := hB.size
 exact ⟨⟨ho.trans hB.os, ht.trans hB.tape, hu.trans hB.output, Nat.le_trans hB.size hs, fun k hlt => (hk k (by omega) (.inl (by omega))).trans (hB.block k hlt)⟩,
  (hk _ (lt h0) (.inl (by omega))).trans h0, (hk _ (lt h1) (.inl (by omega))).trans h1, (hk _ (lt h2) (.inl (by omega))).trans h2, v, (hk _ (lt h3) (.inl (by omega))).trans h3, Kd.N_step hN (fun k hk' hlt => hk k hlt (.inr hk'))⟩
/-! ### dict_Dict_Label: function 20 -/

/-! ### creellaw16_DictNil: function 7 -/
/-! ### creellaw16_few: function 10 -/
def creellaw16_few.l0 : Nat → List (List Int) → List (List Int) → Int → Int → Option ((List (List Int)))
 | 0, _, _, _, _ => none
 | k + 1, x3, x6, x7, x8 => if x8 < x7 then (if 0 ≤ x8 then (if x8 < (x6.length : Int) then (if x8 < 100 then (if ((rd_L1 x6 x8).length : Int) ≤ 40 then (if x3.length < 5864062014805 then (creellaw16_few.l0 k (x3 ++ [rd_L1 x6 x8]) x6 x7 (wrap64 (x8 + 1))) else (none)) else (creellaw16_few.l0 k x3 x6 x7 (wrap64 (x8 + 1)))) else (creellaw16_few.l0 k x3 x6 x7 (wrap64 (x8 + 1)))) else (none)) else (none)) else (some x3)
def creellaw16_few.f (k : Nat) (l0 : List (List Int)) : Option ((List (List Int))) := creellaw16_few.l0 k ([] : List (List Int)) l0 (l0.length : Int) 0
set_option maxHeartbeats 8000000 in
set_option maxRecDepth 100000 in
theorem creellaw16_few.calls (k : Nat) (P0_ : Nat → Prop) (A0 : Option Addr) (c0 : Nat) (l0 : List (List Int)) (r : List (List Int)) (w : World) (hs0 : Kd.V (Kd.slice 5 (Kd.int .u8)) 26 w w.heap.size (fun k_ => P0_ k_) (.slice A0 l0.length c0) l0) (h : creellaw16_few.f k l0 = some r) :
  Calls Try.prog 10 #[.slice A0 l0.length c0] w fun e w' => ∃ v0_ : Value, e = .returned (v0_) ∧ Kd.N (Kd.slice 5 (Kd.int .u8)) 26 w' w.heap.size (fun k_ => (P0_ k_ ∨ w.heap.size ≤ k_)) v0_ r ∧ Below w.heap.size w w' := by
 have HO0 := Aside0.mk (show Kd.V (Kd.slice 5 (Kd.int .u8)) 26 w w.heap.size (fun k_ => (P0_ k_ ∨ w.heap.size ≤ k_)) (.slice A0 l0.length c0) l0 from Kd.V_mono hs0 (fun k_ hk => .inl hk))
 have HB := Aside0.mk (Below.refl w.heap.size w)
 have H : (creellaw16_few.l0 k ([] : List (List Int)) l0 (l0.length : Int) 0) = some r := h
 clear h
 have H' := Aside0.mk H
 clear H
 go_enter Try.func10, Try.ntmps10
 go_wp2
 go_loopg [3, 8] k (fun kq v3 v8 w' => ∃ (x3_1 : List (List Int)) (x8_1 : Int), v8 = .int .i64 x8_1 ∧ Aside0 (creellaw16_few.l0 kq x3_1 l0 (l0.length : Int) x8_1 = some r) ∧ Aside0 (kq ≤ k) ∧ Aside0 (Kd.N (Kd.slice 5 (Kd.int .u8)) 26 w' w.heap.size (fun k_ => (P0_ k_ ∨ w.heap.size ≤ k_)) v3 x3_1) ∧ Aside0 (Kd.V (Kd.slice 5 (Kd.int .u8)) 26 w' w.heap.size (fun k_ => (P0_ k_ ∨ w.heap.size ≤ k_) ∧ some k_ ≠ (v3 : Value).ownBlock) (.slice A0 l0.length c0) l0) ∧ Aside0 (Below w.heap.size w w'))
 case atStart => exact ⟨(([] : List (List Int))), (0), (by first | rfl | (simp; done) | (simp [*]; done)), H', ⟨Nat.le_refl _⟩, ⟨by first | exact Kd.S_nil _ _ _ _ _ | exact Kd.N_nil _ _ _ _ _ | exact Kd.V_nil _ _ _ _ _ | exact Kd.Q_nil _ _ _ _ _ | exact Kd.R_nil _ _ _ _ _⟩, ⟨by (with_reducible repeat (first | apply Kd.V_alloc | apply Kd.V_drewN | apply Kd.V_drew)); exact Kd.V_mono HO0.out (fun _ hk => ⟨hk, (by simp [Value.ownBlock])⟩)⟩, ⟨by repeat (first | (with_reducible first | exact HB.out | apply below_alloc | apply pw_below_drewN | apply below_drew1) | exact HB.out)⟩⟩
 case round =>
  clear H'
  try clear c1
  obtain ⟨x3_1, x8_1, rfl, HA, HK1, HO_3, HO_6, HB⟩ := hrel
  cases gk with
  | zero => exact absurd HA.out (by simp [creellaw16_few.l0])
  | succ k1 =>
   have H := HA.out
   clear HA
   simp only [creellaw16_few.l0] at H
   by_cases c2 : x8_1 < (l0.length : Int)
   ·rw [if_pos c2] at H
    have c2b0 : decide (x8_1 < (l0.length : Int)) = true := decide_eq_true c2
    clear c2
    by_cases c3 : 0 ≤ x8_1
    ·rw [if_pos c3] at H
     have c3b0 : decide (0 ≤ x8_1) = true := decide_eq_true c3
     clear c3
     by_cases c4 : x8_1 < (l0.length : Int)
     ·rw [if_pos c4] at H
      have c4b0 : decide (x8_1 < (l0.length : Int)) = true := decide_eq_true c4
      clear c4
      by_cases c5 : x8_1 < 100
      ·rw [if_pos c5] at H
       have c5b0 : decide (x8_1 < 100) = true := decide_eq_true c5
       clear c5
       by_cases c6 : ((rd_L1 l0 x8_1).length : Int) ≤ 40
       ·rw [if_pos c6] at H
        have c6b0 : decide (((rd_L1 l0 x8_1).length : Int) ≤ 40) = true := decide_eq_true c6
        have c6b1 : decide ((rd_L1 l0 x8_1).length ≤ 40) = true := decide_eq_true (by omega)
        clear c6
        by_cases c7 : x3_1.length < 5864062014805
        ·rw [if_pos c7] at H
         have LMc7 := Aside0.mk c7
         clear c7
         obtain ⟨y275, hy275⟩ : ∃ y_ : List (List Int), y_ = (x3_1 ++ [rd_L1 l0 x8_1]) := ⟨_, rfl⟩
         replace H : (creellaw16_few.l0 k1 y275 l0 (l0.length : Int) (wrap64 (x8_1 + 1))) = some r := by first | (rw [hy275]; with_reducible exact H) | (have H2_ := (Option.bind_some _ _).symm.trans H; rw [hy275]; with_reducible exact H2_) | (have H2_ := (Option.bind_some _ _).symm.trans H; with_reducible exact H2_) | with_reducible exact H | (rw [hy275]; exact H) | exact H
         have Ny275 := Aside0.mk hy275
         clear hy275
         have H' := Aside0.mk H
         clear H
         have p274 : 0 ≤ (x8_1 : Int) := of_decide_eq_true (by first | (with_reducible assumption) | assumption)
         have q274 : x8_1 < (l0.length : Int) := of_decide_eq_true (by first | (with_reducible assumption) | assumption)
         obtain ⟨ad274, A274_0, c274_0, e274, hx274_0, hl274_0, hi274_0⟩ := at_L1 (Kd.V_reads' HO_6.out).2.2 x8_1 p274 q274
         cases e274
         obtain ⟨ce274, hce274, hMe274, hcc274⟩ := Kd.V_get HO_6.out [] x8_1 p274 (by first | exact q274 | exact of_decide_eq_true (by first | (with_reducible assumption) | assumption) | (have e_ := (Kd.V_reads' HO_6.out).1; omega))
         obtain ⟨ua274_0, uc274_0, rfl, ul274_0, ge274_0⟩ := Kd.FK_slice_open hMe274
         have hv274_0 := hcc274 0 _ rfl
         rw [Nat.add_zero, show ((Kd.slice 5 (Kd.int .u8))).sz = 1 from rfl, Nat.mul_one] at hv274_0
         replace hv274_0 := Option.some.inj (hv274_0.symm.trans hx274_0)
         injection hv274_0 with hva_ hvn_ hvc_
         rw [hva_] at ge274_0
         rw [hvc_] at ul274_0
         have HL274_0 := Aside0.mk (show Kd.V (Kd.int .u8) 5 _ w.heap.size _ _ (rd_L1 l0 x8_1) from Kd.V_mk ul274_0 ge274_0)
         clear hva_ hvn_ hvc_ ge274_0 ul274_0
         clear hcc274 hce274
         have HR274_0 := Aside0.mk hi274_0
         have HC274_0 := Aside0.mk hl274_0
         clear hi274_0 hl274_0
         replace p274 := eq_true p274
         replace q274 := eq_true q274
         go_wp2_with (first | ((with_reducible refine gate_builtin (b := .append) (xs := #[.tmp 20, .tmp 22]) rfl ?_); (try (refine gate_guard (by rfl) ?_; dsimp only)); at_builtin; refine Kd.N_append (Kd.slice 5 (Kd.int .u8)) (w0 := w) w.heap.size rfl (.tmp 20) (.tmp 22) 22 26 (.slice none 0 0) 24 rfl Try.underlying22 info26 rfl (by decide) (by omega) u3 x3_1 (rd_L1 l0 x8_1) [.slice A274_0 (rd_L1 l0 x8_1).length c274_0] (fun k_ => (P0_ k_ ∨ w.heap.size ≤ k_)) (fun k_ => ((fun k_ => (P0_ k_ ∨ w.heap.size ≤ k_))) k_ ∧ some k_ ≠ (u3 : Value).ownBlock) rfl rfl ?aP (fun _ hk => hk) ?aF ?aO ?aB ?aS ?aL ?_; (case aP => exact (Kd.FK_slice_mk (Kd.V_reads' (Kd.V_mono (ok' := (fun k_ => ((fun k_ => (P0_ k_ ∨ w.heap.size ≤ k_))) k_ ∧ some k_ ≠ (u3 : Value).ownBlock)) (HL274_0.out) (fun k_ hk => ⟨hk.1, hk.2⟩))).2.1 (Kd.V_F (Kd.V_mono (ok' := (fun k_ => ((fun k_ => (P0_ k_ ∨ w.heap.size ≤ k_))) k_ ∧ some k_ ≠ (u3 : Value).ownBlock)) (HL274_0.out) (fun k_ hk => ⟨hk.1, hk.2⟩))))); (case aB => exact (by repeat (first | (with_reducible first | exact HB.out | apply below_alloc | apply pw_below_drewN | apply below_drew1) | exact HB.out))); (case aF => exact (fun k_ hk => (.inr (Nat.le_trans (below_size (by repeat (first | (with_reducible first | exact HB.out | apply below_alloc | apply pw_below_drewN | apply below_drew1) | exact HB.out))) hk)))); (case aO => exact (by (with_reducible repeat (first | apply Kd.N_alloc | apply Kd.N_drewN | apply Kd.N_drew)); exact HO_3.out)); (case aS => exact (below_size (by repeat (first | (with_reducible first | exact HB.out | apply below_alloc | apply pw_below_drewN | apply below_drew1) | exact HB.out)))); (case aL => have := LMc7.out; omega); intro v276 w8 ho hb hg hat; rw [← Ny275.out] at ho; have n0_ := Aside0.mk (Kd.V_afterv (ok := (fun k_ => (P0_ k_ ∨ w.heap.size ≤ k_))) (by (with_reducible repeat (first | apply Kd.V_alloc | apply Kd.V_drewN | apply Kd.V_drew)); exact HO_6.out) hg hat); have n1_ := Aside0.mk (Kd.V_afterv (ok := (fun k_ => (P0_ k_ ∨ w.heap.size ≤ k_))) (by (with_reducible repeat (first | apply Kd.V_alloc | apply Kd.V_drewN | apply Kd.V_drew)); exact HL274_0.out) hg hat); have n2_ := Aside0.mk (hb); have n3_ := Aside0.mk (ho); clear HO_6; clear HL274_0; clear HB; clear HO_3; have HO_6 := n0_; have HL274_0 := n1_; have HB := n2_; have HO277 := n3_; clear n0_ n1_ n2_ n3_; clear ho hb hg hat))
         go_roundg k1
         case measure => have := HK1.out; omega
         case rel => exact ⟨(y275), (wrap64 (x8_1 + 1)), (by first | rfl | (simp; done) | (simp [*]; done)), H', ⟨by have := HK1.out; omega⟩, ⟨by (with_reducible repeat (first | apply Kd.N_alloc | apply Kd.N_drewN | apply Kd.N_drew)); exact HO277.out⟩, ⟨by (with_reducible repeat (first | apply Kd.V_alloc | apply Kd.V_drewN | apply Kd.V_drew)); exact HO_6.out⟩, ⟨by repeat (first | (with_reducible first | exact HB.out | apply below_alloc | apply pw_below_drewN | apply below_drew1) | exact HB.out)⟩⟩
        ·rw [if_neg c7] at H
         exact absurd H (by simp)
       ·rw [if_neg c6] at H
        have c6b0 : decide (((rd_L1 l0 x8_1).length : Int) ≤ 40) = false := decide_eq_false c6
        have c6b1 : decide ((rd_L1 l0 x8_1).length ≤ 40) = false := decide_eq_false (by omega)
        clear c6
        have H' := Aside0.mk H
        clear H
        have p274 : 0 ≤ (x8_1 : Int) := of_decide_eq_true (by first | (with_reducible assumption) | assumption)
        have q274 : x8_1 < (l0.length : Int) := of_decide_eq_true (by first | (with_reducible assumption) | assumption)
        obtain ⟨ad274, A274_0, c274_0, e274, hx274_0, hl274_0, hi274_0⟩ := at_L1 (Kd.V_reads' HO_6.out).2.2 x8_1 p274 q274
        cases e274
        obtain ⟨ce274, hce274, hMe274, hcc274⟩ := Kd.V_get HO_6.out [] x8_1 p274 (by first | exact q274 | exact of_decide_eq_true (by first | (with_reducible assumption) | assumption) | (have e_ := (Kd.V_reads' HO_6.out).1; omega))
        obtain ⟨ua274_0, uc274_0, rfl, ul274_0, ge274_0⟩ := Kd.FK_slice_open hMe274
        have hv274_0 := hcc274 0 _ rfl
        rw [Nat.add_zero, show ((Kd.slice 5 (Kd.int .u8))).sz = 1 from rfl, Nat.mul_one] at hv274_0
        replace hv274_0 := Option.some.inj (hv274_0.symm.trans hx274_0)
        injection hv274_0 with hva_ hvn_ hvc_
        rw [hva_] at ge274_0
        rw [hvc_] at ul274_0
        have HL274_0 := Aside0.mk (show Kd.V (Kd.int .u8) 5 _ w.heap.size _ _ (rd_L1 l0 x8_1) from Kd.V_mk ul274_0 ge274_0)
        clear hva_ hvn_ hvc_ ge274_0 ul274_0
        clear hcc274 hce274
        have HR274_0 := Aside0.mk hi274_0
        have HC274_0 := Aside0.mk hl274_0
        clear hi274_0 hl274_0
        replace p274 := eq_true p274
        replace q274 := eq_true q274
        go_wp2
        go_roundg k1
        case measure => have := HK1.out; omega
        case rel => exact ⟨(x3_1), (wrap64 (x8_1 + 1)), (by first | rfl | (simp; done) | (simp [*]; done)), H', ⟨by have := HK1.out; omega⟩, ⟨by (with_reducible repeat (first | apply Kd.N_alloc | apply Kd.N_drewN | apply Kd.N_drew)); exact HO_3.out⟩, ⟨by (with_reducible repeat (first | apply Kd.V_alloc | apply Kd.V_drewN | apply Kd.V_drew)); exact HO_6.out⟩, ⟨by repeat (first | (with_reducible first | exact HB.out | apply below_alloc | apply pw_below_drewN | apply below_drew1) | exact HB.out)⟩⟩
      ·rw [if_neg c5] at H
       have c5b0 : decide (x8_1 < 100) = false := decide_eq_false c5
       clear c5
       have H' := Aside0.mk H
       clear H
       have p274 : 0 ≤ (x8_1 : Int) := of_decide_eq_true (by first | (with_reducible assumption) | assumption)
       have q274 : x8_1 < (l0.length : Int) := of_decide_eq_true (by first | (with_reducible assumption) | assumption)
       obtain ⟨ad274, A274_0, c274_0, e274, hx274_0, hl274_0, hi274_0⟩ := at_L1 (Kd.V_reads' HO_6.out).2.2 x8_1 p274 q274
       cases e274
       obtain ⟨ce274, hce274, hMe274, hcc274⟩ := Kd.V_get HO_6.out [] x8_1 p274 (by first | exact q274 | exact of_decide_eq_true (by first | (with_reducible assumption) | assumption) | (have e_ := (Kd.V_reads' HO_6.out).1; omega))
       obtain ⟨ua274_0, uc274_0, rfl, ul274_0, ge274_0⟩ := Kd.FK_slice_open hMe274
       have hv274_0 := hcc274 0 _ rfl
       rw [Nat.add_zero, show ((Kd.slice 5 (Kd.int .u8))).sz = 1 from rfl, Nat.mul_one] at hv274_0
       replace hv274_0 := Option.some.inj (hv274_0.symm.trans hx274_0)
       injection hv274_0 with hva_ hvn_ hvc_
       rw [hva_] at ge274_0
       rw [hvc_] at ul274_0
       have HL274_0 := Aside0.mk (show Kd.V (Kd.int .u8) 5 _ w.heap.size _ _ (rd_L1 l0 x8_1) from Kd.V_mk ul274_0 ge274_0)
       clear hva_ hvn_ hvc_ ge274_0 ul274_0
       clear hcc274 hce274
       have HR274_0 := Aside0.mk hi274_0
       have HC274_0 := Aside0.mk hl274_0
       clear hi274_0 hl274_0
       replace p274 := eq_true p274
       replace q274 := eq_true q274
       go_wp2
       go_roundg k1
       case measure => have := HK1.out; omega
       case rel => exact ⟨(x3_1), (wrap64 (x8_1 + 1)), (by first | rfl | (simp; done) | (simp [*]; done)), H', ⟨by have := HK1.out; omega⟩, ⟨by (with_reducible repeat (first | apply Kd.N_alloc | apply Kd.N_drewN | apply Kd.N_drew)); exact HO_3.out⟩, ⟨by (with_reducible repeat (first | apply Kd.V_alloc | apply Kd.V_drewN | apply Kd.V_drew)); exact HO_6.out⟩, ⟨by repeat (first | (with_reducible first | exact HB.out | apply below_alloc | apply pw_below_drewN | apply below_drew1) | exact HB.out)⟩⟩
     ·rw [if_neg c4] at H
      exact absurd H (by simp)
    ·rw [if_neg c3] at H
     exact absurd H (by simp)
   ·rw [if_neg c2] at H
    have c2b0 : decide (x8_1 < (l0.length : Int)) = false := decide_eq_false c2
    clear c2
    obtain rfl := Option.some.inj H
    go_wp2
    go_ret
    exact ⟨_, by first | rfl | (simp [errW_none, errW_some] <;> rfl) | (simp [*, errW_none, errW_some] <;> rfl), by (with_reducible repeat (first | apply Kd.N_alloc | apply Kd.N_drewN | apply Kd.N_drew)); exact HO_3.out, by repeat (first | (with_reducible first | exact HB.out | apply below_alloc | apply pw_below_drewN | apply below_drew1) | exact HB.out)⟩

/-! ### creelref14_Sorted: function 24 -/
/-- The order of strings, and whether they are the same. -/
def srtLess (a b : List Int) : Bool := Op.bytesLess (strOfNums a).toList (strOfNums b).toList
def srtEq (a b : List Int) : Bool := (strOfNums a).toList == (strOfNums b).toList
/-- How many records stand ahead of x. -/
def srtK (x : List Int) : List (List Int) → Nat
 | [] => 0
 | y :: l => if srtLess y x then srtK x l + 1 else 0
theorem srtK_le (x : List Int) : ∀ l, srtK x l ≤ l.length
 | [] => Nat.le_refl _
 | y :: l => by have := srtK_le x l; unfold srtK; split <;> simp <;> omega
theorem srtK_yes (x : List Int) : ∀ (l : List (List Int)) (j : Nat), j < srtK x l → srtLess (l.getD j []) x = true
 | [], j, h => by simp [srtK] at h
 | y :: l, j, h => by
  unfold srtK at h
  split at h
  ·rename_i hy
   cases j with
   | zero => exact hy
   | succ j => rw [List.getD_cons_succ]; exact srtK_yes x l j (by omega)
  ·omega
theorem srtK_no (x : List Int) : ∀ (l : List (List Int)), srtK x l < l.length → srtLess (l.getD (srtK x l) []) x = false
 | [], h => by simp at h
 | y :: l, h => by
  unfold srtK at h ⊢
  split at h
  ·rename_i hy
   rw [if_pos hy, List.getD_cons_succ]; exact srtK_no x l (by simpa using h)
  ·rename_i hy
   rw [if_neg hy]; simpa using hy
/-- x among records that rise; not twice. -/
def srtIns (out : List (List Int)) (x : List Int) : List (List Int) := if srtK x out < out.length ∧ srtEq (out.getD (srtK x out) []) x = true then out else out.take (srtK x out) ++ [x] ++ out.drop (srtK x out)
def srt (l : List (List Int)) : List (List Int) := l.foldl srtIns []
theorem srtIns_len (out : List (List Int)) (x : List Int) : (srtIns out x).length ≤ out.length + 1 := by
 unfold srtIns; split
 ·omega
 ·simp; omega
theorem srt_take (l : List (List Int)) (k : Nat) (h : k < l.length) : srt (l.take (k + 1)) = srtIns (srt (l.take k)) (l.getD k []) := by
 unfold srt
 rw [List.take_add_one, List.foldl_append, List.getD_eq_getElem?_getD, List.getElem?_eq_getElem h]; rfl
theorem srt_len (l : List (List Int)) : ∀ k, (srt (l.take k)).length ≤ k
 | 0 => by simp [srt]
 | k + 1 => by
  have ih := srt_len l k
  by_cases h : k < l.length
  ·rw [srt_take l k h]; have := srtIns_len (srt (l.take k)) (l.getD k []); omega
  ·rw [List.take_of_length_le (by omega)]; rw [List.take_of_length_le (by omega)] at ih; omega
def creelref14_Sorted.f (l0 : List (List Int)) : Option (List (List Int)) := if l0.length < 1000000 then some (srt l0) else none
set_option maxHeartbeats 8000000 in
set_option maxRecDepth 100000 in
theorem creelref14_Sorted.calls (P0_ : Nat → Prop) (A0 : Option Addr) (c0 : Nat) (l0 : List (List Int)) (r : List (List Int)) (w : World) (hs0 : Kd.V (Kd.slice 5 (Kd.int .u8)) 26 w w.heap.size (fun k_ => P0_ k_) (.slice A0 l0.length c0) l0) (h : creelref14_Sorted.f l0 = some r) :
  Calls Try.prog 24 #[.slice A0 l0.length c0] w fun e w' => ∃ v0_ : Value, e = .returned (v0_) ∧ Kd.N (Kd.slice 5 (Kd.int .u8)) 26 w' w.heap.size (fun k_ => (P0_ k_ ∨ w.heap.size ≤ k_)) v0_ r ∧ Below w.heap.size w w' := by
 unfold creelref14_Sorted.f at h
 by_cases hl : l0.length < 1000000
 ·rw [if_pos hl] at h
  obtain rfl := Option.some.inj h
  clear h
  have HV := Aside0.mk (Kd.V_bound hs0)
  have HB := Aside0.mk (Below.refl w.heap.size w)
  clear hs0
  go_enter Try.func24, Try.ntmps24
  go_wp2
  go_loopw [3, 4] (fun v i wr => ∃ k : Nat, k ≤ l0.length ∧ i = .int .i64 k ∧ Aside0 (Kd.N (Kd.slice 5 (Kd.int .u8)) 26 wr w.heap.size (fun k_ => (P0_ k_ ∨ w.heap.size ≤ k_)) v (srt (l0.take k))) ∧ Aside0 (Below w.heap.size w wr)) (fun _ i _ => l0.length - (intOf i).toNat)
  case atStart => exact ⟨0, Nat.zero_le _, rfl, ⟨Kd.N_nil _ _ _ _ _⟩, HB⟩
  case round =>
   obtain ⟨k, hk, rfl, HO, HB⟩ := hrel
   by_cases hlt : k < l0.length
   ·have hol := srt_len l0 k
    have hT := srt_take l0 k hlt
    generalize srt (l0.take k) = out at *
    have HV1 := Aside0.mk (Kd.V_below HV.out HB.out)
    obtain ⟨ad, Ai, ci, rfl, hxi, hli, hFi⟩ := Hand.F_row_at (Kd.V_F HV1.out) k hlt
    generalize l0.getD k [] = x at *
    unfold srtIns at hT
    have HT := Aside0.mk hT
    clear hT
    obtain ⟨A1, c1, rfl⟩ := Kd.N_slice HO.out
    have HS := fun n_ : Nat => Kd.C_string (P := Try.prog) (A := Ai) (c := ci) Try.underlying26 Try.underlying5 Try.underlying9 (Kd.C_drewN (Kd.F_now hFi) n_)
    have HFi := Aside0.mk hFi
    have hkle := srtK_le x out
    clear hFi
    obtain ⟨wo, rfl⟩ : ∃ wo : World, wo = wr := ⟨_, rfl⟩
    go_wp2
    go_loopw [5] (fun v wi => ∃ j m : Nat, j ≤ srtK x out ∧ v = .int .i64 j ∧ wi = wo.drewN m) (fun v _ => srtK x out + 1 - (intOf v).toNat)
    case atStart => exact ⟨0, 0, Nat.zero_le _, rfl, rfl⟩
    case round =>
     obtain ⟨j, m, hj, rfl, rfl⟩ := hrel
     have p2 : (0 : Int) ≤ (k : Int) := by omega
     have q2 : (k : Int) < (l0.length : Int) := by omega
     have p1 : (0 : Int) ≤ (j : Int) := by omega
     by_cases hjo : j < out.length
     ·obtain ⟨ad1, Aj, cj, rfl, hxj, hlj, hFj⟩ := Hand.F_row_at (Kd.N_F HO.out) j hjo
      have HSj := fun n_ : Nat => Kd.C_string (P := Try.prog) (A := Aj) (c := cj) Try.underlying26 Try.underlying5 Try.underlying9 (Kd.C_drewN (Kd.F_now hFj) n_)
      clear hFj
      have d1 : decide (j < out.length) = true := decide_eq_true hjo
      have q1 : (j : Int) < (out.length : Int) := by omega
      by_cases hjk : j < srtK x out
      ·have hyes := srtK_yes x out j hjk
       generalize out.getD j [] = y at *
       unfold srtLess at hyes
       go_wp2
       go_quiet (fail)
       go_wp2
       go_roundw
       case rel => exact ⟨j + 1, _, by omega, by go_num, rfl⟩
       case measure => simp [intOf]; omega
      ·obtain rfl : j = srtK x out := by omega
       have hno := srtK_no x out hjo
       have hT1 := HT.out
       generalize srtK x out = j at *
       generalize out.getD j [] = y at *
       unfold srtLess at hno
       by_cases he : srtEq y x = true
       ·rw [if_pos ⟨hjo, he⟩] at hT1
        unfold srtEq at he
        have HT1 := Aside0.mk hT1
        clear hT1
        go_wp2
        go_quiet (fail)
        rename Nat => na
        go_wp2
        go_quiet (fail)
        go_wp2
        go_roundw
        case rel => exact ⟨k + 1, by omega, by go_num, ⟨by rw [HT1.out]; exact Kd.N_drewN HO.out _⟩, ⟨pw_below_drewN HB.out _⟩⟩
        case measure => simp [intOf]; omega
       ·rw [if_neg (fun h_ => he h_.2)] at hT1
        replace he := Bool.eq_false_iff.mpr he
        unfold srtEq at he
        have HT1 := Aside0.mk hT1
        clear hT1
        go_wp2
        go_quiet (fail)
        rename Nat => na
        go_wp2
        go_quiet (fail)
        go_upto_region 9 with (fail)
        obtain ⟨W, hW⟩ : ∃ W : World, ((wo.drewN m).drewN na).drewN nq = W := ⟨_, rfl⟩
        have HO2 := Aside0.mk (show Kd.N (Kd.slice 5 (Kd.int .u8)) 26 W w.heap.size (fun k_ => (P0_ k_ ∨ w.heap.size ≤ k_)) (.slice (some ad1) out.length c1) out from by rw [← hW]; exact Kd.N_drewN (Kd.N_drewN (Kd.N_drewN HO.out _) _) _)
        have HB2 := Aside0.mk (show Below w.heap.size w W from by rw [← hW]; exact pw_below_drewN (pw_below_drewN (pw_below_drewN HB.out _) _) _)
        have HF2 := Aside0.mk (show Kd.F (Kd.int .u8) W (fun k_ => (P0_ k_ ∧ k_ < w.heap.size)) Ai x.length x from by rw [← hW]; exact Kd.F_drewN (Kd.F_drewN (Kd.F_drewN HFi.out _) _) _)
        have hxW : W.cell? (ad.add k) = some (.slice Ai x.length ci) := by rw [← hW]; simpa using hxi
        rw [hW]
        clear hW HO HB HS HV1 hxi
        obtain ⟨hn_, hc_, hFo⟩ := Hand.N_view HO2.out
        obtain ⟨A2, n2, c2, hn2, hnc2, hcut2, hFd⟩ := Hand.cut_drop (P := Try.prog) 22 .i64 Try.underlying22 (by kernel_rfl) hFo hc_ j (by omega)
        obtain ⟨n3, hn3, hnc3, hcut3, hFt⟩ := Hand.cut_take (P := Try.prog) 22 .i64 Try.underlying22 (by kernel_rfl) hFo hc_ j (by omega)
        have b2 : n2 ≤ 1000000 := by rw [hn2, List.length_drop]; omega
        have b3 : n3 ≤ 1000000 := by rw [hn3, List.length_take]; omega
        have b4 : n3 = (out.take j).length := hn3
        have b5 := hn2
        obtain ⟨ro, hro⟩ : ∃ ro_, out.drop j = ro_ := ⟨_, rfl⟩
        obtain ⟨lo, hlo⟩ : ∃ lo_, out.take j = lo_ := ⟨_, rfl⟩
        have hT2 := HT1.out
        rw [hro] at b5 hFd hT2
        rw [hlo] at hFt hT2 b4
        have hws := HB2.out.size
        have HWS := Aside0.mk hws
        have HFd := Aside0.mk hFd
        have HFt := Aside0.mk hFt
        have HT2 := Aside0.mk hT2
        have HB4 := Aside0.mk b4
        have HB5n := Aside0.mk b5
        clear hn2 hn3 hFd hFt hFo hn_ hws hro hlo hT2 b4 b5 HT1 HT
        go_wp2_with (first | ((with_reducible refine gate_dst (N := 53) rfl ?_); refine Kd.N_append_rows (Kd.slice 5 (Kd.int .u8)) (w0 := W) W.heap.size rfl (.tmp 49) (.tmp 52) 22 26 (.slice none 0 0) 24 rfl Try.underlying22 info26 rfl (by decide) (by decide) (.slice (some ⟨W.heap.size, 0, none⟩) 0 0) [] ro A2 n2 c2 (fun k_ => (P0_ k_ ∨ w.heap.size ≤ k_)) (fun k_ => (P0_ k_ ∨ w.heap.size ≤ k_) ∧ k_ < W.heap.size) rfl rfl (Hand.N_lit0 _ _ (Nat.le_refl _) (.inr HWS.out)) (Kd.F_alloc HFd.out _) (fun k_ hk => ⟨hk.1, fun e => by simp [Value.ownBlock] at e; have := hk.2; omega⟩) (fun k_ hk => .inr (by have := HWS.out; simp at hk; omega)) ((Below.refl _ _).alloc (Nat.le_refl _) _) (by simp) (by simp; omega) ?_; intro v5 w5 ho hb hg hat; obtain ⟨A5, c5, rfl⟩ := Kd.N_slice ho; rw [List.nil_append] at ho ⊢; have HO5 := Aside0.mk ho; have HB5 := Aside0.mk hb; clear ho hb hg hat))
        obtain ⟨hn_, hc6, hFr⟩ := Hand.N_view HO5.out
        have HFr := Aside0.mk hFr
        have hx5 : w5.cell? (ad.add k) = some (.slice Ai x.length ci) := (HB5.out.cell (World.block_lt_of_cell? _ _ hxW)).trans hxW
        have HFx5 := Aside0.mk (Kd.F_below HF2.out HB5.out)
        have HFt5 := Aside0.mk (Kd.F_below HFt.out HB5.out)
        have HWL := Aside0.mk (show W.heap.size ≤ w5.heap.size from HB5.out.size)
        clear hn_ hFr hxW HF2 HFt HFd
        obtain ⟨H5, hH5⟩ : ∃ H, w5.heap.size = H := ⟨_, rfl⟩
        have HH5 := Aside0.mk hH5
        clear hH5
        go_region_held3 (fun w' => w'.cell? (ad.add k) = some (.slice Ai x.length ci)) (go_keep) (first | (refine Kd.N_append_rows_step (Kd.slice 5 (Kd.int .u8)) (w0 := w5) w5.heap.size (by rfl) (.tmp 54) (.tmp 57) 22 26 (.slice none 0 0) 24 (by rfl) Try.underlying22 info26 rfl (by decide) (by decide) (.slice (some ⟨_, 0, none⟩) 0 0) [] lo _ n3 _ (fun k_ => (P0_ k_ ∨ w.heap.size ≤ k_)) (fun k_ => (P0_ k_ ∨ w.heap.size ≤ k_) ∧ k_ < W.heap.size) (by rfl) (by rfl) (by first | exact Hand.N_lit0' _ _ _ (by simp) (by simp) (.inr (by have := HWS.out; have := HWL.out; omega)) | exact Kd.N_alloc (Hand.N_lit0' _ _ _ (by simp) (by simp) (.inr (by have := HWS.out; have := HWL.out; omega))) _) (by repeat (first | exact HFt5.out | apply Kd.F_drew | refine Kd.F_alloc ?_ _)) (fun k_ hk => ⟨hk.1, fun e => by have := HWL.out; have := hk.2; simp [Value.ownBlock] at e; omega⟩) (fun k_ hk => .inr (by have := HWS.out; have := HWL.out; (try simp at hk); omega)) (by repeat (first | exact Below.refl _ _ | apply below_drew1 | refine Below.alloc ?_ (by first | exact HS6.out | (simp; done) | (simp; omega) | omega) _)) (by first | (simp; done) | (simp; omega)) (by simp; omega) ?_; intro v6 w6 ho hb hg hat; have hx6 : w6.cell? (ad.add k) = some (.slice Ai x.length ci) := (hb.cell (World.block_lt_of_cell? _ _ hx5)).trans hx5; rw [List.nil_append] at ho; have HO6 := Aside0.mk ho; have HB6 := Aside0.mk hb; have HS6 := Aside0.mk hb.size; (first | (have HF1 := Aside0.mk (Kd.F_grown (Kd.F_drew (Hand.F_lit1' (e := 5) (w5.heap.size + 1) (by simp) (Kd.F_alloc HFx5.out _) hli 26 (fun k_ hk => by have := HWS.out; have := HWL.out; have := hk.2; omega))) hg (fun k_ hk e_ => by simp [Value.ownBlock] at e_; rcases hk with hk | hk <;> (have := HWS.out; have := HWL.out; (try have := hk.2); omega))); have HN1 := Aside0.mk (show some (w5.heap.size + 1) ≠ v6.ownBlock from (fun e_ => by rcases hat with h_ | ⟨b_, h_, hb_⟩ <;> (have e2_ := e_.trans h_; simp [Value.ownBlock] at e2_; try (simp at hb_; omega))))) | (have HF1 := Aside0.mk (Kd.F_grown (Kd.F_drew (Kd.F_alloc (Hand.F_lit1' (e := 5) (w5.heap.size) rfl HFx5.out hli 26 (fun k_ hk => by have := HWS.out; have := HWL.out; have := hk.2; omega)) _)) hg (fun k_ hk e_ => by simp [Value.ownBlock] at e_; rcases hk with hk | hk <;> (have := HWS.out; have := HWL.out; (try have := hk.2); omega))); have HN1 := Aside0.mk (show some (w5.heap.size) ≠ v6.ownBlock from (fun e_ => by rcases hat with h_ | ⟨b_, h_, hb_⟩ <;> (have e2_ := e_.trans h_; simp [Value.ownBlock] at e2_; try (simp at hb_; omega))))) | skip); clear ho hb hg hat) | (refine Kd.N_append_rows_step (Kd.slice 5 (Kd.int .u8)) (w0 := w5) w5.heap.size (by rfl) (.tmp 58) (.tmp 63) 22 26 (.slice none 0 0) 24 (by rfl) Try.underlying22 info26 rfl (by decide) (by decide) v6 lo [x] _ 1 _ (fun k_ => (P0_ k_ ∨ w.heap.size ≤ k_)) (fun k_ => (P0_ k_ ∧ k_ < w.heap.size) ∨ k_ = w6.heap.size) (by rfl) (by rfl) (Kd.N_alloc HO6.out _) (Hand.F_lit1' (e := 5) (w6.heap.size) rfl (Kd.F_below HFx5.out HB6.out) hli 26 (fun k_ hk => by have := HWS.out; have := HWL.out; have := HS6.out; have := hk.2; omega)) (fun k_ hk => hk.elim (fun hk => ⟨.inl hk.1, fun e_ => by have := Kd.N_base HO6.out _ e_.symm; have := HWS.out; have := HWL.out; have := hk.2; omega⟩) (fun hq_ => hq_ ▸ ⟨.inr (by have := HWS.out; have := HWL.out; have := HS6.out; omega), fun e_ => by have := Kd.N_lt HO6.out _ e_.symm; omega⟩)) (fun k_ hk => .inr (by have := HWS.out; have := HWL.out; have := HS6.out; (try simp at hk); omega)) (by repeat (first | exact HB6.out | apply below_drew1 | refine Below.alloc ?_ (by first | exact HS6.out | (simp; done) | (simp; omega) | omega) _)) (by have := HS6.out; first | omega | (simp; omega)) (by have := HB4.out; omega) ?_; intro v7 w7 ho hb hg hat; have hx7 : w7.cell? (ad.add k) = some (.slice Ai x.length ci) := (hb.cell (World.block_lt_of_cell? _ _ hx5)).trans hx5; have HO7 := Aside0.mk ho; have HB7 := Aside0.mk hb; have HS7 := Aside0.mk hb.size; clear ho hb hg hat HO6 HB6 hx6; (try clear HF1); (try clear HN1)) | (refine Kd.N_append_rows_step (Kd.slice 5 (Kd.int .u8)) (w0 := w5) w5.heap.size (by rfl) (.tmp 58) (.tmp 63) 22 26 (.slice none 0 0) 24 (by rfl) Try.underlying22 info26 rfl (by decide) (by decide) v6 lo [x] _ 1 _ (fun k_ => (P0_ k_ ∨ w.heap.size ≤ k_)) (fun k_ => (P0_ k_ ∧ k_ < w.heap.size) ∨ k_ = w5.heap.size + 1) (by rfl) (by rfl) HO6.out HF1.out (fun k_ hk => hk.elim (fun hk => ⟨.inl hk.1, fun e_ => by have := Kd.N_base HO6.out _ e_.symm; have := HWS.out; have := HWL.out; have := hk.2; omega⟩) (fun hq_ => hq_ ▸ ⟨.inr (by have := HWS.out; have := HWL.out; have := HS6.out; omega), HN1.out⟩)) (fun k_ hk => .inr (by have := HWS.out; have := HWL.out; have := HS6.out; (try simp at hk); omega)) (by repeat (first | exact HB6.out | apply below_drew1 | refine Below.alloc ?_ (by first | exact HS6.out | (simp; done) | (simp; omega) | omega) _)) (by have := HS6.out; first | omega | (simp; omega)) (by have := HB4.out; omega) ?_; intro v7 w7 ho hb hg hat; have hx7 : w7.cell? (ad.add k) = some (.slice Ai x.length ci) := (hb.cell (World.block_lt_of_cell? _ _ hx5)).trans hx5; have HO7 := Aside0.mk ho; have HB7 := Aside0.mk hb; have HS7 := Aside0.mk hb.size; clear ho hb hg hat HO6 HB6 hx6; (try clear HF1); (try clear HN1)) | (refine Kd.N_append_rows_step (Kd.slice 5 (Kd.int .u8)) (w0 := w5) w5.heap.size (by rfl) (.tmp 58) (.tmp 63) 22 26 (.slice none 0 0) 24 (by rfl) Try.underlying22 info26 rfl (by decide) (by decide) v6 lo [x] _ 1 _ (fun k_ => (P0_ k_ ∨ w.heap.size ≤ k_)) (fun k_ => (P0_ k_ ∧ k_ < w.heap.size) ∨ k_ = w5.heap.size) (by rfl) (by rfl) HO6.out HF1.out (fun k_ hk => hk.elim (fun hk => ⟨.inl hk.1, fun e_ => by have := Kd.N_base HO6.out _ e_.symm; have := HWS.out; have := HWL.out; have := hk.2; omega⟩) (fun hq_ => hq_ ▸ ⟨.inr (by have := HWS.out; have := HWL.out; have := HS6.out; omega), HN1.out⟩)) (fun k_ hk => .inr (by have := HWS.out; have := HWL.out; have := HS6.out; (try simp at hk); omega)) (by repeat (first | exact HB6.out | apply below_drew1 | refine Below.alloc ?_ (by first | exact HS6.out | (simp; done) | (simp; omega) | omega) _)) (by have := HS6.out; first | omega | (simp; omega)) (by have := HB4.out; omega) ?_; intro v7 w7 ho hb hg hat; have hx7 : w7.cell? (ad.add k) = some (.slice Ai x.length ci) := (hb.cell (World.block_lt_of_cell? _ _ hx5)).trans hx5; have HO7 := Aside0.mk ho; have HB7 := Aside0.mk hb; have HS7 := Aside0.mk hb.size; clear ho hb hg hat HO6 HB6 hx6; (try clear HF1); (try clear HN1)) | (refine Kd.N_append_rows_step (Kd.slice 5 (Kd.int .u8)) (w0 := w5) w5.heap.size (by rfl) (.tmp 64) (.tmp 65) 22 26 (.slice none 0 0) 24 (by rfl) Try.underlying22 info26 rfl (by decide) (by decide) v7 (lo ++ [x]) ro A5 ro.length c5 (fun k_ => (P0_ k_ ∨ w.heap.size ≤ k_)) (fun k_ => (P0_ k_ ∨ w.heap.size ≤ k_) ∧ k_ < w5.heap.size) (by rfl) (by rfl) HO7.out (Kd.F_below HFr.out HB7.out) (fun k_ hk => ⟨hk.1, fun e_ => by have := Kd.N_base HO7.out _ e_.symm; have := hk.2; omega⟩) (fun k_ hk => .inr (by have := HWS.out; have := HWL.out; have := HS7.out; (try simp at hk); omega)) HB7.out HS7.out (by have := HB4.out; have := HB5n.out; simp; omega) ?_; intro v8 w8 ho hb hg hat; have hx8 : w8.cell? (ad.add k) = some (.slice Ai x.length ci) := (hb.cell (World.block_lt_of_cell? _ _ hx5)).trans hx5; have HO8 := Aside0.mk ho; have HB8 := Aside0.mk hb; clear ho hb hg hat HO7 HB7 hx7))
        all_goals
         go_wp2
         go_roundw
         case rel => exact ⟨k + 1, by omega, by go_num, ⟨by rw [HT2.out]; exact Kd.N_lower HO8.out (Nat.le_trans HWS.out HWL.out)⟩, ⟨below_step (below_step HB2.out HB5.out) HB8.out⟩⟩
         case measure => simp [intOf]; omega
     ·have d1 : decide (j < out.length) = false := decide_eq_false hjo
      have hT1 := HT.out
      rw [if_neg (fun h_ => by omega)] at hT1
      rw [show srtK x out = j by omega] at hT1
      have HT1 := Aside0.mk hT1
      clear hT1
      go_wp2
      go_quiet (fail)
      rename Nat => na
      go_wp2
      go_quiet (fail)
      go_upto_region 9 with (fail)
      obtain ⟨W, hW⟩ : ∃ W : World, ((wo.drewN m).drewN na).drewN nq = W := ⟨_, rfl⟩
      have HO2 := Aside0.mk (show Kd.N (Kd.slice 5 (Kd.int .u8)) 26 W w.heap.size (fun k_ => (P0_ k_ ∨ w.heap.size ≤ k_)) (.slice A1 out.length c1) out from by rw [← hW]; exact Kd.N_drewN (Kd.N_drewN (Kd.N_drewN HO.out _) _) _)
      have HB2 := Aside0.mk (show Below w.heap.size w W from by rw [← hW]; exact pw_below_drewN (pw_below_drewN (pw_below_drewN HB.out _) _) _)
      have HF2 := Aside0.mk (show Kd.F (Kd.int .u8) W (fun k_ => (P0_ k_ ∧ k_ < w.heap.size)) Ai x.length x from by rw [← hW]; exact Kd.F_drewN (Kd.F_drewN (Kd.F_drewN HFi.out _) _) _)
      have hxW : W.cell? (ad.add k) = some (.slice Ai x.length ci) := by rw [← hW]; simpa using hxi
      rw [hW]
      clear hW HO HB HS HV1 hxi
      obtain ⟨hn_, hc_, hFo⟩ := Hand.N_view HO2.out
      obtain ⟨A2, n2, c2, hn2, hnc2, hcut2, hFd⟩ := Hand.cut_drop (P := Try.prog) 22 .i64 Try.underlying22 (by kernel_rfl) hFo hc_ j (by omega)
      obtain ⟨n3, hn3, hnc3, hcut3, hFt⟩ := Hand.cut_take (P := Try.prog) 22 .i64 Try.underlying22 (by kernel_rfl) hFo hc_ j (by omega)
      have b2 : n2 ≤ 1000000 := by rw [hn2, List.length_drop]; omega
      have b3 : n3 ≤ 1000000 := by rw [hn3, List.length_take]; omega
      have b4 : n3 = (out.take j).length := hn3
      have b5 := hn2
      obtain ⟨ro, hro⟩ : ∃ ro_, out.drop j = ro_ := ⟨_, rfl⟩
      obtain ⟨lo, hlo⟩ : ∃ lo_, out.take j = lo_ := ⟨_, rfl⟩
      have hT2 := HT1.out
      rw [hro] at b5 hFd hT2
      rw [hlo] at hFt hT2 b4
      have hws := HB2.out.size
      have HWS := Aside0.mk hws
      have HFd := Aside0.mk hFd
      have HFt := Aside0.mk hFt
      have HT2 := Aside0.mk hT2
      have HB4 := Aside0.mk b4
      have HB5n := Aside0.mk b5
      clear hn2 hn3 hFd hFt hFo hn_ hws hro hlo hT2 b4 b5 HT1 HT
      go_wp2_with (first | ((with_reducible refine gate_dst (N := 53) rfl ?_); refine Kd.N_append_rows (Kd.slice 5 (Kd.int .u8)) (w0 := W) W.heap.size rfl (.tmp 49) (.tmp 52) 22 26 (.slice none 0 0) 24 rfl Try.underlying22 info26 rfl (by decide) (by decide) (.slice (some ⟨W.heap.size, 0, none⟩) 0 0) [] ro A2 n2 c2 (fun k_ => (P0_ k_ ∨ w.heap.size ≤ k_)) (fun k_ => (P0_ k_ ∨ w.heap.size ≤ k_) ∧ k_ < W.heap.size) rfl rfl (Hand.N_lit0 _ _ (Nat.le_refl _) (.inr HWS.out)) (Kd.F_alloc HFd.out _) (fun k_ hk => ⟨hk.1, fun e => by simp [Value.ownBlock] at e; have := hk.2; omega⟩) (fun k_ hk => .inr (by have := HWS.out; simp at hk; omega)) ((Below.refl _ _).alloc (Nat.le_refl _) _) (by simp) (by simp; omega) ?_; intro v5 w5 ho hb hg hat; obtain ⟨A5, c5, rfl⟩ := Kd.N_slice ho; rw [List.nil_append] at ho ⊢; have HO5 := Aside0.mk ho; have HB5 := Aside0.mk hb; clear ho hb hg hat))
      obtain ⟨hn_, hc6, hFr⟩ := Hand.N_view HO5.out
      have HFr := Aside0.mk hFr
      have hx5 : w5.cell? (ad.add k) = some (.slice Ai x.length ci) := (HB5.out.cell (World.block_lt_of_cell? _ _ hxW)).trans hxW
      have HFx5 := Aside0.mk (Kd.F_below HF2.out HB5.out)
      have HFt5 := Aside0.mk (Kd.F_below HFt.out HB5.out)
      have HWL := Aside0.mk (show W.heap.size ≤ w5.heap.size from HB5.out.size)
      clear hn_ hFr hxW HF2 HFt HFd
      obtain ⟨H5, hH5⟩ : ∃ H, w5.heap.size = H := ⟨_, rfl⟩
      have HH5 := Aside0.mk hH5
      clear hH5
      go_region_held3 (fun w' => w'.cell? (ad.add k) = some (.slice Ai x.length ci)) (go_keep) (first | (refine Kd.N_append_rows_step (Kd.slice 5 (Kd.int .u8)) (w0 := w5) w5.heap.size (by rfl) (.tmp 54) (.tmp 57) 22 26 (.slice none 0 0) 24 (by rfl) Try.underlying22 info26 rfl (by decide) (by decide) (.slice (some ⟨_, 0, none⟩) 0 0) [] lo _ n3 _ (fun k_ => (P0_ k_ ∨ w.heap.size ≤ k_)) (fun k_ => (P0_ k_ ∨ w.heap.size ≤ k_) ∧ k_ < W.heap.size) (by rfl) (by rfl) (by first | exact Hand.N_lit0' _ _ _ (by simp) (by simp) (.inr (by have := HWS.out; have := HWL.out; omega)) | exact Kd.N_alloc (Hand.N_lit0' _ _ _ (by simp) (by simp) (.inr (by have := HWS.out; have := HWL.out; omega))) _) (by repeat (first | exact HFt5.out | apply Kd.F_drew | refine Kd.F_alloc ?_ _)) (fun k_ hk => ⟨hk.1, fun e => by have := HWL.out; have := hk.2; simp [Value.ownBlock] at e; omega⟩) (fun k_ hk => .inr (by have := HWS.out; have := HWL.out; (try simp at hk); omega)) (by repeat (first | exact Below.refl _ _ | apply below_drew1 | refine Below.alloc ?_ (by first | exact HS6.out | (simp; done) | (simp; omega) | omega) _)) (by first | (simp; done) | (simp; omega)) (by simp; omega) ?_; intro v6 w6 ho hb hg hat; have hx6 : w6.cell? (ad.add k) = some (.slice Ai x.length ci) := (hb.cell (World.block_lt_of_cell? _ _ hx5)).trans hx5; rw [List.nil_append] at ho; have HO6 := Aside0.mk ho; have HB6 := Aside0.mk hb; have HS6 := Aside0.mk hb.size; (first | (have HF1 := Aside0.mk (Kd.F_grown (Kd.F_drew (Hand.F_lit1' (e := 5) (w5.heap.size + 1) (by simp) (Kd.F_alloc HFx5.out _) hli 26 (fun k_ hk => by have := HWS.out; have := HWL.out; have := hk.2; omega))) hg (fun k_ hk e_ => by simp [Value.ownBlock] at e_; rcases hk with hk | hk <;> (have := HWS.out; have := HWL.out; (try have := hk.2); omega))); have HN1 := Aside0.mk (show some (w5.heap.size + 1) ≠ v6.ownBlock from (fun e_ => by rcases hat with h_ | ⟨b_, h_, hb_⟩ <;> (have e2_ := e_.trans h_; simp [Value.ownBlock] at e2_; try (simp at hb_; omega))))) | (have HF1 := Aside0.mk (Kd.F_grown (Kd.F_drew (Kd.F_alloc (Hand.F_lit1' (e := 5) (w5.heap.size) rfl HFx5.out hli 26 (fun k_ hk => by have := HWS.out; have := HWL.out; have := hk.2; omega)) _)) hg (fun k_ hk e_ => by simp [Value.ownBlock] at e_; rcases hk with hk | hk <;> (have := HWS.out; have := HWL.out; (try have := hk.2); omega))); have HN1 := Aside0.mk (show some (w5.heap.size) ≠ v6.ownBlock from (fun e_ => by rcases hat with h_ | ⟨b_, h_, hb_⟩ <;> (have e2_ := e_.trans h_; simp [Value.ownBlock] at e2_; try (simp at hb_; omega))))) | skip); clear ho hb hg hat) | (refine Kd.N_append_rows_step (Kd.slice 5 (Kd.int .u8)) (w0 := w5) w5.heap.size (by rfl) (.tmp 58) (.tmp 63) 22 26 (.slice none 0 0) 24 (by rfl) Try.underlying22 info26 rfl (by decide) (by decide) v6 lo [x] _ 1 _ (fun k_ => (P0_ k_ ∨ w.heap.size ≤ k_)) (fun k_ => (P0_ k_ ∧ k_ < w.heap.size) ∨ k_ = w6.heap.size) (by rfl) (by rfl) (Kd.N_alloc HO6.out _) (Hand.F_lit1' (e := 5) (w6.heap.size) rfl (Kd.F_below HFx5.out HB6.out) hli 26 (fun k_ hk => by have := HWS.out; have := HWL.out; have := HS6.out; have := hk.2; omega)) (fun k_ hk => hk.elim (fun hk => ⟨.inl hk.1, fun e_ => by have := Kd.N_base HO6.out _ e_.symm; have := HWS.out; have := HWL.out; have := hk.2; omega⟩) (fun hq_ => hq_ ▸ ⟨.inr (by have := HWS.out; have := HWL.out; have := HS6.out; omega), fun e_ => by have := Kd.N_lt HO6.out _ e_.symm; omega⟩)) (fun k_ hk => .inr (by have := HWS.out; have := HWL.out; have := HS6.out; (try simp at hk); omega)) (by repeat (first | exact HB6.out | apply below_drew1 | refine Below.alloc ?_ (by first | exact HS6.out | (simp; done) | (simp; omega) | omega) _)) (by have := HS6.out; first | omega | (simp; omega)) (by have := HB4.out; omega) ?_; intro v7 w7 ho hb hg hat; have hx7 : w7.cell? (ad.add k) = some (.slice Ai x.length ci) := (hb.cell (World.block_lt_of_cell? _ _ hx5)).trans hx5; have HO7 := Aside0.mk ho; have HB7 := Aside0.mk hb; have HS7 := Aside0.mk hb.size; clear ho hb hg hat HO6 HB6 hx6; (try clear HF1); (try clear HN1)) | (refine Kd.N_append_rows_step (Kd.slice 5 (Kd.int .u8)) (w0 := w5) w5.heap.size (by rfl) (.tmp 58) (.tmp 63) 22 26 (.slice none 0 0) 24 (by rfl) Try.underlying22 info26 rfl (by decide) (by decide) v6 lo [x] _ 1 _ (fun k_ => (P0_ k_ ∨ w.heap.size ≤ k_)) (fun k_ => (P0_ k_ ∧ k_ < w.heap.size) ∨ k_ = w5.heap.size + 1) (by rfl) (by rfl) HO6.out HF1.out (fun k_ hk => hk.elim (fun hk => ⟨.inl hk.1, fun e_ => by have := Kd.N_base HO6.out _ e_.symm; have := HWS.out; have := HWL.out; have := hk.2; omega⟩) (fun hq_ => hq_ ▸ ⟨.inr (by have := HWS.out; have := HWL.out; have := HS6.out; omega), HN1.out⟩)) (fun k_ hk => .inr (by have := HWS.out; have := HWL.out; have := HS6.out; (try simp at hk); omega)) (by repeat (first | exact HB6.out | apply below_drew1 | refine Below.alloc ?_ (by first | exact HS6.out | (simp; done) | (simp; omega) | omega) _)) (by have := HS6.out; first | omega | (simp; omega)) (by have := HB4.out; omega) ?_; intro v7 w7 ho hb hg hat; have hx7 : w7.cell? (ad.add k) = some (.slice Ai x.length ci) := (hb.cell (World.block_lt_of_cell? _ _ hx5)).trans hx5; have HO7 := Aside0.mk ho; have HB7 := Aside0.mk hb; have HS7 := Aside0.mk hb.size; clear ho hb hg hat HO6 HB6 hx6; (try clear HF1); (try clear HN1)) | (refine Kd.N_append_rows_step (Kd.slice 5 (Kd.int .u8)) (w0 := w5) w5.heap.size (by rfl) (.tmp 58) (.tmp 63) 22 26 (.slice none 0 0) 24 (by rfl) Try.underlying22 info26 rfl (by decide) (by decide) v6 lo [x] _ 1 _ (fun k_ => (P0_ k_ ∨ w.heap.size ≤ k_)) (fun k_ => (P0_ k_ ∧ k_ < w.heap.size) ∨ k_ = w5.heap.size) (by rfl) (by rfl) HO6.out HF1.out (fun k_ hk => hk.elim (fun hk => ⟨.inl hk.1, fun e_ => by have := Kd.N_base HO6.out _ e_.symm; have := HWS.out; have := HWL.out; have := hk.2; omega⟩) (fun hq_ => hq_ ▸ ⟨.inr (by have := HWS.out; have := HWL.out; have := HS6.out; omega), HN1.out⟩)) (fun k_ hk => .inr (by have := HWS.out; have := HWL.out; have := HS6.out; (try simp at hk); omega)) (by repeat (first | exact HB6.out | apply below_drew1 | refine Below.alloc ?_ (by first | exact HS6.out | (simp; done) | (simp; omega) | omega) _)) (by have := HS6.out; first | omega | (simp; omega)) (by have := HB4.out; omega) ?_; intro v7 w7 ho hb hg hat; have hx7 : w7.cell? (ad.add k) = some (.slice Ai x.length ci) := (hb.cell (World.block_lt_of_cell? _ _ hx5)).trans hx5; have HO7 := Aside0.mk ho; have HB7 := Aside0.mk hb; have HS7 := Aside0.mk hb.size; clear ho hb hg hat HO6 HB6 hx6; (try clear HF1); (try clear HN1)) | (refine Kd.N_append_rows_step (Kd.slice 5 (Kd.int .u8)) (w0 := w5) w5.heap.size (by rfl) (.tmp 64) (.tmp 65) 22 26 (.slice none 0 0) 24 (by rfl) Try.underlying22 info26 rfl (by decide) (by decide) v7 (lo ++ [x]) ro A5 ro.length c5 (fun k_ => (P0_ k_ ∨ w.heap.size ≤ k_)) (fun k_ => (P0_ k_ ∨ w.heap.size ≤ k_) ∧ k_ < w5.heap.size) (by rfl) (by rfl) HO7.out (Kd.F_below HFr.out HB7.out) (fun k_ hk => ⟨hk.1, fun e_ => by have := Kd.N_base HO7.out _ e_.symm; have := hk.2; omega⟩) (fun k_ hk => .inr (by have := HWS.out; have := HWL.out; have := HS7.out; (try simp at hk); omega)) HB7.out HS7.out (by have := HB4.out; have := HB5n.out; simp; omega) ?_; intro v8 w8 ho hb hg hat; have hx8 : w8.cell? (ad.add k) = some (.slice Ai x.length ci) := (hb.cell (World.block_lt_of_cell? _ _ hx5)).trans hx5; have HO8 := Aside0.mk ho; have HB8 := Aside0.mk hb; clear ho hb hg hat HO7 HB7 hx7))
      all_goals
       go_wp2
       go_roundw
       case rel => exact ⟨k + 1, by omega, by go_num, ⟨by rw [HT2.out]; exact Kd.N_lower HO8.out (Nat.le_trans HWS.out HWL.out)⟩, ⟨below_step (below_step HB2.out HB5.out) HB8.out⟩⟩
       case measure => simp [intOf]; omega
   ·obtain rfl : k = l0.length := by omega
    go_wp2
    go_ret
    exact ⟨_, rfl, by have h_ := HO.out; rw [List.take_length] at h_; exact h_, HB.out⟩
 ·rw [if_neg hl] at h
  exact absurd h (by simp)

end Go.Proofs.Ytaiechbdcddalaa.Print
