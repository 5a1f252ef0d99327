-- Written by a program of this session (wip/cprint.py), which calls the kit's print and adds contracts proved by hand.
import Derived.Test.YtgpacbklpmloaaaPrint0
namespace Go.Proofs.Ytgpacbklpmloaaa.Print
open Go.RowKit Go.Proofs.YtgpacbklpmloaaaW.PrintWords Go.Proofs.YtgpacbklpmloaaaW.PrintLast Go.Proofs.YtgpacbklpmloaaaW.PrintMore
attribute [local go_sem] max2_int min2_int max_two min_two max_three min_three max_four min_four   -- for this text's walks alone
set_option linter.unusedVariables false
set_option linter.unusedSimpArgs false

/-! ### words_Shared: function 26 -/
def words_Shared.l0 : Nat → List Int → List Int → List Int → Int → Int → Option (Int)
 | 0, _, _, _, _, _ => none
 | k + 1, x0, x1, x13, x14, x15 => if x15 < x14 then (if 0 ≤ x15 then (if x15 < (x13.length : Int) then (if x15 < (x1.length : Int) then (if (rd x1 x15) = (rd x13 x15) then (words_Shared.l0 k x0 x1 x13 x14 (wrap64 (x15 + 1))) else (some x15)) else (none)) else (none)) else (none)) else (some (mn (x0.length : Int) (x1.length : Int)))
def words_Shared.f (k : Nat) (l0 : List Int) (l1 : List Int) : Option (Int) := if 0 ≤ (mn (l0.length : Int) (l1.length : Int)) then (if (mn (l0.length : Int) (l1.length : Int)) ≤ (l0.length : Int) then (words_Shared.l0 k l0 l1 (l0.take ((mn (l0.length : Int) (l1.length : Int)) : Int).toNat) ((l0.take ((mn (l0.length : Int) (l1.length : Int)) : Int).toNat).length : Int) 0) else (none)) else (none)
theorem words_Shared.mono_l : ∀ k, (∀ y0 y1 y2 y3 y4, LeO (words_Shared.l0 k y0 y1 y2 y3 y4) (words_Shared.l0 (k + 1) y0 y1 y2 y3 y4))
 | 0 => fun _ _ _ _ _ r h => by simp [words_Shared.l0] at h
 | k + 1 => by
  have ih0 := words_Shared.mono_l k
  ·intro y0 y1 y2 y3 y4
   unfold words_Shared.l0
   repeat' first
   | (with_reducible exact ih0 _ _ _ _ _)
   | (with_reducible exact LeO.refl _)
   | (with_reducible exact LeO.none _)
   | (with_reducible refine LeO.ite ?_ ?_)
   | (with_reducible refine LeO.bind ?_ (fun _ => ?_))
   | exact ih0 _ _ _ _ _
   | exact LeO.none _
   | refine LeO.ite ?_ ?_
   | refine LeO.bind ?_ (fun _ => ?_)
theorem words_Shared.mono : ∀ a0 a1 k, LeO (words_Shared.f k a0 a1) (words_Shared.f (k + 1) a0 a1) := by
 intro a0 a1 k
 have ih0 := words_Shared.mono_l k
 unfold words_Shared.f
 repeat' first
   | (with_reducible exact ih0 _ _ _ _ _)
   | (with_reducible exact LeO.refl _)
   | (with_reducible exact LeO.none _)
   | (with_reducible refine LeO.ite ?_ ?_)
   | (with_reducible refine LeO.bind ?_ (fun _ => ?_))
   | exact ih0 _ _ _ _ _
   | exact LeO.none _
   | refine LeO.ite ?_ ?_
   | refine LeO.bind ?_ (fun _ => ?_)
set_option maxHeartbeats 8000000 in
set_option maxRecDepth 100000 in
theorem words_Shared.calls (k : Nat) (A0 : Option Addr) (c0 : Nat) (l0 : List Int) (A1 : Option Addr) (c1 : Nat) (l1 : List Int) (r : Int) (w : World) (hr0 : Kd.C (Kd.int .u8) w A0 l0.length l0) (hc0 : l0.length ≤ c0) (hr1 : Kd.C (Kd.int .u8) w A1 l1.length l1) (hc1 : l1.length ≤ c1) (h : words_Shared.f k l0 l1 = some r) :
  Calls Try.prog 26 #[.slice A0 l0.length c0, .slice A1 l1.length c1] w fun e w' => e = .returned (.int .i64 r) ∧ Below w.heap.size w w' := by
 have HR0 := Aside0.mk hr0
 have HC0 := Aside0.mk hc0
 clear hr0 hc0
 have HR1 := Aside0.mk hr1
 have HC1 := Aside0.mk hc1
 clear hr1 hc1
 have HB := Aside0.mk (Below.refl w.heap.size w)
 have H : (if 0 ≤ (mn (l0.length : Int) (l1.length : Int)) then (if (mn (l0.length : Int) (l1.length : Int)) ≤ (l0.length : Int) then (words_Shared.l0 k l0 l1 (l0.take ((mn (l0.length : Int) (l1.length : Int)) : Int).toNat) ((l0.take ((mn (l0.length : Int) (l1.length : Int)) : Int).toNat).length : Int) 0) else (none)) else (none)) = some r := h
 clear h
 obtain ⟨ji3, hji3⟩ : ∃ j_ : Int, (mn (l0.length : Int) (l1.length : Int)) = j_ := ⟨_, rfl⟩
 replace H : (if 0 ≤ (ji3) then (if (ji3) ≤ (l0.length : Int) then (words_Shared.l0 k l0 l1 (l0.take ((ji3) : Int).toNat) ((l0.take ((ji3) : Int).toNat).length : Int) 0) else (none)) else (none)) = some r := by first | (rw [hji3] at H; exact H) | (simp only [hji3] at H ⊢; exact H)
 (try (have hji3l : 0 ≤ ji3 := by (rw [← hji3]; unfold mn; (repeat' split) <;> omega)))
 (try (have hji3m : 0 ≤ ji3 := by omega))
 have hji3_ : (if (l1.length : Int) < (l0.length : Int) then (l1.length : Int) else (l0.length : Int)) = ji3 := hji3
 have hji3n_ : (if l1.length < l0.length then (l1.length : Int) else (l0.length : Int)) = ji3 := by rw [← hji3]; unfold mn; simp only [Int.ofNat_lt]
 by_cases c4 : 0 ≤ (ji3)
 ·rw [if_pos c4] at H
  have c4b0 := eq_true c4
  have c4b1 : decide (0 ≤ (ji3)) = true := decide_eq_true c4
  clear c4
  by_cases c5 : (ji3) ≤ (l0.length : Int)
  ·rw [if_pos c5] at H
   have c5b0 := eq_true c5
   have c5b1 : decide ((ji3) ≤ (l0.length : Int)) = true := decide_eq_true c5
   clear c5
   have H' := Aside0.mk H
   clear H
   obtain ⟨i06, hi06, _, hsz6, _⟩ := info_parts info5
   obtain ⟨hcut6, hA6, hC6⟩ := print_take_of (P := Try.prog) (Value.int .u8) 0 27 5 .i64 Try.underlying27 hi06 hsz6 A0 c0 l0 (ji3) (of_decide_eq_true (by first | (with_reducible assumption) | assumption)) (of_decide_eq_true (by first | (with_reducible assumption) | assumption)) HC0.out
   have HR394 := Aside0.mk (Kd.C_of_reads (h1 := fun _ => rfl) (hA6 _ (Kd.reads_of_C HR0.out)))
   have HC394 := Aside0.mk hC6
   clear hA6 hC6 hi06 hsz6
   obtain ⟨T6_, hT6_⟩ : ∃ t_, t_ = (l0.take ((ji3) : Int).toNat) := ⟨_, rfl⟩
   try rw [← hT6_] at H'
   rw [← hT6_] at hcut6 HR394 HC394
   have hNT6_ := Aside0.mk hT6_
   clear hT6_
   go_enter Try.func26, Try.ntmps26
   go_wp2
   go_loopg [15] k (fun kq v15 w' => ∃ (x15_1 : Int), v15 = .int .i64 x15_1 ∧ Aside0 (words_Shared.l0 kq l0 l1 T6_ (T6_.length : Int) x15_1 = some r) ∧ Aside0 (kq ≤ k) ∧ Aside0 (Below w.heap.size w w'))
   case atStart => exact ⟨(0), (by first | rfl | (simp; done) | (simp [*]; done)), H', ⟨Nat.le_refl _⟩, ⟨by repeat (first | (with_reducible first | exact HB.out | apply below_alloc | apply pw_below_drewN | apply below_drew1) | exact HB.out)⟩⟩
   case round =>
    clear H'
    try clear c1
    try clear c2
    try clear p2
    try clear c4
    try clear c4b0
    try clear c4b1
    try clear c5
    try clear c5b0
    try clear c5b1
    obtain ⟨x15_1, rfl, HA, HK1, HB⟩ := hrel
    cases gk with
    | zero => exact absurd HA.out (by simp [words_Shared.l0])
    | succ k1 =>
     have H := HA.out
     clear HA
     simp only [words_Shared.l0] at H
     by_cases c7 : x15_1 < (T6_.length : Int)
     ·rw [if_pos c7] at H
      have c7b0 : decide (x15_1 < (T6_.length : Int)) = true := decide_eq_true c7
      clear c7
      by_cases c8 : 0 ≤ x15_1
      ·rw [if_pos c8] at H
       have c8b0 : decide (0 ≤ x15_1) = true := decide_eq_true c8
       clear c8
       by_cases c9 : x15_1 < (T6_.length : Int)
       ·rw [if_pos c9] at H
        have c9b0 : decide (x15_1 < (T6_.length : Int)) = true := decide_eq_true c9
        clear c9
        by_cases c10 : x15_1 < (l1.length : Int)
        ·rw [if_pos c10] at H
         have c10b0 : decide (x15_1 < (l1.length : Int)) = true := decide_eq_true c10
         clear c10
         by_cases c11 : (rd l1 x15_1) = (rd T6_ x15_1)
         ·rw [if_pos c11] at H
          have c11b0 : ((rd l1 x15_1) == (rd T6_ x15_1)) = true := beq_iff_eq.mpr c11
          have c11b1 : ((rd l1 x15_1) != (rd T6_ x15_1)) = false := bne_eq_false_iff_eq.mpr c11
          clear c11
          have H' := Aside0.mk H
          clear H
          have p395 : 0 ≤ (x15_1 : Int) := of_decide_eq_true (by first | (with_reducible assumption) | assumption)
          have q395 : x15_1 < (T6_.length : Int) := of_decide_eq_true (by first | (with_reducible assumption) | assumption)
          obtain ⟨ad395, e395, hx395_0⟩ := Kd.at_int HR394.out x15_1 p395 q395
          cases e395
          replace hx395_0 := (HB.out.cell (World.block_lt_of_cell? w _ hx395_0)).trans hx395_0
          replace p395 := eq_true p395
          replace q395 := eq_true q395
          have p396 : 0 ≤ (x15_1 : Int) := of_decide_eq_true (by first | (with_reducible assumption) | assumption)
          have q396 : x15_1 < (l1.length : Int) := of_decide_eq_true (by first | (with_reducible assumption) | assumption)
          obtain ⟨ad396, e396, hx396_0⟩ := Kd.at_int HR1.out x15_1 p396 q396
          cases e396
          replace hx396_0 := (HB.out.cell (World.block_lt_of_cell? w _ hx396_0)).trans hx396_0
          replace p396 := eq_true p396
          replace q396 := eq_true q396
          go_wp2
          go_roundg k1
          case measure => have := HK1.out; omega
          case rel => exact ⟨(wrap64 (x15_1 + 1)), (by first | rfl | (simp; done) | (simp [*]; done)), H', ⟨by have := HK1.out; omega⟩, ⟨by repeat (first | (with_reducible first | exact HB.out | apply below_alloc | apply pw_below_drewN | apply below_drew1) | exact HB.out)⟩⟩
         ·rw [if_neg c11] at H
          have c11b0 : ((rd l1 x15_1) == (rd T6_ x15_1)) = false := beq_eq_false_iff_ne.mpr c11
          have c11b1 : ((rd l1 x15_1) != (rd T6_ x15_1)) = true := bne_iff_ne.mpr c11
          obtain rfl := Option.some.inj H
          have p395 : 0 ≤ (x15_1 : Int) := of_decide_eq_true (by first | (with_reducible assumption) | assumption)
          have q395 : x15_1 < (T6_.length : Int) := of_decide_eq_true (by first | (with_reducible assumption) | assumption)
          obtain ⟨ad395, e395, hx395_0⟩ := Kd.at_int HR394.out x15_1 p395 q395
          cases e395
          replace hx395_0 := (HB.out.cell (World.block_lt_of_cell? w _ hx395_0)).trans hx395_0
          replace p395 := eq_true p395
          replace q395 := eq_true q395
          have p396 : 0 ≤ (x15_1 : Int) := of_decide_eq_true (by first | (with_reducible assumption) | assumption)
          have q396 : x15_1 < (l1.length : Int) := of_decide_eq_true (by first | (with_reducible assumption) | assumption)
          obtain ⟨ad396, e396, hx396_0⟩ := Kd.at_int HR1.out x15_1 p396 q396
          cases e396
          replace hx396_0 := (HB.out.cell (World.block_lt_of_cell? w _ hx396_0)).trans hx396_0
          replace p396 := eq_true p396
          replace q396 := eq_true q396
          go_wp2
          go_ret
          exact ⟨by first | rfl | (simp [errW_none, errW_some] <;> rfl) | (simp only [← hji3]; first | rfl | (simp [errW_none, errW_some] <;> rfl)) | (simp [*, errW_none, errW_some] <;> rfl), by repeat (first | (with_reducible first | exact HB.out | apply below_alloc | apply pw_below_drewN | apply below_drew1) | exact HB.out)⟩
        ·rw [if_neg c10] at H
         exact absurd H (by simp)
       ·rw [if_neg c9] at H
        exact absurd H (by simp)
      ·rw [if_neg c8] at H
       exact absurd H (by simp)
     ·rw [if_neg c7] at H
      have c7b0 : decide (x15_1 < (T6_.length : Int)) = false := decide_eq_false c7
      clear c7
      obtain ⟨ji12, hji12⟩ : ∃ j_ : Int, (mn (l0.length : Int) (l1.length : Int)) = j_ := ⟨_, rfl⟩
      replace H : (some ji12) = some r := by first | (rw [hji12] at H; exact H) | (simp only [hji12] at H ⊢; exact H)
      (try (have hji12l : 0 ≤ ji12 := by (rw [← hji12]; unfold mn; (repeat' split) <;> omega)))
      (try (have hji12m : 0 ≤ ji12 := by omega))
      have hji12_ : (if (l1.length : Int) < (l0.length : Int) then (l1.length : Int) else (l0.length : Int)) = ji12 := hji12
      have hji12n_ : (if l1.length < l0.length then (l1.length : Int) else (l0.length : Int)) = ji12 := by rw [← hji12]; unfold mn; simp only [Int.ofNat_lt]
      obtain rfl := Option.some.inj H
      go_wp2
      go_ret
      exact ⟨by first | rfl | (simp [errW_none, errW_some] <;> rfl) | (simp only [← hji3, ← hji12]; first | rfl | (simp [errW_none, errW_some] <;> rfl)) | (simp [*, errW_none, errW_some] <;> rfl), by repeat (first | (with_reducible first | exact HB.out | apply below_alloc | apply pw_below_drewN | apply below_drew1) | exact HB.out)⟩
  ·rw [if_neg c5] at H
   exact absurd H (by simp)
 ·rw [if_neg c4] at H
  exact absurd H (by simp)

-- NOT PRINTED: function 47 (bytealg_Compare)

/-! ### bytes_Compare: function 45 -/
/-- The bytes of a slice, as the library's own compare reads them. -/
theorem bytes_run {w : World} {A : Option Addr} {l : List Int} (c : Nat) (h : Kd.C (Kd.int .u8) w A l.length l) : (Extern.Bytes.bytesOf (.slice A l.length c)).run Try.prog w = .ok ⟨(Lib.bytesOf l).toArray⟩ w := by
 have hr := Kd.reads_of_C (d := (0 : Int)) h
 rcases A with _ | ad
 ·have h0 : l = [] := List.eq_nil_of_length_eq_zero (Nat.eq_zero_of_not_pos (fun hp => by obtain ⟨_, e, _⟩ := hr.2.2 hp; cases e))
  subst h0
  rfl
 ·have hc : ∀ j x, l[j]? = some x → w.cell? (ad.add j) = some (.int .u8 x) := by
   intro j x hx
   have hj := (List.getElem?_eq_some_iff.1 hx).1
   obtain ⟨ad', e, hcell⟩ := hr.2.2 (by omega)
   cases e
   rw [hcell j hj, List.getD_eq_getElem?_getD, hx]; rfl
  have := Lib.run_loadBytesX (P := Try.prog) w l ad ByteArray.empty hc
  show (Extern.Bytes.loadBytes ad l.length .empty).run Try.prog w = _
  rw [this]
  congr 1
  apply ByteArray.ext
  simp
def bytes_Compare.f (l0 l1 : List Int) : Option Int := some (Lib.compareBytes (Lib.bytesOf l0) (Lib.bytesOf l1))
set_option maxHeartbeats 2000000 in
set_option maxRecDepth 100000 in
theorem bytes_Compare.calls (A0 : Option Addr) (c0 : Nat) (l0 : List Int) (A1 : Option Addr) (c1 : Nat) (l1 : List Int) (r : Int) (w : World) (hr0 : Kd.C (Kd.int .u8) w A0 l0.length l0) (hc0 : l0.length ≤ c0) (hr1 : Kd.C (Kd.int .u8) w A1 l1.length l1) (hc1 : l1.length ≤ c1) (h : bytes_Compare.f l0 l1 = some r) :
  Calls Try.prog 45 #[.slice A0 l0.length c0, .slice A1 l1.length c1] w fun e w' => e = .returned (.int .i64 r) ∧ Below w.heap.size w w' := by
 obtain rfl := Option.some.inj h
 clear h
 have hrun : (Extern.BytealgCompare.compare #[.slice A0 l0.length c0, .slice A1 l1.length c1]).run Try.prog w = .ok (.int .i64 (Lib.compareBytes (Lib.bytesOf l0) (Lib.bytesOf l1))) w := by
  change Sem.run Try.prog (do pure (goInt (Extern.BytealgCompare.cmp (← Extern.Bytes.bytesOf (.slice A0 l0.length c0)) (← Extern.Bytes.bytesOf (.slice A1 l1.length c1))))) w = _
  simp only [Sem.run_bind, bytes_run c0 hr0, bytes_run c1 hr1, Sem.run_pure, Result.andThen]
  rw [Lib.cmp_eq]
  rfl
 have hcall := run_callFunc_extern (P := Try.prog) (f := 47) (fn := Try.f47) (e := Extern.BytealgCompare.compare) Try.func47 (by kernel_rfl) (by kernel_rfl) (by kernel_rfl) (by kernel_rfl) #[.slice A0 l0.length c0, .slice A1 l1.length c1] w
 rw [hrun] at hcall
 have HCALL := Aside0.mk hcall
 clear hcall hrun hr0 hr1 hc0 hc1
 go_enter Try.func45, Try.ntmps45
 go_wp2
 rw [HCALL.out]
 simp only [Result.andThen]
 rw [Oper.upon_value]
 go_wp2
 go_ret
 exact ⟨rfl, Below.refl _ _⟩

/-! ### words_follows: function 40 -/
def words_follows.f (l0 : List Int) (l1 : List Int) : Option (Bool) := if (l1.length : Int) ≥ 1 then (if (l1.length : Int) ≤ 32 then ((bytes_Compare.f l0 l1).bind fun t397 => (some (decide (t397 < 0)))) else (some false)) else (some false)
set_option maxHeartbeats 8000000 in
set_option maxRecDepth 100000 in
theorem words_follows.calls (A0 : Option Addr) (c0 : Nat) (l0 : List Int) (A1 : Option Addr) (c1 : Nat) (l1 : List Int) (r : Bool) (w : World) (hr0 : Kd.C (Kd.int .u8) w A0 l0.length l0) (hc0 : l0.length ≤ c0) (hr1 : Kd.C (Kd.int .u8) w A1 l1.length l1) (hc1 : l1.length ≤ c1) (h : words_follows.f l0 l1 = some r) :
  Calls Try.prog 40 #[.slice A0 l0.length c0, .slice A1 l1.length c1] w fun e w' => e = .returned (.bool r) ∧ Below w.heap.size w w' := by
 have HR0 := Aside0.mk hr0
 have HC0 := Aside0.mk hc0
 clear hr0 hc0
 have HR1 := Aside0.mk hr1
 have HC1 := Aside0.mk hc1
 clear hr1 hc1
 have HB := Aside0.mk (Below.refl w.heap.size w)
 have H : (if (l1.length : Int) ≥ 1 then (if (l1.length : Int) ≤ 32 then ((bytes_Compare.f l0 l1).bind fun t397 => (some (decide (t397 < 0)))) else (some false)) else (some false)) = some r := h
 clear h
 by_cases c3 : (l1.length : Int) ≥ 1
 ·rw [if_pos c3] at H
  have c3b0 : decide (1 ≤ (l1.length : Int)) = true := decide_eq_true c3
  have c3b1 : decide (1 ≤ l1.length) = true := decide_eq_true (by omega)
  clear c3
  by_cases c4 : (l1.length : Int) ≤ 32
  ·rw [if_pos c4] at H
   have c4b0 : decide ((l1.length : Int) ≤ 32) = true := decide_eq_true c4
   have c4b1 : decide (l1.length ≤ 32) = true := decide_eq_true (by omega)
   clear c4
   replace H := Option.bind_eq_some_iff.mp H
   obtain ⟨t397, A50, H⟩ := H
   replace H : (some (decide (t397 < 0))) = some r := H
   have A5 := Aside0.mk A50
   clear A50
   obtain rfl := Option.some.inj H
   go_enter Try.func40, Try.ntmps40
   go_wp2_with (first | ((with_reducible refine gate_dst (N := 16) rfl ?_); (try (refine gate_guard (by rfl) ?_; dsimp only)); (with_reducible refine gate_callee (f := 45) rfl ?_); refine goesL_ (some 16) rfl rfl Try.func45 (by kernel_rfl) rfl #[.slice A0 l0.length c0, .slice A1 l1.length c1] rfl (by (try simp only [List.map_toArray, List.map_cons, List.map_nil]); first | done | rfl | (simp only [List.length_drop, List.length_take]; rfl)) ?_; (with_reducible refine (bytes_Compare.calls _ _ l0 _ _ l1 t397 _ ?side1 ?side2 ?side3 ?side4 A5.out).mono ?_); (case side1 => repeat (first | exact HR0.out | (with_reducible refine Kd.C_alloc ?_ _) | (with_reducible refine Kd.C_drewN ?_ _) | (with_reducible refine Kd.C_drew ?_))); (case side2 => exact HC0.out); (case side3 => repeat (first | exact HR1.out | (with_reducible refine Kd.C_alloc ?_ _) | (with_reducible refine Kd.C_drewN ?_ _) | (with_reducible refine Kd.C_drew ?_))); (case side4 => exact HC1.out); rintro e w6 ⟨rfl, hb⟩; refine ⟨_, rfl, ?_⟩; have n0_ := Aside0.mk (below_step (by repeat (first | (with_reducible first | exact HB.out | apply below_alloc | apply pw_below_drewN | apply below_drew1) | exact HB.out)) hb); clear HB; have HB := n0_; clear n0_; (try clear hb); (try clear hb2); (try clear hk); (try clear hi)))
   go_ret
   exact ⟨by first | rfl | (simp [errW_none, errW_some] <;> rfl) | (simp [*, errW_none, errW_some] <;> rfl), by repeat (first | (with_reducible first | exact HB.out | apply below_alloc | apply pw_below_drewN | apply below_drew1) | exact HB.out)⟩
  ·rw [if_neg c4] at H
   have c4b0 : decide ((l1.length : Int) ≤ 32) = false := decide_eq_false c4
   have c4b1 : decide (l1.length ≤ 32) = false := decide_eq_false (by omega)
   clear c4
   obtain rfl := Option.some.inj H
   go_enter Try.func40, Try.ntmps40
   go_wp2
   go_ret
   exact ⟨by first | rfl | (simp [errW_none, errW_some] <;> rfl) | (simp [*, errW_none, errW_some] <;> rfl), by repeat (first | (with_reducible first | exact HB.out | apply below_alloc | apply pw_below_drewN | apply below_drew1) | exact HB.out)⟩
 ·rw [if_neg c3] at H
  have c3b0 : decide (1 ≤ (l1.length : Int)) = false := decide_eq_false c3
  have c3b1 : decide (1 ≤ l1.length) = false := decide_eq_false (by omega)
  clear c3
  obtain rfl := Option.some.inj H
  go_enter Try.func40, Try.ntmps40
  go_wp2
  go_ret
  exact ⟨by first | rfl | (simp [errW_none, errW_some] <;> rfl) | (simp [*, errW_none, errW_some] <;> rfl), by repeat (first | (with_reducible first | exact HB.out | apply below_alloc | apply pw_below_drewN | apply below_drew1) | exact HB.out)⟩

end Go.Proofs.Ytgpacbklpmloaaa.Print
