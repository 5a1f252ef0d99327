/- Words of the print, of which only those stand here that this claim names. -/
-- Written by a program of this session (wip/cprint.py), which calls the kit's print and adds contracts proved by hand.
import Derived.Test.YtaiechbdcddalaaPrint0
import Derived.Test.YtaiechbdcddalaaPrint1
import Derived.Test.YtaiechbdcddalaaPrint3
import Derived.Test.YtaiechbdcddalaaPrint4
import Derived.Test.YtaiechbdcddalaaPrint5
import Derived.Test.YtaiechbdcddalaaPrint6
namespace Go.Proofs.Ytaiechbdcddalaa.Print
open Go.RowKit Go.Proofs.YtaiechbdcddalaaW.PrintWords Go.Proofs.YtaiechbdcddalaaW.PrintLast Go.Proofs.YtaiechbdcddalaaW.PrintMore
attribute [local go_sem] max2_int min2_int max_two min_two max_three min_three max_four min_four   -- for this text's walks alone
set_option linter.unusedVariables false
set_option linter.unusedSimpArgs false

/-! ### words_Take: function 31 -/
mutual
def words_Take.j0 : Nat → Int → List Int → Bool → Option ((List (List Int)) × Int)
 | 0, _, _, _ => none
 | k + 1, x4, x5, x27 => if x27 = true then (some (([] : List (List Int)), 6)) else (words_Take.l0 k x5 ([] : List (List Int)) ([] : List Int) x4 0)
def words_Take.l0 : Nat → List Int → List (List Int) → List Int → Int → Int → Option ((List (List Int)) × Int)
 | 0, _, _, _, _, _ => none
 | k + 1, x5, x7, x8, x28, x29 => if x29 < x28 then ((words_word.f k x8 x5).bind fun bt264 => (if bt264.2.2 = true then (if x7.length < 5864062014805 then (words_Take.l0 k bt264.2.1 (x7 ++ [bt264.1]) bt264.1 x28 (IntKind.u64.wrap (x29 + 1))) else (none)) else (some (([] : List (List Int)), 6)))) else (if (x5.length : Int) > 0 then (some (([] : List (List Int)), 6)) else (some (x7, 0)))
end
def words_Take.f (k : Nat) (l0 : List Int) : Option ((List (List Int)) × Int) := (vary_Take.f k l0).bind fun bt259 => (if bt259.2.2 = 0 then (if bt259.1 < 1 then (words_Take.j0 k bt259.1 bt259.2.1 true) else (words_Take.j0 k bt259.1 bt259.2.1 (decide (bt259.1 > 16)))) else (words_Take.j0 k bt259.1 bt259.2.1 true))
set_option maxHeartbeats 8000000 in
set_option maxRecDepth 100000 in
theorem words_Take.calls (k : Nat) (A0 : Option Addr) (c0 : Nat) (l0 : List Int) (r1 : List (List Int)) (r2 : Int) (w : World) (hr0 : Kd.C (Kd.int .u8) w A0 l0.length l0) (hc0 : l0.length ≤ c0) (h : words_Take.f k l0 = some (r1, r2)) :
  Calls Try.prog 31 #[.slice A0 l0.length c0] w fun e w' => ∃ v0_ : Value, e = .returned (.tuple #[v0_, .int .i64 r2]) ∧ Kd.N (Kd.slice 5 (Kd.int .u8)) 26 w' w.heap.size (fun k_ => (w.heap.size ≤ k_)) v0_ r1 ∧ Below w.heap.size w w' := by
 have HR0 := Aside0.mk hr0
 have HC0 := Aside0.mk hc0
 clear hr0 hc0
 have HB := Aside0.mk (Below.refl w.heap.size w)
 have H : ((vary_Take.f k l0).bind fun bt259 => (if bt259.2.2 = 0 then (if bt259.1 < 1 then (words_Take.j0 k bt259.1 bt259.2.1 true) else (words_Take.j0 k bt259.1 bt259.2.1 (decide (bt259.1 > 16)))) else (words_Take.j0 k bt259.1 bt259.2.1 true))) = some (r1, r2) := h
 clear h
 replace H := Option.bind_eq_some_iff.mp H
 obtain ⟨⟨t259, t260, t261⟩, A20, H⟩ := H
 replace H : (if t261 = 0 then (if t259 < 1 then (words_Take.j0 k t259 t260 true) else (words_Take.j0 k t259 t260 (decide (t259 > 16)))) else (words_Take.j0 k t259 t260 true)) = some (r1, r2) := H
 have A2 := Aside0.mk A20
 clear A20
 have HC3 := Aside0.mk H
 clear H
 go_enter Try.func31, Try.ntmps31
 go_upto_region 2 with (first | ((with_reducible refine gate_callee (f := 49) rfl ?_); refine goesL_ (some 14) rfl rfl Try.func49 (by kernel_rfl) rfl #[.slice A0 l0.length c0] rfl (by (try simp only [List.map_toArray, List.map_cons, List.map_nil]); first | done | rfl | (simp only [List.length_drop, List.length_take]; rfl)) ?_; (with_reducible refine (vary_Take.calls k _ _ l0 t259 t260 t261 _ ?side1 ?side2 A2.out).mono ?_); (case side1 => repeat (first | exact HR0.out | (with_reducible refine Kd.C_alloc ?_ _) | (with_reducible refine Kd.C_drewN ?_ _) | (with_reducible refine Kd.C_drew ?_))); (case side2 => exact HC0.out); rintro e w4 ⟨v262, rfl, ho0, hb⟩; refine ⟨_, rfl, ?_⟩; have n0_ := Aside0.mk (Kd.R_lower (Kd.R_newM (M := fun k_ => (w.heap.size ≤ k_)) ho0 (below_size (by repeat (first | (with_reducible first | exact HB.out | apply below_alloc | apply pw_below_drewN | apply below_drew1) | exact HB.out))) (fun k_ h_ => h_)) (below_size (by repeat (first | (with_reducible first | exact HB.out | apply below_alloc | apply pw_below_drewN | apply below_drew1) | exact HB.out)))); have n1_ := Aside0.mk (below_step (by repeat (first | (with_reducible first | exact HB.out | apply below_alloc | apply pw_below_drewN | apply below_drew1) | exact HB.out)) hb); clear HB; have HO263 := n0_; have HB := n1_; clear n0_ n1_; (try clear hb); (try clear hb2); (try clear hk); (try clear hi); (try clear ho0)))
 (try simp only [Act.put, List.setIfInBounds_toArray, List.set_cons_zero, List.set_cons_succ])
 go_cut [27] (fun v27 wc => ∃ (kq : Nat) (x27_2 : Bool), v27 = .bool x27_2 ∧ Aside0 (words_Take.j0 kq t259 t260 x27_2 = some (r1, r2)) ∧ Aside0 (kq ≤ k) ∧ Aside0 (Kd.Q (Kd.int .u8) 5 wc w.heap.size (fun k_ => (w.heap.size ≤ k_)) v262 t260) ∧ Aside0 (Below w.heap.size w wc))
 case first =>
  have H := HC3.out
  clear HC3
  by_cases c5 : t261 = 0
  ·rw [if_pos c5] at H
   have c5b0 : (t261 == 0) = true := beq_iff_eq.mpr c5
   have c5b1 : (t261 != 0) = false := bne_eq_false_iff_eq.mpr c5
   clear c5
   (first | rw [c5b0] | (simp only [i64_w, i32_w]; rw [c5b0]) | skip)
   by_cases c6 : t259 < 1
   ·rw [if_pos c6] at H
    have c6b0 : decide (t259 < 1) = true := decide_eq_true c6
    clear c6
    have H' := Aside0.mk H
    clear H
    go_wp2
    go_meet
    case rel => exact ⟨_, (true), (by first | rfl | (simp; done) | (simp [*]; done)), H', ⟨by first | omega | exact Nat.le_refl _⟩, ⟨Kd.Q_of_R (by (with_reducible repeat (first | apply Kd.R_alloc | apply Kd.R_drewN | apply Kd.R_drew)); exact Kd.R_mono HO263.out (fun _ hk => hk.1))⟩, ⟨by repeat (first | (with_reducible first | exact HB.out | apply below_alloc | apply pw_below_drewN | apply below_drew1) | exact HB.out)⟩⟩
   ·rw [if_neg c6] at H
    have c6b0 : decide (t259 < 1) = false := decide_eq_false c6
    clear c6
    have H' := Aside0.mk H
    clear H
    go_wp2
    go_meet
    case rel => exact ⟨_, (decide (t259 > 16)), (by first | rfl | (simp; done) | (simp [*]; done)), H', ⟨by first | omega | exact Nat.le_refl _⟩, ⟨Kd.Q_of_R (by (with_reducible repeat (first | apply Kd.R_alloc | apply Kd.R_drewN | apply Kd.R_drew)); exact Kd.R_mono HO263.out (fun _ hk => hk.1))⟩, ⟨by repeat (first | (with_reducible first | exact HB.out | apply below_alloc | apply pw_below_drewN | apply below_drew1) | exact HB.out)⟩⟩
  ·rw [if_neg c5] at H
   have c5b0 : (t261 == 0) = false := beq_eq_false_iff_ne.mpr c5
   have c5b1 : (t261 != 0) = true := bne_iff_ne.mpr c5
   (first | rw [c5b0] | (simp only [i64_w, i32_w]; rw [c5b0]) | skip)
   have H' := Aside0.mk H
   clear H
   go_wp2
   go_meet
   case rel => exact ⟨_, (true), (by first | rfl | (simp; done) | (simp [*]; done)), H', ⟨by first | omega | exact Nat.le_refl _⟩, ⟨Kd.Q_of_R (by (with_reducible repeat (first | apply Kd.R_alloc | apply Kd.R_drewN | apply Kd.R_drew)); exact Kd.R_mono HO263.out (fun _ hk => hk.1))⟩, ⟨by repeat (first | (with_reducible first | exact HB.out | apply below_alloc | apply pw_below_drewN | apply below_drew1) | exact HB.out)⟩⟩
 case rest =>
  clear HC3
  try clear p2
  try clear c3
  try clear c4
  try clear c5
  try clear c5b0
  try clear c5b1
  try clear c6
  try clear c6b0
  obtain ⟨kq, x27_2, rfl, HA, HJ2, HO_5, HB⟩ := hcut
  cases kq with
  | zero => exact absurd HA.out (by simp [words_Take.j0])
  | succ kj2 =>
   have H := HA.out
   clear HA
   simp only [words_Take.j0] at H
   by_cases c7 : x27_2 = true
   ·subst c7
    have H1 : (some (([] : List (List Int)), 6)) = some (r1, r2) := by rw [if_pos rfl] at H; exact H
    clear H
    have H := H1
    clear H1
    simp only [Option.some.injEq, Prod.mk.injEq] at H
    obtain ⟨rfl, rfl⟩ := H
    go_wp2
    go_ret2
    exact ⟨_, by first | rfl | (simp [errW_none, errW_some] <;> rfl) | (simp [*, errW_none, errW_some] <;> rfl), by first | exact Kd.S_nil _ _ _ _ _ | exact Kd.N_nil _ _ _ _ _ | exact Kd.V_nil _ _ _ _ _ | exact Kd.Q_nil _ _ _ _ _ | exact Kd.R_nil _ _ _ _ _, by repeat (first | (with_reducible first | exact HB.out | apply below_alloc | apply pw_below_drewN | apply below_drew1) | exact HB.out)⟩
   ·replace c7 := Bool.eq_false_iff.mpr c7
    subst c7
    have H1 : (words_Take.l0 kj2 t260 ([] : List (List Int)) ([] : List Int) t259 0) = some (r1, r2) := by rw [if_neg (show ¬ (false = true) by decide)] at H; exact H
    clear H
    have H := H1
    clear H1
    have H' := Aside0.mk H
    clear H
    go_wp2
    go_loopg [5, 7, 8, 29] kj2 (fun kq v5 v7 v8 v29 w' => ∃ (x5_2 : List Int) (x7_2 : List (List Int)) (x8_2 : List Int) (x29_2 : Int), v29 = .int .u64 x29_2 ∧ Aside0 (words_Take.l0 kq x5_2 x7_2 x8_2 t259 x29_2 = some (r1, r2)) ∧ Aside0 (kq ≤ kj2) ∧ Aside0 (Kd.Q (Kd.int .u8) 5 w' w.heap.size (fun k_ => (w.heap.size ≤ k_)) v5 x5_2) ∧ Aside0 (Kd.N (Kd.slice 5 (Kd.int .u8)) 26 w' w.heap.size (fun k_ => (w.heap.size ≤ k_) ∧ some k_ ≠ (v5 : Value).ownBlock) v7 x7_2) ∧ Aside0 (Kd.V (Kd.int .u8) 5 w' w.heap.size (fun k_ => (w.heap.size ≤ k_) ∧ some k_ ≠ (v5 : Value).ownBlock ∧ some k_ ≠ (v7 : Value).ownBlock) v8 x8_2) ∧ Aside0 (Below w.heap.size w w'))
    case atStart => exact ⟨(t260), (([] : List (List Int))), (([] : List Int)), (0), (by first | rfl | (simp; done) | (simp [*]; done)), H', ⟨Nat.le_refl _⟩, ⟨by (with_reducible repeat (first | apply Kd.Q_alloc | apply Kd.Q_drewN | apply Kd.Q_drew)); exact HO_5.out⟩, ⟨by first | exact Kd.S_nil _ _ _ _ _ | exact Kd.N_nil _ _ _ _ _ | exact Kd.V_nil _ _ _ _ _ | exact Kd.Q_nil _ _ _ _ _ | exact Kd.R_nil _ _ _ _ _⟩, ⟨(by first | exact Kd.V_nil _ _ _ _ _ | exact Kd.R_V (by first | exact Kd.R_nil _ _ _ _ _ | exact Kd.N_nil _ _ _ _ _ | exact Kd.V_nil _ _ _ _ _ | exact Kd.Q_nil _ _ _ _ _ | exact Kd.S_nil _ _ _ _ _))⟩, ⟨by repeat (first | (with_reducible first | exact HB.out | apply below_alloc | apply pw_below_drewN | apply below_drew1) | exact HB.out)⟩⟩
    case round =>
     clear H'
     try clear p2
     try clear c3
     try clear c4
     try clear c5
     try clear c5b0
     try clear c5b1
     try clear c6
     try clear c6b0
     try clear c7
     try clear p2
     obtain ⟨x5_2, x7_2, x8_2, x29_2, rfl, HA, HK2, HO_5, HO_7, HO_8, HB⟩ := hrel
     cases gk with
     | zero => exact absurd HA.out (by simp [words_Take.l0])
     | succ k2 =>
      have H := HA.out
      clear HA
      simp only [words_Take.l0] at H
      by_cases c8 : x29_2 < t259
      ·rw [if_pos c8] at H
       have c8b0 : decide (x29_2 < t259) = true := decide_eq_true c8
       clear c8
       replace H := Option.bind_eq_some_iff.mp H
       obtain ⟨⟨t264, t267, t270⟩, A90, H⟩ := H
       replace H : (if t270 = true then (if x7_2.length < 5864062014805 then (words_Take.l0 k2 t267 (x7_2 ++ [t264]) t264 t259 (IntKind.u64.wrap (x29_2 + 1))) else (none)) else (some (([] : List (List Int)), 6))) = some (r1, r2) := H
       have A9 := Aside0.mk A90
       clear A90
       by_cases c10 : t270 = true
       ·subst c10
        have H1 : (if x7_2.length < 5864062014805 then (words_Take.l0 k2 t267 (x7_2 ++ [t264]) t264 t259 (IntKind.u64.wrap (x29_2 + 1))) else (none)) = some (r1, r2) := by rw [if_pos rfl] at H; exact H
        clear H
        have H := H1
        clear H1
        by_cases c11 : x7_2.length < 5864062014805
        ·rw [if_pos c11] at H
         have LMc11 := Aside0.mk c11
         clear c11
         obtain ⟨y271, hy271⟩ : ∃ y_ : List (List Int), y_ = (x7_2 ++ [t264]) := ⟨_, rfl⟩
         replace H : (words_Take.l0 k2 t267 y271 t264 t259 (IntKind.u64.wrap (x29_2 + 1))) = some (r1, r2) := by first | (rw [hy271]; with_reducible exact H) | (have H2_ := (Option.bind_some _ _).symm.trans H; rw [hy271]; with_reducible exact H2_) | (have H2_ := (Option.bind_some _ _).symm.trans H; with_reducible exact H2_) | with_reducible exact H | (rw [hy271]; exact H) | exact H
         have Ny271 := Aside0.mk hy271
         clear hy271
         have H' := Aside0.mk H
         clear H
         obtain ⟨Ao12, co12, eo12⟩ := Kd.V_slice HO_8.out
         subst eo12
         obtain ⟨Ao13, co13, eo13, _⟩ := Kd.Q_slice HO_5.out
         subst eo13
         go_wp2_with (first | ((with_reducible refine gate_callee (f := 50) rfl ?_); refine goesL_ (some 34) rfl rfl Try.func50 (by kernel_rfl) rfl #[.slice Ao12 x8_2.length co12, .slice Ao13 x5_2.length co13] rfl (by (try simp only [List.map_toArray, List.map_cons, List.map_nil]); first | done | rfl | (simp only [List.length_drop, List.length_take]; rfl)) ?_; (with_reducible refine (words_word.calls k2 (fun k_ => ((w.heap.size ≤ k_) ∧ (some k_ ≠ (.slice Ao13 x5_2.length co13 : Value).ownBlock ∧ some k_ ≠ (u7 : Value).ownBlock))) _ _ x8_2 _ _ x5_2 t264 t267 true _ ?side1 ?side2 ?side3 A9.out).mono ?_); (case side1 => exact HO_8.out); (case side2 => repeat (first | exact (Kd.Q_reads' HO_5.out).2.2 | (with_reducible refine Kd.C_alloc ?_ _) | (with_reducible refine Kd.C_drewN ?_ _) | (with_reducible refine Kd.C_drew ?_))); (case side3 => exact (Kd.Q_reads' HO_5.out).2.1); rintro e w14 ⟨v265, v268, rfl, ho0, ho1, hb⟩; refine ⟨_, rfl, ?_⟩; have n0_ := Aside0.mk (Kd.Q_elder' (by (with_reducible repeat (first | apply Kd.Q_alloc | apply Kd.Q_drewN | apply Kd.Q_drew)); exact HO_5.out) (Kd.Q_base ho1) hb); have n1_ := Aside0.mk (Kd.N_elder' (by (with_reducible repeat (first | apply Kd.N_alloc | apply Kd.N_drewN | apply Kd.N_drew)); exact HO_7.out) (Kd.Q_base ho1) hb); have n2_ := Aside0.mk (Kd.V_elder' (by (with_reducible repeat (first | apply Kd.V_alloc | apply Kd.V_drewN | apply Kd.V_drew)); exact HO_8.out) (Kd.Q_base ho1) hb); have n3_ := Aside0.mk (Kd.V_lower (Kd.V_mono (ok' := fun k_ => (w.heap.size ≤ k_) ∧ some k_ ≠ (v268 : Value).ownBlock ∧ some k_ ≠ (.slice Ao13 x5_2.length co13 : Value).ownBlock ∧ some k_ ≠ (u7 : Value).ownBlock) ho0 (fun k_ hk_ => ⟨Or.elim hk_.1 (fun hs_ => hs_.1) (fun hn_ => (Nat.le_trans (below_size (by repeat (first | (with_reducible first | exact HB.out | apply below_alloc | apply pw_below_drewN | apply below_drew1) | exact HB.out))) hn_)), hk_.2, Or.elim hk_.1 (fun hs_ => hs_.2.1) (fun hn_ => (Kd.fresh' (Kd.Q_lt (by (with_reducible repeat (first | apply Kd.Q_alloc | apply Kd.Q_drewN | apply Kd.Q_drew)); exact HO_5.out)) k_ hn_)), Or.elim hk_.1 (fun hs_ => hs_.2.2) (fun hn_ => (Kd.fresh' (Kd.N_lt (by (with_reducible repeat (first | apply Kd.N_alloc | apply Kd.N_drewN | apply Kd.N_drew)); exact HO_7.out)) k_ hn_))⟩)) (below_size (by repeat (first | (with_reducible first | exact HB.out | apply below_alloc | apply pw_below_drewN | apply below_drew1) | exact HB.out)))); have n4_ := Aside0.mk (Kd.Q_lower (Kd.Q_new' (Kd.Q_newM (M := fun k_ => (w.heap.size ≤ k_)) (Kd.Q_mono (ok' := fun k_ => True) ho1 (fun _ hk_ => trivial)) (below_size (by repeat (first | (with_reducible first | exact HB.out | apply below_alloc | apply pw_below_drewN | apply below_drew1) | exact HB.out))) (fun k_ h_ => h_)) (Kd.Q_lt (by (with_reducible repeat (first | apply Kd.Q_alloc | apply Kd.Q_drewN | apply Kd.Q_drew)); exact HO_5.out))) (below_size (by repeat (first | (with_reducible first | exact HB.out | apply below_alloc | apply pw_below_drewN | apply below_drew1) | exact HB.out)))); have n5_ := Aside0.mk (below_step (by repeat (first | (with_reducible first | exact HB.out | apply below_alloc | apply pw_below_drewN | apply below_drew1) | exact HB.out)) hb); clear HO_5; clear HO_7; clear HO_8; clear HB; have HO_5 := n0_; have HO_7 := n1_; have HO_8 := n2_; have HO266 := n3_; have HO269 := n4_; have HB := n5_; clear n0_ n1_ n2_ n3_ n4_ n5_; (try clear hb); (try clear hb2); (try clear hk); (try clear hi); (try clear ho0); (try clear ho1); obtain ⟨Ao16, co16, eo16⟩ := Kd.V_slice HO266.out; subst eo16) | ((with_reducible refine gate_builtin (b := .append) (xs := #[.tmp 40, .tmp 42]) rfl ?_); at_builtin; refine Kd.N_append (Kd.slice 5 (Kd.int .u8)) (w0 := w) w.heap.size rfl (.tmp 40) (.tmp 42) 22 26 (.slice none 0 0) 24 rfl Try.underlying22 info26 rfl (by decide) (by omega) u7 x7_2 t264 [.slice Ao16 t264.length co16] (fun k_ => (w.heap.size ≤ k_) ∧ some k_ ≠ (.slice Ao13 x5_2.length co13 : Value).ownBlock ∧ some k_ ≠ (v268 : Value).ownBlock) (fun k_ => ((fun k_ => (w.heap.size ≤ k_) ∧ some k_ ≠ (.slice Ao13 x5_2.length co13 : Value).ownBlock ∧ some k_ ≠ (v268 : Value).ownBlock)) k_ ∧ some k_ ≠ (u7 : Value).ownBlock) rfl rfl ?aP (fun _ hk => hk) ?aF ?aO ?aB ?aS ?aL ?_; (case aP => exact (Kd.FK_slice_mk (Kd.V_reads' (Kd.V_mono (ok' := (fun k_ => ((fun k_ => (w.heap.size ≤ k_) ∧ some k_ ≠ (.slice Ao13 x5_2.length co13 : Value).ownBlock ∧ some k_ ≠ (v268 : Value).ownBlock)) k_ ∧ some k_ ≠ (u7 : Value).ownBlock)) (HO266.out) (fun k_ hk => ⟨⟨hk.1, ⟨hk.2.2.1, hk.2.1⟩⟩, hk.2.2.2⟩))).2.1 (Kd.V_F (Kd.V_mono (ok' := (fun k_ => ((fun k_ => (w.heap.size ≤ k_) ∧ some k_ ≠ (.slice Ao13 x5_2.length co13 : Value).ownBlock ∧ some k_ ≠ (v268 : Value).ownBlock)) k_ ∧ some k_ ≠ (u7 : Value).ownBlock)) (HO266.out) (fun k_ hk => ⟨⟨hk.1, ⟨hk.2.2.1, hk.2.1⟩⟩, hk.2.2.2⟩))))); (case aB => exact (by repeat (first | (with_reducible first | exact HB.out | apply below_alloc | apply pw_below_drewN | apply below_drew1) | exact HB.out))); (case aF => exact (fun k_ hk => ⟨(Nat.le_trans (below_size (by repeat (first | (with_reducible first | exact HB.out | apply below_alloc | apply pw_below_drewN | apply below_drew1) | exact HB.out))) hk), Kd.fresh' (Kd.Q_lt (by (with_reducible repeat (first | apply Kd.Q_alloc | apply Kd.Q_drewN | apply Kd.Q_drew)); exact HO_5.out)) k_ hk, Kd.fresh' (Kd.Q_lt (by (with_reducible repeat (first | apply Kd.Q_alloc | apply Kd.Q_drewN | apply Kd.Q_drew)); exact HO269.out)) k_ hk⟩)); (case aO => exact (by (with_reducible repeat (first | apply Kd.N_alloc | apply Kd.N_drewN | apply Kd.N_drew)); exact Kd.N_mono HO_7.out (fun _ hk => ⟨hk.1.1, ⟨hk.1.2, hk.2⟩⟩))); (case aS => exact (below_size (by repeat (first | (with_reducible first | exact HB.out | apply below_alloc | apply pw_below_drewN | apply below_drew1) | exact HB.out)))); (case aL => have := LMc11.out; omega); intro v272 w15 ho hb hg hat; rw [← Ny271.out] at ho; have n0_ := Aside0.mk (Kd.Q_over' (by (with_reducible repeat (first | apply Kd.Q_alloc | apply Kd.Q_drewN | apply Kd.Q_drew)); exact HO_5.out) (Kd.N_typed (by (with_reducible repeat (first | apply Kd.N_alloc | apply Kd.N_drewN | apply Kd.N_drew)); exact HO_7.out)) (by decide) hg); have n1_ := Aside0.mk (Kd.V_afterv (ok := (fun k_ => (w.heap.size ≤ k_) ∧ some k_ ≠ (.slice Ao13 x5_2.length co13 : Value).ownBlock ∧ some k_ ≠ (v268 : Value).ownBlock)) (by (with_reducible repeat (first | apply Kd.V_alloc | apply Kd.V_drewN | apply Kd.V_drew)); exact Kd.V_mono HO_8.out (fun _ hk => ⟨⟨hk.1.1, ⟨hk.1.2.1, hk.2⟩⟩, hk.1.2.2⟩)) hg hat); have n2_ := Aside0.mk (Kd.V_afterv (ok := (fun k_ => (w.heap.size ≤ k_) ∧ some k_ ≠ (.slice Ao13 x5_2.length co13 : Value).ownBlock ∧ some k_ ≠ (v268 : Value).ownBlock)) (by (with_reducible repeat (first | apply Kd.V_alloc | apply Kd.V_drewN | apply Kd.V_drew)); exact Kd.V_mono HO266.out (fun _ hk => ⟨⟨hk.1, ⟨hk.2.2.1, hk.2.1⟩⟩, hk.2.2.2⟩)) hg hat); have n3_ := Aside0.mk (Kd.Q_over' (by (with_reducible repeat (first | apply Kd.Q_alloc | apply Kd.Q_drewN | apply Kd.Q_drew)); exact HO269.out) (Kd.N_typed (by (with_reducible repeat (first | apply Kd.N_alloc | apply Kd.N_drewN | apply Kd.N_drew)); exact HO_7.out)) (by decide) hg); have n4_ := Aside0.mk (hb); have n5_ := Aside0.mk (ho); clear HO_5; clear HO_8; clear HO266; clear HO269; clear HB; clear HO_7; have HO_5 := n0_; have HO_8 := n1_; have HO266 := n2_; have HO269 := n3_; have HB := n4_; have HO273 := n5_; clear n0_ n1_ n2_ n3_ n4_ n5_; clear ho hb hg hat))
         go_roundg k2
         case measure => have := HJ2.out; have := HK2.out; omega
         case rel => exact ⟨(t267), (y271), (t264), (IntKind.u64.wrap (x29_2 + 1)), (by first | rfl | (simp; done) | (simp [*]; done)), H', ⟨by have := HJ2.out; have := HK2.out; omega⟩, ⟨by (with_reducible repeat (first | apply Kd.Q_alloc | apply Kd.Q_drewN | apply Kd.Q_drew)); exact Kd.Q_mono HO269.out (fun _ hk => hk.1.1)⟩, ⟨by (with_reducible repeat (first | apply Kd.N_alloc | apply Kd.N_drewN | apply Kd.N_drew)); exact Kd.N_mono HO273.out (fun _ hk => ⟨hk.1, hk.2.2⟩)⟩, ⟨by (with_reducible repeat (first | apply Kd.V_alloc | apply Kd.V_drewN | apply Kd.V_drew)); exact Kd.V_mono HO266.out (fun _ hk => ⟨hk.1.1, ⟨hk.1.2.2, hk.2⟩⟩)⟩, ⟨by repeat (first | (with_reducible first | exact HB.out | apply below_alloc | apply pw_below_drewN | apply below_drew1) | exact HB.out)⟩⟩
        ·rw [if_neg c11] at H
         exact absurd H (by simp)
       ·replace c10 := Bool.eq_false_iff.mpr c10
        subst c10
        have H1 : (some (([] : List (List Int)), 6)) = some (r1, r2) := by rw [if_neg (show ¬ (false = true) by decide)] at H; exact H
        clear H
        have H := H1
        clear H1
        simp only [Option.some.injEq, Prod.mk.injEq] at H
        obtain ⟨rfl, rfl⟩ := H
        obtain ⟨Ao17, co17, eo17⟩ := Kd.V_slice HO_8.out
        subst eo17
        obtain ⟨Ao18, co18, eo18, _⟩ := Kd.Q_slice HO_5.out
        subst eo18
        go_wp2_with (first | ((with_reducible refine gate_callee (f := 50) rfl ?_); refine goesL_ (some 34) rfl rfl Try.func50 (by kernel_rfl) rfl #[.slice Ao17 x8_2.length co17, .slice Ao18 x5_2.length co18] rfl (by (try simp only [List.map_toArray, List.map_cons, List.map_nil]); first | done | rfl | (simp only [List.length_drop, List.length_take]; rfl)) ?_; (with_reducible refine (words_word.calls k2 (fun k_ => ((w.heap.size ≤ k_) ∧ (some k_ ≠ (.slice Ao18 x5_2.length co18 : Value).ownBlock ∧ some k_ ≠ (u7 : Value).ownBlock))) _ _ x8_2 _ _ x5_2 t264 t267 false _ ?side1 ?side2 ?side3 A9.out).mono ?_); (case side1 => exact HO_8.out); (case side2 => repeat (first | exact (Kd.Q_reads' HO_5.out).2.2 | (with_reducible refine Kd.C_alloc ?_ _) | (with_reducible refine Kd.C_drewN ?_ _) | (with_reducible refine Kd.C_drew ?_))); (case side3 => exact (Kd.Q_reads' HO_5.out).2.1); rintro e w19 ⟨v265, v268, rfl, ho0, ho1, hb⟩; refine ⟨_, rfl, ?_⟩; have n0_ := Aside0.mk (Kd.Q_elder' (by (with_reducible repeat (first | apply Kd.Q_alloc | apply Kd.Q_drewN | apply Kd.Q_drew)); exact HO_5.out) (Kd.Q_base ho1) hb); have n1_ := Aside0.mk (Kd.N_elder' (by (with_reducible repeat (first | apply Kd.N_alloc | apply Kd.N_drewN | apply Kd.N_drew)); exact HO_7.out) (Kd.Q_base ho1) hb); have n2_ := Aside0.mk (Kd.V_elder' (by (with_reducible repeat (first | apply Kd.V_alloc | apply Kd.V_drewN | apply Kd.V_drew)); exact HO_8.out) (Kd.Q_base ho1) hb); have n3_ := Aside0.mk (Kd.V_lower (Kd.V_mono (ok' := fun k_ => (w.heap.size ≤ k_) ∧ some k_ ≠ (v268 : Value).ownBlock ∧ some k_ ≠ (.slice Ao18 x5_2.length co18 : Value).ownBlock ∧ some k_ ≠ (u7 : Value).ownBlock) ho0 (fun k_ hk_ => ⟨Or.elim hk_.1 (fun hs_ => hs_.1) (fun hn_ => (Nat.le_trans (below_size (by repeat (first | (with_reducible first | exact HB.out | apply below_alloc | apply pw_below_drewN | apply below_drew1) | exact HB.out))) hn_)), hk_.2, Or.elim hk_.1 (fun hs_ => hs_.2.1) (fun hn_ => (Kd.fresh' (Kd.Q_lt (by (with_reducible repeat (first | apply Kd.Q_alloc | apply Kd.Q_drewN | apply Kd.Q_drew)); exact HO_5.out)) k_ hn_)), Or.elim hk_.1 (fun hs_ => hs_.2.2) (fun hn_ => (Kd.fresh' (Kd.N_lt (by (with_reducible repeat (first | apply Kd.N_alloc | apply Kd.N_drewN | apply Kd.N_drew)); exact HO_7.out)) k_ hn_))⟩)) (below_size (by repeat (first | (with_reducible first | exact HB.out | apply below_alloc | apply pw_below_drewN | apply below_drew1) | exact HB.out)))); have n4_ := Aside0.mk (Kd.Q_lower (Kd.Q_new' (Kd.Q_newM (M := fun k_ => (w.heap.size ≤ k_)) (Kd.Q_mono (ok' := fun k_ => True) ho1 (fun _ hk_ => trivial)) (below_size (by repeat (first | (with_reducible first | exact HB.out | apply below_alloc | apply pw_below_drewN | apply below_drew1) | exact HB.out))) (fun k_ h_ => h_)) (Kd.Q_lt (by (with_reducible repeat (first | apply Kd.Q_alloc | apply Kd.Q_drewN | apply Kd.Q_drew)); exact HO_5.out))) (below_size (by repeat (first | (with_reducible first | exact HB.out | apply below_alloc | apply pw_below_drewN | apply below_drew1) | exact HB.out)))); have n5_ := Aside0.mk (below_step (by repeat (first | (with_reducible first | exact HB.out | apply below_alloc | apply pw_below_drewN | apply below_drew1) | exact HB.out)) hb); clear HO_5; clear HO_7; clear HO_8; clear HB; have HO_5 := n0_; have HO_7 := n1_; have HO_8 := n2_; have HO266 := n3_; have HO269 := n4_; have HB := n5_; clear n0_ n1_ n2_ n3_ n4_ n5_; (try clear hb); (try clear hb2); (try clear hk); (try clear hi); (try clear ho0); (try clear ho1)))
        go_ret2
        exact ⟨_, by first | rfl | (simp [errW_none, errW_some] <;> rfl) | (simp [*, errW_none, errW_some] <;> rfl), by first | exact Kd.S_nil _ _ _ _ _ | exact Kd.N_nil _ _ _ _ _ | exact Kd.V_nil _ _ _ _ _ | exact Kd.Q_nil _ _ _ _ _ | exact Kd.R_nil _ _ _ _ _, by repeat (first | (with_reducible first | exact HB.out | apply below_alloc | apply pw_below_drewN | apply below_drew1) | exact HB.out)⟩
      ·rw [if_neg c8] at H
       have c8b0 : decide (x29_2 < t259) = false := decide_eq_false c8
       clear c8
       by_cases c20 : (x5_2.length : Int) > 0
       ·rw [if_pos c20] at H
        have c20b0 : decide (0 < (x5_2.length : Int)) = true := decide_eq_true c20
        have c20b1 : decide (0 < x5_2.length) = true := decide_eq_true (by omega)
        clear c20
        simp only [Option.some.injEq, Prod.mk.injEq] at H
        obtain ⟨rfl, rfl⟩ := H
        obtain ⟨Ao21, co21, eo21, _⟩ := Kd.Q_slice HO_5.out
        subst eo21
        go_wp2
        go_ret2
        exact ⟨_, by first | rfl | (simp [errW_none, errW_some] <;> rfl) | (simp [*, errW_none, errW_some] <;> rfl), by first | exact Kd.S_nil _ _ _ _ _ | exact Kd.N_nil _ _ _ _ _ | exact Kd.V_nil _ _ _ _ _ | exact Kd.Q_nil _ _ _ _ _ | exact Kd.R_nil _ _ _ _ _, by repeat (first | (with_reducible first | exact HB.out | apply below_alloc | apply pw_below_drewN | apply below_drew1) | exact HB.out)⟩
       ·rw [if_neg c20] at H
        have c20b0 : decide (0 < (x5_2.length : Int)) = false := decide_eq_false c20
        have c20b1 : decide (0 < x5_2.length) = false := decide_eq_false (by omega)
        clear c20
        simp only [Option.some.injEq, Prod.mk.injEq] at H
        obtain ⟨rfl, rfl⟩ := H
        obtain ⟨Ao22, co22, eo22, _⟩ := Kd.Q_slice HO_5.out
        subst eo22
        go_wp2
        go_ret2
        exact ⟨_, by first | rfl | (simp [errW_none, errW_some] <;> rfl) | (simp [*, errW_none, errW_some] <;> rfl), by (with_reducible repeat (first | apply Kd.N_alloc | apply Kd.N_drewN | apply Kd.N_drew)); exact Kd.N_mono HO_7.out (fun _ hk => hk.1), by repeat (first | (with_reducible first | exact HB.out | apply below_alloc | apply pw_below_drewN | apply below_drew1) | exact HB.out)⟩

/-! ### dict_Open: function 15 -/
abbrev Dct := List (List (List Int))
def dict_Open.l (k : Nat) : List (List Int) → Dct → List Int → Option (Option Dct)
 | [], B, _ => some (some B)
 | x :: fs, B, last => if B.length ≤ 1000000 then (words_Take.f k x).bind fun t =>
   if t.2 = 0 then
    (if t.1.length = 0 ∨ 1000 < t.1.length then none
    else if t.1.length < 16 ∧ fs.length ≠ 0 then some none
    else (bytes_Compare.f last (t.1.getD 0 [])).bind fun c => if 0 ≤ c then some none else dict_Open.l k fs (B ++ [t.1]) (t.1.getD (t.1.length - 1) []))
   else some none
  else none
/-- What a file of labels tells: its blocks; none: it is no file. -/
def dict_Open.f (k : Nat) (b : List Int) : Option (Option Dct) := (frame_Only.f k b).bind fun o => if o.2 = 0 then (if o.1.length ≤ 1000000 then dict_Open.l k o.1 [] [] else none) else some none
/-- A Dict in memory: its block q; what its blocks have stands in blocks from m on. -/
def DIs (W : World) (q m : Nat) (B : Dct) : Prop :=
 m ≤ q ∧ ∃ v, W.heap[q]? = some (.cells #[v] 63) ∧ Kd.N (Kd.slice 26 (Kd.slice 5 (Kd.int .u8))) 22 W m (fun k => m ≤ k ∧ k ≠ q) v B
theorem DIs.below {W W' : World} {q m : Nat} {B : Dct} (h : DIs W q m B) (hb : Below W.heap.size W W') : DIs W' q m B := by
 obtain ⟨h0, v, h1, h2⟩ := h
 exact ⟨h0, v, (hb.block _ (Array.getElem?_eq_some_iff.1 h1).1).trans h1, Kd.N_below h2 hb⟩
theorem DIs.lower {W : World} {q m m' : Nat} {B : Dct} (h : DIs W q m B) (hm : m' ≤ m) : DIs W q m' B := by
 obtain ⟨h0, v, h1, h2⟩ := h
 exact ⟨Nat.le_trans hm h0, v, h1, Kd.N_mono (Kd.N_lower h2 hm) (fun k h => ⟨Nat.le_trans hm h.1, h.2⟩)⟩
theorem row1_0 {W : World} {q : Nat} {T : TypeId} {a : Value} (h : W.heap[q]? = some (.cells #[a] T)) (u : Value) : (W.setCell ⟨q, 0, none⟩ u).heap[q]? = some (.cells #[u] T) := heap_setCell_same W q 0 _ T u h
/-- What is handed back: nil and that it is no file, or a Dict. -/
def DOpenIs (w w' : World) (e : Ending) : Option Dct → Prop
 | none => e = .returned (.tuple #[.pointer none, .int .i64 6])
 | some B => ∃ q, e = .returned (.tuple #[.pointer (some ⟨q, 0, none⟩), .int .i64 0]) ∧ DIs w' q w.heap.size B
set_option maxHeartbeats 8000000 in
set_option maxRecDepth 100000 in
theorem dict_Open.calls (k : Nat) (A0 : Option Addr) (c0 : Nat) (l0 : List Int) (o : Option Dct) (w : World) (hr0 : Kd.C (Kd.int .u8) w A0 l0.length l0) (hc0 : l0.length ≤ c0) (h : dict_Open.f k l0 = some o) :
  Calls Try.prog 15 #[.slice A0 l0.length c0] w fun e w' => DOpenIs w w' e o ∧ Below w.heap.size w w' := by
 have HR0 := Aside0.mk hr0
 have HC0 := Aside0.mk hc0
 clear hr0 hc0
 unfold dict_Open.f at h
 obtain ⟨⟨F, ec⟩, hw, h'⟩ := Option.bind_eq_some_iff.mp h
 have HW := Aside0.mk hw
 clear hw h
 simp only at h'
 by_cases he : ec = 0
 ·subst he
  rw [if_pos rfl] at h'
  by_cases hFl : F.length ≤ 1000000
  ·rw [if_pos hFl] at h'
   have HL := Aside0.mk h'
   clear h'
   go_enter Try.func15, Try.ntmps15
   go_wp2_with (first | (go_at_call 30; (with_reducible refine (frame_Only.calls k _ _ l0 _ _ _ HR0.out HC0.out HW.out).mono ?_); rintro e w1 ⟨v1, rfl, ho, hb⟩; obtain ⟨Af, cf, rfl⟩ := Kd.S_slice ho; have HF := Aside0.mk (Kd.C_F (Kd.heap_slice 5 (Kd.heap_int .u8)) (Kd.S_reads' ho).2.2); have HB1 := Aside0.mk hb; clear ho hb))
   obtain ⟨q, hq⟩ : ∃ q, w1.heap.size = q := ⟨_, rfl⟩
   rw [hq]
   have hwq : w1.heap.size ≤ q := by omega
   have hww : w.heap.size ≤ w1.heap.size := HB1.out.size
   have HD := Aside0.mk (show DIs (w1.alloc (Obj.cells #[Value.slice none 0 0] 63)) q w1.heap.size [] from ⟨hwq, _, by rw [← hq]; exact heap_alloc_new _ _, Kd.N_nil _ _ _ _ _⟩)
   have HFA := Aside0.mk (Kd.F_below HF.out (below_alloc (Below.refl _ _) (Obj.cells #[Value.slice none 0 0] 63)))
   have HB2 := Aside0.mk (show Below w.heap.size w (w1.alloc (Obj.cells #[Value.slice none 0 0] 63)) from Below.alloc HB1.out (by omega) _)
   clear hq
   go_loopw [7, 23] (fun v7 v23 wr => ∃ (i : Nat) (B : Dct) (last : List Int) (A7 : Option Addr) (c7 : Nat), v7 = .slice A7 last.length c7 ∧ v23 = .int .i64 i ∧ i ≤ F.length ∧ last.length ≤ c7 ∧ Aside0 (dict_Open.l k (F.drop i) B last = some o) ∧ Aside0 (DIs wr q w1.heap.size B) ∧ Aside0 (Kd.C (Kd.int .u8) wr A7 last.length last) ∧ Aside0 (Kd.F (Kd.slice 5 (Kd.int .u8)) wr (fun k_ => k_ < w1.heap.size) Af F.length F) ∧ Aside0 (Below w.heap.size w wr)) (fun _ v23 _ => F.length - (intOf v23).toNat)
   case atStart => exact ⟨0, [], [], none, 0, rfl, rfl, Nat.zero_le _, Nat.le_refl _, HL, HD, ⟨Kd.C_nil _ _⟩, HFA, HB2⟩
   case round =>
    clear HL HD HFA HB2
    obtain ⟨i, B, last, A7, c7, rfl, rfl, hi, hc7, HL, HD, HCL, HFA, HB2⟩ := hrel
    by_cases hlt : i < F.length
    ·have hl := HL.out
     clear HL
     rw [List.drop_eq_getElem_cons hlt, dict_Open.l.eq_2] at hl
     obtain ⟨ad, Ai, ci, rfl, hcell, hci, hFi⟩ := Hand.F_row_at HFA.out i hlt
     have hge : F.getD i [] = F[i] := by simp [hlt]
     rw [hge] at hcell hci hFi
     obtain ⟨x, hx⟩ : ∃ x, F[i] = x := ⟨_, rfl⟩
     rw [hx] at hcell hci hFi hl
     by_cases hBl : B.length ≤ 1000000
     ·rw [if_pos hBl] at hl
      obtain ⟨⟨l, e0⟩, ht, hl'⟩ := Option.bind_eq_some_iff.mp hl
      have HT := Aside0.mk ht
      have HX := Aside0.mk hFi
      have HXC := Aside0.mk hci
      have i0 : (0 : Int) ≤ (i : Int) := by omega
      have i1 : (i : Int) < (F.length : Int) := by omega
      simp only at hl'
      clear ht hFi hci hx hge hl
      by_cases he0 : e0 = 0
      ·subst he0
       rw [if_pos rfl] at hl'
       by_cases hll : l.length = 0 ∨ 1000 < l.length
       ·rw [if_pos hll] at hl'
        exact absurd hl' (by simp)
       ·rw [if_neg hll] at hl'
        by_cases hsm : l.length < 16 ∧ (F.drop (i + 1)).length ≠ 0
        ·rw [if_pos hsm] at hl'
         obtain rfl : none = o := Option.some.inj hl'
         have g1 : i < F.length - 1 := by have h_ := hsm.2; rw [List.length_drop] at h_; omega
         have d1 : decide ((l.length : Int) < 16) = true := decide_eq_true (by omega)
         have d1n : decide (l.length < 16) = true := decide_eq_true hsm.1
         have d2 : decide ((i : Int) < (F.length : Int) - 1) = true := decide_eq_true (by omega)
         clear hl' hsm
         go_wp2_with (first | (go_at_call 31; (with_reducible refine (words_Take.calls k _ _ x _ _ _ (Kd.F_now HX.out) HXC.out HT.out).mono ?_); rintro e w3 ⟨v1, rfl, ho, hb⟩; obtain ⟨Al, cl, rfl⟩ := Kd.N_slice ho; have HB3 := Aside0.mk (below_step HB2.out hb); clear ho hb))
         go_ret2
         exact ⟨rfl, HB3.out⟩
        ·rw [if_neg hsm] at hl'
         obtain ⟨c, hcm, hl2⟩ := Option.bind_eq_some_iff.mp hl'
         have HCM0 := Aside0.mk hcm
         have hl0 : 0 < l.length := by omega
         have hl1 : l.length - 1 < l.length := by omega
         have hpre : (decide ((l.length : Int) < 16) = true ∧ decide (l.length < 16) = true ∧ decide ((i : Int) < (F.length : Int) - 1) = false) ∨ (decide ((l.length : Int) < 16) = false ∧ decide (l.length < 16) = false ∧ True) := by
          by_cases h16 : l.length < 16
          ·have hd : (F.drop (i + 1)).length = 0 := by
            rcases Nat.eq_zero_or_pos (F.drop (i + 1)).length with h_ | h_
            ·exact h_
            ·exact absurd ⟨h16, by omega⟩ hsm
           rw [List.length_drop] at hd
           exact .inl ⟨decide_eq_true (by omega), decide_eq_true h16, decide_eq_false (by omega)⟩
          ·exact .inr ⟨decide_eq_false (by omega), decide_eq_false h16, trivial⟩
         obtain ⟨x0, hx0⟩ : ∃ x0, l.getD 0 [] = x0 := ⟨_, rfl⟩
         obtain ⟨x1, hx1⟩ : ∃ x1, l.getD (l.length - 1) [] = x1 := ⟨_, rfl⟩
         have HCM : Aside0 (bytes_Compare.f last x0 = some c) := ⟨by rw [← hx0]; exact HCM0.out⟩
         have p0 : (0 : Int) < (l.length : Int) := by omega
         have p1 : (0 : Int) ≤ (l.length : Int) - 1 := by omega
         have p2 : (l.length : Int) - 1 < (l.length : Int) := by omega
         have p3 : ((l.length : Int) - 1).toNat = l.length - 1 := by omega
         clear hcm hl' hsm HCM0
         by_cases hge : 0 ≤ c
         ·rw [if_pos hge] at hl2
          obtain rfl : none = o := Option.some.inj hl2
          have d6 : decide (c < 0) = false := decide_eq_false (by omega)
          have d7 : decide (0 ≤ c) = true := decide_eq_true hge
          clear hl2
          rcases hpre with ⟨d1, d1n, d2⟩ | ⟨d1, d1n, d2⟩ <;> (
           go_wp2_with (first | (go_at_call 31; (with_reducible refine (words_Take.calls k _ _ x _ _ _ (Kd.F_now HX.out) HXC.out HT.out).mono ?_); rintro e w3 ⟨v1, rfl, ho, hb⟩; obtain ⟨Al, cl, rfl⟩ := Kd.N_slice ho; have HB3 := Aside0.mk (below_step HB2.out hb); have HLF := Aside0.mk (Kd.N_F ho); have HLC := Aside0.mk (Kd.N_reads' ho).2.1; obtain ⟨ad2, A2, c2, rfl, hcell2, hc2, hF2⟩ := Hand.F_row_at HLF.out 0 hl0; obtain ⟨ad3, A3, c3, e3, hcell3, hc3, hF3⟩ := Hand.F_row_at HLF.out (l.length - 1) hl1; obtain rfl : ad2 = ad3 := Option.some.inj e3; rw [hx0, Addr.add_zero'] at hcell2; rw [hx0] at hc2 hF2; rw [hx1] at hcell3 hc3 hF3; have HX2 := Aside0.mk (Kd.F_now hF2); have HXC2 := Aside0.mk hc2; have HF3 := Aside0.mk hF3; have HXC3 := Aside0.mk hc3; have HB23 := Aside0.mk hb; have HCL3 := Aside0.mk (Kd.C_below HCL.out hb); have HD3 := Aside0.mk (DIs.below HD.out hb); have HCE3 := Aside0.mk hcell3; clear ho hb hc2 hF2 hc3 hF3 e3) | (go_at_call 32; (with_reducible refine (bytes_Compare.calls A7 c7 last A2 c2 x0 c _ HCL3.out hc7 HX2.out HXC2.out HCM.out).mono ?_); rintro e w5 ⟨rfl, hb⟩; have HB5 := Aside0.mk (below_step HB3.out hb); clear hb))
           go_ret2
           exact ⟨rfl, HB5.out⟩)
         ·rw [if_neg hge, hx1] at hl2
          have HL2 := Aside0.mk hl2
          have d6 : decide (c < 0) = true := decide_eq_true (by omega)
          have d7 : decide (0 ≤ c) = false := decide_eq_false hge
          clear hl2
          obtain ⟨hmq, v0, hq0, hN0⟩ := HD.out
          obtain ⟨Aq, cq, rfl⟩ := Kd.N_slice hN0
          have hqlt : q < wr.heap.size := (Array.getElem?_eq_some_iff.1 hq0).1
          have HQ0 := Aside0.mk hq0
          have HN0 := Aside0.mk hN0
          have HLT0 := Aside0.mk (Kd.N_lt hN0)
          have HOWN := Aside0.mk hN0.1
          clear hq0 hN0
          rcases hpre with ⟨d1, d1n, d2⟩ | ⟨d1, d1n, d2⟩ <;> (
           go_wp2_with (first | (go_at_call 31; (with_reducible refine (words_Take.calls k _ _ x _ _ _ (Kd.F_now HX.out) HXC.out HT.out).mono ?_); rintro e w3 ⟨v1, rfl, ho, hb⟩; obtain ⟨Al, cl, rfl⟩ := Kd.N_slice ho; have HB3 := Aside0.mk (below_step HB2.out hb); have HLF := Aside0.mk (Kd.N_F ho); have HLC := Aside0.mk (Kd.N_reads' ho).2.1; obtain ⟨ad2, A2, c2, rfl, hcell2, hc2, hF2⟩ := Hand.F_row_at HLF.out 0 hl0; obtain ⟨ad3, A3, c3, e3, hcell3, hc3, hF3⟩ := Hand.F_row_at HLF.out (l.length - 1) hl1; obtain rfl : ad2 = ad3 := Option.some.inj e3; rw [hx0, Addr.add_zero'] at hcell2; rw [hx0] at hc2 hF2; rw [hx1] at hcell3 hc3 hF3; have HX2 := Aside0.mk (Kd.F_now hF2); have HXC2 := Aside0.mk hc2; have HF3 := Aside0.mk hF3; have HXC3 := Aside0.mk hc3; have HB23 := Aside0.mk hb; have HCL3 := Aside0.mk (Kd.C_below HCL.out hb); have HD3 := Aside0.mk (DIs.below HD.out hb); have HCE3 := Aside0.mk hcell3; clear ho hb hc2 hF2 hc3 hF3 e3) | (go_at_call 32; (with_reducible refine (bytes_Compare.calls A7 c7 last A2 c2 x0 c _ HCL3.out hc7 HX2.out HXC2.out HCM.out).mono ?_); rintro e w5 ⟨rfl, hb⟩; have HB5 := Aside0.mk (below_step HB3.out hb); have HB35 := Aside0.mk (below_step HB23.out hb); have HF5 := Aside0.mk (Kd.F_below HF3.out hb); have HLF5 := Aside0.mk (Kd.F_below HLF.out hb); have hq5 := (HB35.out.block q hqlt).trans HQ0.out; have r5 : w5.cell? ⟨q, 0, none⟩ = some (.slice Aq B.length cq) := cell_of_row _ _ _ _ _ _ hq5; have HQ5 := Aside0.mk hq5; have HN5 := Aside0.mk (Kd.N_below HN0.out HB35.out); have hcell5 := (hb.cell (World.block_lt_of_cell? w3 _ HCE3.out)).trans HCE3.out; have hsz5 := HB35.out.size; have HFK := Aside0.mk (Kd.FK_slice_mk (e := 26) HLC.out HLF5.out); have HOK : Aside0 (∀ k_, wr.heap.size ≤ k_ → (w1.heap.size ≤ k_ ∧ k_ ≠ q) ∧ some k_ ≠ (Value.slice Aq B.length cq).ownBlock) := ⟨fun k_ hk => ⟨⟨by omega, by omega⟩, fun e_ => by have := HLT0.out k_ e_.symm; omega⟩⟩; have HFRS : Aside0 (∀ k_, w5.heap.size ≤ k_ → (w1.heap.size ≤ k_ ∧ k_ ≠ q)) := ⟨fun k_ hk => ⟨by omega, by omega⟩⟩; have HWS : Aside0 (w1.heap.size ≤ w5.heap.size) := ⟨by omega⟩; have HLEN : Aside0 ((B.length + 1) * 24 ≤ 140737488355328) := ⟨by omega⟩; clear hb hq5) | ((with_reducible refine gate_builtin (b := .append) (xs := #[.tmp 65, .tmp 67]) rfl ?_); (try (refine gate_guard (by rfl) ?_; dsimp only)); at_builtin; refine Kd.N_append (Kd.slice 26 (Kd.slice 5 (Kd.int .u8))) (w0 := w5) w1.heap.size rfl (.tmp 65) (.tmp 67) 25 22 (.slice none 0 0) 24 rfl Try.underlying25 info22 rfl (by decide) (by omega) (.slice Aq B.length cq) B l [.slice (some ad2) l.length cl] (fun k_ => w1.heap.size ≤ k_ ∧ k_ ≠ q) (fun k_ => wr.heap.size ≤ k_) rfl rfl HFK.out HOK.out HFRS.out HN5.out (Below.refl _ _) HWS.out HLEN.out ?_; intro v6 w6 ho hb hg hat; obtain ⟨Au, cu, rfl⟩ := Kd.N_slice ho; obtain ⟨mm, hmm⟩ : ∃ m_, (B ++ [l]).length = m_ := ⟨_, rfl⟩; rw [hmm] at ho hat ⊢; have HMM := Aside0.mk hmm; have HN6 := Aside0.mk ho; have HB6 := Aside0.mk hb; have HG6 := Aside0.mk hg; have q6 := (hg.block q (by omega) (fun e_ => (HOWN.out q e_.symm).2 rfl)).trans HQ5.out; have s6 : w6.cell? ⟨q, 0, none⟩ = some (.slice Aq B.length cq) := cell_of_row _ _ _ _ _ _ q6; have fs6 : w6.frozen? ⟨q, 0, none⟩ = false := frozen_of_row q6; have HQ6 := Aside0.mk q6; clear ho hb hg hat q6 hmm))
           have h7 : ∀ k_, k_ ≠ q → (w6.setCell ⟨q, 0, none⟩ (.slice Au mm cu)).heap[k_]? = w6.heap[k_]? := fun k_ hk_ => Below.heap_setCell _ ⟨q, 0, none⟩ _ k_ hk_
           have hb5 := HB5.out
           have hs5 := hb5.size
           have hg := HG6.out
           have hs6 := hg.size
           refine ⟨⟨i + 1, B ++ [l], x1, A3, c3, rfl, by rfl, by omega, HXC3.out, HL2, ⟨hmq, .slice Au mm cu, row1_0 HQ6.out _, Kd.N_step HN6.out (fun k_ h_ _ => h7 k_ h_.2)⟩, ⟨?_⟩, ⟨?_⟩, ⟨?_⟩⟩, by simp [intOf]; omega⟩
           ·exact Kd.F_now (Kd.F_step (Kd.F_step HF5.out (fun k_ h_ hl => hg.block k_ hl (HOK.out k_ h_).2)) (fun k_ h_ _ => h7 k_ (by omega)))
           ·exact Kd.F_step (Kd.F_step (Kd.F_below HFA.out HB35.out) (fun k_ h_ hl => hg.block k_ hl (fun e_ => by have := (HOWN.out k_ e_.symm).1; omega))) (fun k_ h_ _ => h7 k_ (by omega))
           ·exact ⟨hg.os.trans hb5.os, hg.tape.trans hb5.tape, hg.output.trans hb5.output, by simp; omega, fun k_ hk => (h7 k_ (by omega)).trans ((hg.block k_ (by omega) (fun e_ => by have := (HOWN.out k_ e_.symm).1; omega)).trans (hb5.block k_ hk))⟩)
      ·rw [if_neg he0] at hl'
       obtain rfl : none = o := Option.some.inj hl'
       have d5 : (e0 != 0) = true := bne_iff_ne.mpr he0
       go_wp2_with (first | (go_at_call 31; (with_reducible refine (words_Take.calls k _ _ x _ _ _ (Kd.F_now HX.out) HXC.out HT.out).mono ?_); rintro e w3 ⟨v1, rfl, ho, hb⟩; obtain ⟨Al, cl, rfl⟩ := Kd.N_slice ho; have HB3 := Aside0.mk (below_step HB2.out hb); clear ho hb))
       go_ret2
       exact ⟨rfl, HB3.out⟩
     ·rw [if_neg hBl] at hl
      exact absurd hl (by simp)
    ·obtain rfl : i = F.length := by omega
     have hl := HL.out
     rw [List.drop_length] at hl
     obtain rfl : some B = o := Option.some.inj hl
     clear HL hl
     go_wp2
     go_ret2
     exact ⟨⟨q, rfl, HD.out.lower hww⟩, HB2.out⟩
  ·rw [if_neg hFl] at h'
   exact absurd h' (by simp)
 ·rw [if_neg he] at h'
  obtain rfl : none = o := Option.some.inj h'
  have d5 : (ec != 0) = true := bne_iff_ne.mpr he
  go_enter Try.func15, Try.ntmps15
  go_wp2_with (first | (go_at_call 30; (with_reducible refine (frame_Only.calls k _ _ l0 _ _ _ HR0.out HC0.out HW.out).mono ?_); rintro e w1 ⟨v1, rfl, ho, hb⟩; have HB1 := Aside0.mk hb; clear ho hb))
  go_ret2
  exact ⟨rfl, HB1.out⟩

/-! ### dict_Dict_Len: function 22 -/
/-- Blocks as they are in a Dict: all but the last have sixteen labels. -/
def Fit : Dct → Prop
 | [] => True
 | l :: r => 1 ≤ l.length ∧ l.length ≤ 16 ∧ (r = [] ∨ l.length = 16) ∧ Fit r
theorem Fit.at_ : ∀ {B : Dct} (h : Fit B) {id : Nat}, id < B.flatten.length → id / 16 < B.length ∧ id % 16 < (B.getD (id / 16) []).length ∧ (B.getD (id / 16) []).getD (id % 16) [] = B.flatten.getD id []
 | [], _, id, hi => by simp at hi
 | l :: r, ⟨h1, h2, h3, h4⟩, id, hi => by
  rw [List.flatten_cons, List.length_append] at hi
  by_cases hlt : id < l.length
  ·have e0 : id / 16 = 0 := by omega
   have e1 : id % 16 = id := by omega
   rw [e0, e1]
   refine ⟨by simp, hlt, ?_⟩
   rw [List.flatten_cons, List.getD_eq_getElem?_getD, List.getD_eq_getElem?_getD, List.getD_eq_getElem?_getD, List.getElem?_append_left hlt]
   rfl
  ·have h16 : l.length = 16 := by
    rcases h3 with rfl | h3
    ·simp at hi; omega
    ·exact h3
   obtain ⟨i1, i2, i3⟩ := Fit.at_ h4 (id := id - 16) (by omega)
   have e0 : id / 16 = (id - 16) / 16 + 1 := by omega
   have e1 : id % 16 = (id - 16) % 16 := by omega
   rw [e0, e1]
   have eg : ∀ j, (l :: r : Dct).getD (j + 1) [] = r.getD j [] := fun j => by simp
   rw [eg, i3]
   refine ⟨by simp only [List.length_cons]; omega, i2, ?_⟩
   rw [List.flatten_cons, List.getD_eq_getElem?_getD, List.getD_eq_getElem?_getD, List.getElem?_append_right (by omega), h16]
theorem Fit.len : ∀ {B : Dct} (h : Fit B), 0 < B.length → B.flatten.length = (B.length - 1) * 16 + (B.getD (B.length - 1) []).length ∧ 0 < (B.getD (B.length - 1) []).length ∧ (B.getD (B.length - 1) []).length ≤ 16
 | [], _, h0 => by simp at h0
 | [l], ⟨h1, h2, h3, h4⟩, _ => by simp; omega
 | l :: l2 :: r, ⟨h1, h2, h3, h4⟩, _ => by
  have hl : l.length = 16 := by
   rcases h3 with h3 | h3
   ·cases h3
   ·exact h3
  have ih := Fit.len h4 (by simp)
  have eg : (l :: l2 :: r : Dct).getD ((l :: l2 :: r : Dct).length - 1) [] = (l2 :: r : Dct).getD ((l2 :: r : Dct).length - 1) [] := by
   simp [List.getD_cons_succ]
  rw [eg]
  refine ⟨?_, ih.2⟩
  rw [List.flatten_cons, List.length_append, ih.1, hl]
  simp only [List.length_cons]
  omega
/-- How many labels there are. -/
def dN : Option Dct → Nat
 | none => 0
 | some B => B.flatten.length
/-- A label. -/
def dAt : Option Dct → Int → List Int
 | none, _ => []
 | some B, i => B.flatten.getD i.toNat []
def DFit : Option Dct → Prop
 | none => True
 | some B => B.length ≤ 1000000 ∧ Fit B ∧ ∀ l ∈ B, ∀ x ∈ l, x.length ≤ 1000
theorem DFit.small {s : Option Dct} (h : DFit s) : dN s ≤ 16000000 := by
 cases s with
 | none => exact Nat.zero_le _
 | some B =>
  obtain ⟨h1, h2, -⟩ := h
  show B.flatten.length ≤ _
  rcases Nat.eq_zero_or_pos B.length with h0 | h0
  ·rw [List.eq_nil_of_length_eq_zero h0]; simp
  ·have := h2.len h0
   omega
/-- A Dict, or nil. -/
def DPtr (W : World) (p : Value) (m : Nat) : Option Dct → Prop
 | none => p = .pointer none
 | some B => ∃ q, p = .pointer (some ⟨q, 0, none⟩) ∧ DIs W q m B
theorem DPtr.below {W W' : World} {p : Value} {m : Nat} {s : Option Dct} (h : DPtr W p m s) (hb : Below W.heap.size W W') : DPtr W' p m s := by
 cases s with
 | none => exact h
 | some B => obtain ⟨q, h0, h1⟩ := h; exact ⟨q, h0, h1.below hb⟩
/-- A block of a Dict's: where it stands. -/
theorem N_block {W : World} {q m i : Nat} {Aq : Option Addr} {cq n : Nat} {B : Dct} (h : Kd.N (Kd.slice 26 (Kd.slice 5 (Kd.int .u8))) 22 W m (fun k => m ≤ k ∧ k ≠ q) (.slice Aq n cq) B) (hi : i < n) :
  ∃ ad A0 c0, Aq = some ad ∧ W.cell? (ad.add i) = some (.slice A0 (B.getD i []).length c0) ∧ Kd.F (Kd.slice 5 (Kd.int .u8)) W (fun k => m ≤ k ∧ k ≠ q) A0 (B.getD i []).length (B.getD i []) := by
 obtain ⟨ad, c, rfl, hcl, hK, hcc, _⟩ := Kd.F_get (Kd.N_F h) [] (i : Int) (by omega) (by omega)
 simp only [Int.toNat_natCast] at hK hcc
 obtain ⟨A0, c0, rfl, hl, hF⟩ := Kd.FK_slice_open hK
 have h0 := hcc 0 _ rfl
 rw [Nat.add_zero, show (Kd.slice 26 (Kd.slice 5 (Kd.int .u8))).sz = 1 from rfl, Nat.mul_one] at h0
 exact ⟨ad, A0, c0, rfl, h0, hF⟩
set_option maxHeartbeats 4000000 in
theorem dict_Dict_Len.calls (p : Value) (m : Nat) (s : Option Dct) (w : World) (h : DPtr w p m s) (hf : DFit s) : Calls Try.prog 22 #[p] w fun e w' => e = .returned (.int .i64 (dN s)) ∧ w' = w := by
 cases s with
 | none =>
  obtain rfl : p = .pointer none := h
  go_enter Try.func22, Try.ntmps22
  go_wp2
  go_ret
  exact ⟨rfl, rfl⟩
 | some B =>
  obtain ⟨q, rfl, -, v, hq, hN⟩ := h
  obtain ⟨Aq, cq, rfl⟩ := Kd.N_slice hN
  have o0 : w.cell? ⟨q, 0, none⟩ = some (.slice Aq B.length cq) := cell_of_row _ _ _ _ _ _ hq
  obtain ⟨hBl, hfit, -⟩ := hf
  by_cases h0 : B.length = 0
  ·obtain rfl : B = [] := List.eq_nil_of_length_eq_zero h0
   clear hq hN
   go_enter Try.func22, Try.ntmps22
   go_wp2
   go_ret
   exact ⟨rfl, rfl⟩
  ·obtain ⟨ad, A1, c1, rfl, hcell, hF⟩ := N_block hN (i := B.length - 1) (by omega)
   obtain ⟨hl1, hl2, hl3⟩ := hfit.len (by omega)
   have d0 : decide ((B.length : Int) = 0) = false := decide_eq_false (by omega)
   have d1 : decide (B.length = 0) = false := decide_eq_false h0
   have p1 : (0 : Int) ≤ (B.length : Int) - 1 := by omega
   have p2 : (B.length : Int) - 1 < (B.length : Int) := by omega
   have p3 : ((B.length : Int) - 1).toNat = B.length - 1 := by omega
   have HRES : Aside0 (((B.length : Int) - 1) * 16 + ((B.getD (B.length - 1) []).length : Int) = (dN (some B) : Int)) := ⟨by show _ = ((B.flatten.length : Nat) : Int); rw [hl1]; omega⟩
   obtain ⟨l, hl⟩ : ∃ l, B.getD (B.length - 1) [] = l := ⟨_, rfl⟩
   rw [hl] at hcell hl2 hl3 HRES
   clear hq hN hF hl1 hfit hl
   go_enter Try.func22, Try.ntmps22
   go_wp2
   go_ret
   exact ⟨by rw [HRES.out]; rfl, rfl⟩

/-! ### sort_Search: function 35 -/

/-! ### bytes_Equal: function 37 -/
def bytes_Equal.f (l0 : List Int) (l1 : List Int) : Option (Bool) := some ((strOfNums l0).toList == (strOfNums l1).toList)
set_option maxHeartbeats 8000000 in
set_option maxRecDepth 100000 in
theorem bytes_Equal.calls (A0 : Option Addr) (c0 : Nat) (l0 : List Int) (A1 : Option Addr) (c1 : Nat) (l1 : List Int) (r : Bool) (w : World) (hr0 : Kd.C (Kd.int .u8) w A0 l0.length l0) (hc0 : l0.length ≤ c0) (hr1 : Kd.C (Kd.int .u8) w A1 l1.length l1) (hc1 : l1.length ≤ c1) (h : bytes_Equal.f l0 l1 = some r) :
  Calls Try.prog 37 #[.slice A0 l0.length c0, .slice A1 l1.length c1] w fun e w' => e = .returned (.bool r) ∧ Drawn0 w w' := by
 have HR0 := Aside0.mk hr0
 have HC0 := Aside0.mk hc0
 clear hr0 hc0
 have HR1 := Aside0.mk hr1
 have HC1 := Aside0.mk hc1
 clear hr1 hc1
 have H : (some ((strOfNums l0).toList == (strOfNums l1).toList)) = some r := h
 clear h
 obtain rfl := Option.some.inj H
 have hcv3 := Kd.C_string (P := Try.prog) (A := A0) (c := c0) Try.underlying26 Try.underlying5 Try.underlying9 HR0.out
 have hcv3d := fun n_ : Nat => Kd.C_string (P := Try.prog) (A := A0) (c := c0) Try.underlying26 Try.underlying5 Try.underlying9 (Kd.C_drewN HR0.out n_)
 have hcv3e := fun n_ m_ : Nat => Kd.C_string (P := Try.prog) (A := A0) (c := c0) Try.underlying26 Try.underlying5 Try.underlying9 (Kd.C_drewN (Kd.C_drewN HR0.out n_) m_)
 have hcv4 := Kd.C_string (P := Try.prog) (A := A1) (c := c1) Try.underlying26 Try.underlying5 Try.underlying9 HR1.out
 have hcv4d := fun n_ : Nat => Kd.C_string (P := Try.prog) (A := A1) (c := c1) Try.underlying26 Try.underlying5 Try.underlying9 (Kd.C_drewN HR1.out n_)
 have hcv4e := fun n_ m_ : Nat => Kd.C_string (P := Try.prog) (A := A1) (c := c1) Try.underlying26 Try.underlying5 Try.underlying9 (Kd.C_drewN (Kd.C_drewN HR1.out n_) m_)
 go_enter Try.func37, Try.ntmps37
 go_wp2
 go_ret
 exact ⟨by first | rfl | (simp; done) | (simp [*]; done), by repeat (first | exact Drawn0.refl _ | apply Drawn0.step)⟩

/-! ### dict_Dict_Id: function 18 -/
theorem w64_ok (n : Int) (h : -9223372036854775808 ≤ n ∧ n ≤ 9223372036854775807) : wrap64 n = n := by unfold wrap64; omega
/-- How two labels stand to each other. -/
def dcmp (a b : List Int) : Int := Lib.compareBytes (Lib.bytesOf a) (Lib.bytesOf b)
set_option maxHeartbeats 8000000 in
set_option maxRecDepth 100000 in
theorem dict_Dict_Id.lit (b1 b2 q m : Nat) (B : Dct) (Ax : Option Addr) (cx : Nat) (x : List Int) (i : Nat) (w : World) (h1 : w.cell? ⟨b1, 0, none⟩ = some (.pointer (some ⟨q, 0, none⟩))) (h2 : w.cell? ⟨b2, 0, none⟩ = some (.slice Ax x.length cx))
  (hD : DIs w q m B) (hf : DFit (some B)) (hi : i < B.flatten.length) (hC : Kd.C (Kd.int .u8) w Ax x.length x) (hcx : x.length ≤ cx) :
  Calls Try.prog 36 #[.int .i64 i, .pointer (some ⟨b1, 0, none⟩), .pointer (some ⟨b2, 0, none⟩)] w fun e w' => e = .returned (.bool (decide (0 ≤ dcmp (B.flatten.getD i []) x))) ∧ Below w.heap.size w w' := by
 obtain ⟨-, v, hq, hN⟩ := hD
 obtain ⟨Aq, cq, rfl⟩ := Kd.N_slice hN
 have o0 : w.cell? ⟨q, 0, none⟩ = some (.slice Aq B.length cq) := cell_of_row _ _ _ _ _ _ hq
 have hdn := hf.small
 obtain ⟨hBl, hfit, hsh⟩ := hf
 obtain ⟨hi1, hi2, hi3⟩ := hfit.at_ (id := i) hi
 obtain ⟨ad, A1, c1, rfl, hcell, hF⟩ := N_block hN hi1
 obtain ⟨ad1, A2, c2, rfl, hcell2, hc2, hF2⟩ := Hand.F_row_at hF (i % 16) hi2
 rw [← hi3]
 obtain ⟨y, hy⟩ : ∃ x, (B.getD (i / 16) []).getD (i % 16) [] = x := ⟨_, rfl⟩
 rw [hy] at hcell2 hc2 hF2 ⊢
 obtain ⟨bl, hbl⟩ : ∃ l, (B.getD (i / 16) []) = l := ⟨_, rfl⟩
 rw [hbl] at hcell hi2
 have HCY := Aside0.mk (Kd.C_drew (Kd.F_now hF2))
 have HCC := Aside0.mk hc2
 have HCX := Aside0.mk (Kd.C_drew hC)
 have HXC := Aside0.mk hcx
 obtain ⟨c, hc⟩ : ∃ c, dcmp y x = c := ⟨_, rfl⟩
 have HCMP : Aside0 (bytes_Compare.f y x = some c) := ⟨congrArg some hc⟩
 rw [hc]
 have hdn' : B.flatten.length ≤ 16000000 := hdn
 obtain ⟨a, ha⟩ : ∃ a, i / 16 = a := ⟨_, rfl⟩
 obtain ⟨b, hb⟩ : ∃ b, i % 16 = b := ⟨_, rfl⟩
 have q1 : ((i : Int).tdiv 16) = (a : Int) := by rw [Int.tdiv_eq_ediv_of_nonneg (by omega)]; omega
 have q2 : ((i : Int).tmod 16) = (b : Int) := by rw [Int.tmod_eq_emod_of_nonneg (by omega)]; omega
 rw [ha] at hcell hi1
 rw [hb] at hcell2 hi2
 have p2 : (a : Int) < (B.length : Int) := by omega
 have p5 : (b : Int) < (bl.length : Int) := by omega
 have p6 : (a : Int) ≤ 1000000 := by omega
 have p0 : (0 : Int) ≤ (a : Int) := by omega
 have p4 : (0 : Int) ≤ (b : Int) := by omega
 have q3 : IntKind.i64.wrap (a : Int) = (a : Int) := by simp only [IntKind.wrap, IntKind.bits, IntKind.signed]; simp; omega
 clear ha hb hdn hdn' hq hN hF hF2 hc2 hC hcx hi3 hi hsh hfit hy hbl hc
 go_enter Try.func36, Try.ntmps36
 go_wp2_with fail
 go_region_held3 (fun W => W.cell? ⟨b1, 0, none⟩ = some (.pointer (some ⟨q, 0, none⟩)) ∧ W.cell? ⟨b2, 0, none⟩ = some (.slice Ax x.length cx) ∧ W.cell? ⟨q, 0, none⟩ = some (.slice (some ad) B.length cq) ∧ W.cell? (ad.add a) = some (.slice (some ad1) bl.length c1) ∧ W.cell? (ad1.add b) = some (.slice A2 y.length c2)) (first | exact ⟨h1, h2, o0, hcell, hcell2⟩ | exact ⟨g1, g2, g0, gc, gc2⟩) (first | (go_at_call 32; (with_reducible refine (bytes_Compare.calls A2 c2 y Ax cx x c _ HCY.out HCC.out HCX.out HXC.out HCMP.out).mono ?_); rintro e w2 ⟨rfl, hb⟩; have g1 := (hb.cell (World.block_lt_of_cell? w.drew _ h1)).trans h1; have g2 := (hb.cell (World.block_lt_of_cell? w.drew _ h2)).trans h2; have g0 := (hb.cell (World.block_lt_of_cell? w.drew _ o0)).trans o0; have gc := (hb.cell (World.block_lt_of_cell? w.drew _ hcell)).trans hcell; have gc2 := (hb.cell (World.block_lt_of_cell? w.drew _ hcell2)).trans hcell2; have HB := Aside0.mk hb; clear hb))
 go_wp2_with fail
 go_ret
 exact ⟨rfl, Below.trans (Below.drew (Below.refl _ _)) HB.out⟩
set_option maxHeartbeats 8000000 in
set_option maxRecDepth 100000 in
/-- sort.Search, over what rises from false to true: the least that is true. -/
theorem dict_Dict_Id.search (b1 b2 n : Nat) (g : Nat → Bool) (w : World) (hn : n ≤ 16000000) (hg : ∀ i j, i ≤ j → g i = true → g j = true)
  (hc : ∀ (w1 : World) (i : Nat), Below w.heap.size w w1 → i < n → Calls Try.prog 36 #[.int .i64 i, .pointer (some ⟨b1, 0, none⟩), .pointer (some ⟨b2, 0, none⟩)] w1 fun e w' => e = .returned (.bool (g i)) ∧ Below w1.heap.size w1 w') :
  Calls Try.prog 35 #[.int .i64 n, .func (.func 36) #[] #[.pointer (some ⟨b1, 0, none⟩), .pointer (some ⟨b2, 0, none⟩)]] w fun e w' => ∃ r : Nat, e = .returned (.int .i64 r) ∧ r ≤ n ∧ (∀ i, i < r → g i = false) ∧ (∀ i, r ≤ i → i < n → g i = true) ∧ Below w.heap.size w w' := by
 have HG := Aside0.mk hg
 have HC := Aside0.mk hc
 have HN := Aside0.mk hn
 clear hg hc hn
 go_enter Try.func35, Try.ntmps35
 go_wp2
 go_loopw [5, 6] (fun v5 v6 wr => ∃ (i j : Nat), v5 = .int .i64 i ∧ v6 = .int .i64 j ∧ i ≤ j ∧ j ≤ n ∧ Aside0 (∀ a, a < i → g a = false) ∧ Aside0 (∀ a, j ≤ a → a < n → g a = true) ∧ Aside0 (Below w.heap.size w wr)) (fun v5 v6 _ => (intOf v6).toNat - (intOf v5).toNat)
 case atStart => exact ⟨0, n, rfl, rfl, Nat.zero_le _, Nat.le_refl _, ⟨fun a h => by omega⟩, ⟨fun a h h' => by omega⟩, ⟨Below.refl _ _⟩⟩
 case round =>
  obtain ⟨i, j, rfl, rfl, hij, hjn, HLO, HHI, HB⟩ := hrel
  by_cases hlt : i < j
  ·have d1 : decide ((i : Int) < (j : Int)) = true := decide_eq_true (by omega)
   have d1n : decide (i < j) = true := decide_eq_true hlt
   have hn := HN.out
   obtain ⟨s, hs⟩ : ∃ s, i + j = s := ⟨_, rfl⟩
   obtain ⟨h, hh⟩ : ∃ h, s / 2 = h := ⟨_, rfl⟩
   have e1 : wrap64 ((i : Int) + (j : Int)) = (s : Int) := by rw [w64_ok _ (by omega)]; omega
   have e2 : IntKind.u64.wrap (s : Int) = (s : Int) := by simp only [IntKind.wrap, IntKind.bits, IntKind.signed]; simp; omega
   have e3 : wrap64 ((s : Int) / 2) = (h : Int) := by rw [w64_ok _ (by omega)]; omega
   have e4 : wrap64 ((h : Int) + 1) = ((h + 1 : Nat) : Int) := by rw [w64_ok _ (by omega)]; omega
   have hih : i ≤ h := by omega
   have hhj : h < j := by omega
   clear hn hs hh
   cases hgh : g h with
   | true =>
    go_wp2_with (first | (go_at_call 36; (with_reducible refine (HC.out _ h HB.out (by omega)).mono ?_); rintro e w2 ⟨rfl, hb⟩; rw [hgh]; have HB2 := Aside0.mk (below_step HB.out hb); clear hb))
    clear e1 e2 e3 e4
    refine ⟨⟨i, h, rfl, rfl, hih, by omega, HLO, ⟨fun a h1 h2 => HG.out h a h1 hgh⟩, HB2⟩, by simp [intOf]; omega⟩
   | false =>
    go_wp2_with (first | (go_at_call 36; (with_reducible refine (HC.out _ h HB.out (by omega)).mono ?_); rintro e w2 ⟨rfl, hb⟩; rw [hgh]; have HB2 := Aside0.mk (below_step HB.out hb); clear hb))
    rw [e4]
    clear e1 e2 e3 e4
    refine ⟨⟨h + 1, j, rfl, rfl, by omega, hjn, ⟨fun a h1 => ?_⟩, HHI, HB2⟩, by simp [intOf]; omega⟩
    cases hga : g a with
    | false => rfl
    | true => rw [HG.out a h (by omega) hga] at hgh; cases hgh
  ·have d1 : decide ((i : Int) < (j : Int)) = false := decide_eq_false (by omega)
   have d1n : decide (i < j) = false := decide_eq_false hlt
   go_wp2
   go_ret
   exact ⟨i, rfl, by omega, HLO.out, fun a ha => HHI.out a (by omega), HB.out⟩
/-- The least of so many that is true. -/
def dSe (g : Nat → Bool) (n : Nat) : Nat := (List.range n).findIdx g
theorem dSe_eq {g : Nat → Bool} {n r : Nat} (hr : r ≤ n) (hlo : ∀ i, i < r → g i = false) (hhi : ∀ i, r ≤ i → i < n → g i = true) : dSe g n = r := by
 unfold dSe
 rcases Nat.lt_or_ge r n with h | h
 ·rw [List.findIdx_eq (by simpa using h)]
  exact ⟨by simpa using hhi r (Nat.le_refl _) h, fun j hj => by simpa using hlo j hj⟩
 ·obtain rfl : r = n := by omega
  have := List.findIdx_eq_length (xs := List.range r) (p := g)
  rw [List.length_range] at this
  exact this.2 (fun x hx => by rw [hlo x (List.mem_range.1 hx)])
/-- The number of a label. -/
def dId (s : Option Dct) (x : List Int) : Int × Bool :=
 if dSe (fun i : Nat => decide (0 ≤ dcmp (dAt s i) x)) (dN s) < dN s ∧ ((strOfNums (dAt s (dSe (fun i : Nat => decide (0 ≤ dcmp (dAt s i) x)) (dN s) : Nat))).toList == (strOfNums x).toList) = true
  then ((dSe (fun i : Nat => decide (0 ≤ dcmp (dAt s i) x)) (dN s) : Nat), true) else (0, false)
set_option maxHeartbeats 8000000 in
set_option maxRecDepth 100000 in
theorem dict_Dict_Id.calls (p : Value) (m : Nat) (s : Option Dct) (Ax : Option Addr) (cx : Nat) (x : List Int) (w : World) (h : DPtr w p m s) (hf : DFit s) (hC : Kd.C (Kd.int .u8) w Ax x.length x) (hcx : x.length ≤ cx)
  (hup : ∀ i j : Nat, i ≤ j → j < dN s → 0 ≤ dcmp (dAt s i) x → 0 ≤ dcmp (dAt s j) x) :
  Calls Try.prog 18 #[p, .slice Ax x.length cx] w fun e w' => e = .returned (.tuple #[.int .i64 (dId s x).1, .bool (dId s x).2]) ∧ Below w.heap.size w w' := by
 obtain ⟨ap, rfl⟩ : ∃ ap, p = .pointer ap := by
  cases s with
  | none => exact ⟨none, h⟩
  | some B => obtain ⟨q, rfl, _⟩ := h; exact ⟨_, rfl⟩
 obtain ⟨n, hn⟩ : ∃ n, dN s = n := ⟨_, rfl⟩
 obtain ⟨g, hg⟩ : ∃ g : Nat → Bool, g = fun i : Nat => decide (0 ≤ dcmp (dAt s i) x ∨ n ≤ i) := ⟨_, rfl⟩
 have hb2 : Below w.heap.size w ((w.alloc (.cells #[.pointer ap] 34)).alloc (.cells #[.slice Ax x.length cx] 26)) := ((Below.refl _ _).alloc (Nat.le_refl _) _).alloc (by simp) _
 obtain ⟨w2, hw2⟩ : ∃ w2, (w.alloc (.cells #[.pointer ap] 34)).alloc (.cells #[.slice Ax x.length cx] 26) = w2 := ⟨_, rfl⟩
 have k0 : w2.heap[w.heap.size]? = some (.cells #[.pointer ap] 34) := by
  rw [← hw2]
  exact (Below.heap_alloc _ _ _ (by simp)).trans (heap_alloc_new _ _)
 have k1 : w2.heap[w.heap.size + 1]? = some (.cells #[.slice Ax x.length cx] 26) := by
  have h_ := heap_alloc_new (w.alloc (.cells #[.pointer ap] 34)) (.cells #[.slice Ax x.length cx] 26)
  rw [World.size_alloc] at h_
  rw [← hw2]; exact h_
 have o0 : w2.cell? ⟨w.heap.size, 0, none⟩ = some (.pointer ap) := cell_of_row _ _ _ _ _ _ k0
 have o1 : w2.cell? ⟨w.heap.size + 1, 0, none⟩ = some (.slice Ax x.length cx) := cell_of_row _ _ _ _ _ _ k1
 have HW2 := Aside0.mk hw2
 rw [hw2] at hb2
 have HB2 := Aside0.mk hb2
 have HP := Aside0.mk (h.below hb2)
 have HX := Aside0.mk (Kd.C_below hC hb2)
 have HXC := Aside0.mk hcx
 have HFT := Aside0.mk hf
 have HN := Aside0.mk hn
 have HNS : Aside0 (n ≤ 16000000) := ⟨by rw [← hn]; exact hf.small⟩
 have HUP : Aside0 (∀ i j, i ≤ j → g i = true → g j = true) := ⟨fun i j hij h_ => by
  rw [hg] at h_ ⊢
  have h_ := of_decide_eq_true h_
  refine decide_eq_true ?_
  rcases Nat.lt_or_ge j n with hj | hj
  ·rcases h_ with h_ | h_
   ·exact .inl (hup i j hij (by omega) h_)
   ·omega
  ·exact .inr hj⟩
 have HCL : Aside0 (∀ (w1 : World) (i : Nat), Below w2.heap.size w2 w1 → i < n → Calls Try.prog 36 #[.int .i64 i, .pointer (some ⟨w.heap.size, 0, none⟩), .pointer (some ⟨w.heap.size + 1, 0, none⟩)] w1 fun e w' => e = .returned (.bool (g i)) ∧ Below w1.heap.size w1 w') := ⟨fun w1 i hb hi => by
  have hgi : g i = decide (0 ≤ dcmp (dAt s i) x) := by rw [hg]; exact decide_eq_decide.2 ⟨fun h_ => h_.elim id (fun h_ => by omega), .inl⟩
  rw [hgi]
  cases s with
  | none => rw [← hn] at hi; simp [dN] at hi
  | some B =>
   obtain ⟨q, hq, hD⟩ := HP.out
   injection hq with hq
   subst hq
   refine dict_Dict_Id.lit _ _ q m B Ax cx x i w1 ((hb.cell (World.block_lt_of_cell? w2 _ o0)).trans o0) ((hb.cell (World.block_lt_of_cell? w2 _ o1)).trans o1) (hD.below hb) HFT.out (by rw [← hn] at hi; exact hi) (Kd.C_below HX.out hb) HXC.out⟩
 have HGE : Aside0 (∀ i, i < n → g i = decide (0 ≤ dcmp (dAt s i) x)) := ⟨fun i hi => by rw [hg]; exact decide_eq_decide.2 ⟨fun h_ => h_.elim id (fun h_ => by omega), .inl⟩⟩
 have o0l : ((w.alloc (.cells #[.pointer ap] 34)).alloc (.cells #[.slice Ax x.length cx] 26)).cell? ⟨w.heap.size, 0, none⟩ = some (.pointer ap) := by rw [hw2]; exact o0
 clear hn hup hf hC hcx h hb2 hw2 k0 k1 hg
 go_enter Try.func18, Try.ntmps18
 go_wp2_with (first | (go_at_call 22; rw [HW2.out]; (with_reducible refine (dict_Dict_Len.calls _ m s _ HP.out HFT.out).mono ?_); rintro e w1 ⟨rfl, hw_⟩; subst w1; rw [HN.out]; clear o0l) | (go_at_call 35; (with_reducible refine (dict_Dict_Id.search w.heap.size (w.heap.size + 1) n g _ HNS.out HUP.out HCL.out).mono ?_); rintro e w3 ⟨r, rfl, hr, hlo, hhi, hb⟩; have HLO := Aside0.mk hlo; have HHI := Aside0.mk hhi; have HB3 := Aside0.mk hb; clear hlo hhi hb))
 have HRS : Aside0 (dSe (fun i : Nat => decide (0 ≤ dcmp (dAt s i) x)) (dN s) = r) := ⟨by
  rw [HN.out]
  exact dSe_eq hr (fun i hi => by rw [← HGE.out i (by omega)]; exact HLO.out i hi) (fun i h1 h2 => by rw [← HGE.out i h2]; exact HHI.out i h1 h2)⟩
 have HB := Aside0.mk (Below.trans HB2.out (Below.mono HB3.out HB2.out.size))
 by_cases hrn : r = n
 ·subst hrn
  have HRES : Aside0 (dId s x = (0, false)) := ⟨by unfold dId; rw [HRS.out, HN.out, if_neg (fun h_ => Nat.lt_irrefl _ h_.1)]⟩
  repeat (go_quiet (fail); try go_wp2)
  go_ret2
  exact ⟨by rw [HRES.out]; rfl, by repeat (first | (with_reducible exact HB.out) | apply pw_below_drewN | apply Below.drew)⟩
 ·cases s with
  | none => exact absurd (show r < 0 by have := HN.out; simp [dN] at this; omega) (Nat.not_lt_zero _)
  | some B =>
   obtain ⟨q, hq, hD⟩ := HP.out
   injection hq with hq
   subst hq
   obtain ⟨-, v, hq, hN⟩ := hD.below HB3.out
   obtain ⟨Aq, cq, rfl⟩ := Kd.N_slice hN
   have r0 : w3.cell? ⟨q, 0, none⟩ = some (.slice Aq B.length cq) := cell_of_row _ _ _ _ _ _ hq
   have k0 : w3.cell? ⟨w.heap.size, 0, none⟩ = some (.pointer (some ⟨q, 0, none⟩)) := (HB3.out.cell (World.block_lt_of_cell? w2 _ o0)).trans o0
   have k1 : w3.cell? ⟨w.heap.size + 1, 0, none⟩ = some (.slice Ax x.length cx) := (HB3.out.cell (World.block_lt_of_cell? w2 _ o1)).trans o1
   have hdn := HFT.out.small
   obtain ⟨hBl, hfit, hsh⟩ := HFT.out
   obtain ⟨hi1, hi2, hi3⟩ := hfit.at_ (id := r) (by have h_ : B.flatten.length = n := HN.out; omega)
   obtain ⟨ad, A1, c1, rfl, hcell, hF⟩ := N_block hN hi1
   obtain ⟨ad1, A2, c2, rfl, hcell2, hc2, hF2⟩ := Hand.F_row_at hF (r % 16) hi2
   obtain ⟨y, hy⟩ : ∃ x, (B.getD (r / 16) []).getD (r % 16) [] = x := ⟨_, rfl⟩
   rw [hy] at hcell2 hc2 hF2 hi3
   obtain ⟨bl, hbl⟩ : ∃ l, (B.getD (r / 16) []) = l := ⟨_, rfl⟩
   rw [hbl] at hcell hi2
   have HCY := Aside0.mk (Kd.C_drew (Kd.F_now hF2))
   have HCC := Aside0.mk hc2
   have HCX := Aside0.mk (Kd.C_drew (Kd.C_below HX.out HB3.out))
   obtain ⟨t, ht⟩ : ∃ t, ((strOfNums y).toList == (strOfNums x).toList) = t := ⟨_, rfl⟩
   have HEQ : Aside0 (bytes_Equal.f y x = some t) := ⟨congrArg some ht⟩
   have hdn' : n ≤ 16000000 := HNS.out
   have HRES : Aside0 (dId (some B) x = if t = true then ((r : Int), true) else (0, false)) := ⟨by
    have hya : dAt (some B) (r : Int) = y := hi3.symm
    unfold dId
    rw [HRS.out, HN.out, hya, ht]
    cases t with
    | true => rw [if_pos ⟨by omega, rfl⟩, if_pos rfl]
    | false => rw [if_neg (fun h_ => by cases h_.2), if_neg (by simp)]⟩
   obtain ⟨a, ha⟩ : ∃ a, r / 16 = a := ⟨_, rfl⟩
   obtain ⟨b, hb⟩ : ∃ b, r % 16 = b := ⟨_, rfl⟩
   have q1 : ((r : Int).tdiv 16) = (a : Int) := by rw [Int.tdiv_eq_ediv_of_nonneg (by omega)]; omega
   have q2 : ((r : Int).tmod 16) = (b : Int) := by rw [Int.tmod_eq_emod_of_nonneg (by omega)]; omega
   rw [ha] at hcell hi1
   rw [hb] at hcell2 hi2
   have p2 : (a : Int) < (B.length : Int) := by omega
   have p5 : (b : Int) < (bl.length : Int) := by omega
   have p6 : (a : Int) ≤ 1000000 := by omega
   have p0 : (0 : Int) ≤ (a : Int) := by omega
   have p4 : (0 : Int) ≤ (b : Int) := by omega
   have q3 : IntKind.i64.wrap (a : Int) = (a : Int) := by simp only [IntKind.wrap, IntKind.bits, IntKind.signed]; simp; omega
   have d1 : ((r : Int) == (n : Int)) = false := by rw [beq_eq_false_iff_ne]; omega
   have d2 : decide ((r : Int) = (n : Int)) = false := decide_eq_false (by omega)
   have d3 : decide (r = n) = false := decide_eq_false hrn
   clear ha hb hdn hdn' hq hN hF hF2 hc2 hi3 hi2 hsh hfit hy hbl ht hr o0 o1 hD
   go_region_held3 (fun W => W.cell? ⟨w.heap.size, 0, none⟩ = some (.pointer (some ⟨q, 0, none⟩)) ∧ W.cell? ⟨w.heap.size + 1, 0, none⟩ = some (.slice Ax x.length cx) ∧ W.cell? ⟨q, 0, none⟩ = some (.slice (some ad) B.length cq) ∧ W.cell? (ad.add a) = some (.slice (some ad1) bl.length c1) ∧ W.cell? (ad1.add b) = some (.slice A2 y.length c2)) (first | exact ⟨k0, k1, r0, hcell, hcell2⟩ | exact ⟨g0, g1, g2, gc, gc2⟩) (first | (go_at_call 37; (with_reducible refine (bytes_Equal.calls A2 c2 y Ax cx x t _ HCY.out HCC.out HCX.out HXC.out HEQ.out).mono ?_); rintro e w5 ⟨rfl, hb0⟩; have hb := hb0.below; have g0 := (hb.cell (World.block_lt_of_cell? w3.drew _ k0)).trans k0; have g1 := (hb.cell (World.block_lt_of_cell? w3.drew _ k1)).trans k1; have g2 := (hb.cell (World.block_lt_of_cell? w3.drew _ r0)).trans r0; have gc := (hb.cell (World.block_lt_of_cell? w3.drew _ hcell)).trans hcell; have gc2 := (hb.cell (World.block_lt_of_cell? w3.drew _ hcell2)).trans hcell2; have HB5 := Aside0.mk hb; clear hb hb0))
   have HBZ := Aside0.mk (Below.trans HB.out (Below.mono (Below.trans (Below.drew (Below.refl _ _)) HB5.out) HB.out.size))
   cases t with
   | true =>
    go_wp2_with fail
    go_ret2
    exact ⟨by rw [HRES.out]; rfl, HBZ.out⟩
   | false =>
    go_wp2_with fail
    go_ret2
    exact ⟨by rw [HRES.out]; rfl, HBZ.out⟩

/-! ### creellaw16_shown: function 9 -/
/-- Labels that are as great as another one stand behind those that are not. -/
def DUp (s : Option Dct) (x : List Int) : Prop := ∀ i j : Nat, i ≤ j → j < dN s → 0 ≤ dcmp (dAt s i) x → 0 ≤ dcmp (dAt s j) x
theorem lit_Fk {W : World} {k : IntKind} {g : Nat} {e : TypeId} {fr : Nat × Nat} {C : Array Value} (l : List Int) (hg : W.heap[g]? = some (.cells C e fr)) (hC : C = (l.map (Value.int k)).toArray) (hl : l.length ≤ 1000) (K : Nat → Prop) (hK : K g) : Kd.F (Kd.int k) W K (some ⟨g, 0, none⟩) l.length l :=
 Hand.F_nums l hg hC hl hK
theorem shown16_rows {w : World} {o0 o1 : Obj} (h0 : o0 = .cells #[.int .u8 97] 5 (1, 2)) (h1 : o1 = .cells #[.int .u8 98] 5 (1, 2)) :
  Reps (Kd.FK (Kd.slice 5 (Kd.int .u8)) ((w.alloc o0).alloc o1) (fun k => k < w.heap.size + 2)) 1 ([[97], [98]] : List (List Int)) [.slice (some ⟨w.heap.size, 0, none⟩) 1 1, .slice (some ⟨w.heap.size + 1, 0, none⟩) 1 1] := by
 subst h0 h1
 refine Reps.one (Kd.FK_slice_mk (l := [97]) (by decide) (lit_Fk [97] (C := #[.int .u8 97]) (e := 5) (fr := (1, 2)) ?_ rfl (by decide) _ (by omega))) (Reps.one (Kd.FK_slice_mk (l := [98]) (by decide) (lit_Fk [98] (C := #[.int .u8 98]) (e := 5) (fr := (1, 2)) ?_ rfl (by decide) _ (by omega))) (Reps.none _ _))
 ·exact (Below.heap_alloc _ _ _ (by simp)).trans (heap_alloc_new w _)
 ·have := heap_alloc_new (w.alloc (.cells #[.int .u8 97] 5 (1, 2))) (.cells #[.int .u8 98] 5 (1, 2)); simpa using this
/-- A list that is told, built. -/
theorem build_told (k : Nat) (Ad : Option Addr) (n c : Nat) (l : List (List Int)) (b : List Int) (e0 : Int) (w : World) (hn : l.length = n) (hF : Kd.F (Kd.slice 5 (Kd.int .u8)) w (fun k => k < w.heap.size) Ad n l) (h : dict_Build.f k l = some (b, e0)) :
  Calls Try.prog 12 #[.func (.func 27) #[] #[.pointer (some ⟨w.heap.size, 0, none⟩)]] (w.alloc (.cells #[.slice Ad n c] 22)) fun e w' => ∃ A1 c1, e = .returned (.tuple #[.slice A1 b.length c1, .int .i64 e0]) ∧ b.length ≤ c1 ∧ Kd.F (Kd.int .u8) w' (fun k => w.heap.size ≤ k) A1 b.length b ∧ Below w.heap.size w w' := by
 subst hn
 have hb : Below w.heap.size w (w.alloc (.cells #[.slice Ad l.length c] 22)) := (Below.refl _ _).alloc (Nat.le_refl _) _
 refine (dict_Build.calls k w.heap.size Ad c l b e0 _ (cell_of_row _ _ _ _ _ _ (heap_alloc_new _ _)) (Kd.F_mono (Kd.F_below hF hb) (fun k hk => Nat.lt_of_lt_of_le hk hb.size)) h).mono ?_
 rintro e w' ⟨A1, c1, rfl, h1, h2, h3⟩
 exact ⟨A1, c1, rfl, h1, Kd.F_mono h2 (fun k hk => Nat.le_trans hb.size hk), hb.trans (h3.mono hb.size)⟩
def creellaw16_shown.f (k : Nat) : Option Bool := (dict_Build.f k [[97], [98]]).bind fun p => (dict_Open.f k p.1).bind fun o => if p.2 = 0 ∧ p.1.length = 15 ∧ (p.1.drop 4).take 7 = [2, 0, 1, 97, 0, 1, 98] ∧ o = some [[[97], [98]]] then some true else none
set_option maxHeartbeats 8000000 in
set_option maxRecDepth 100000 in
theorem creellaw16_shown.calls (k : Nat) (r : Bool) (w : World) (h : creellaw16_shown.f k = some r) :
  Calls Try.prog 9 #[] w fun e w' => e = .returned (.bool r) ∧ Below w.heap.size w w' := by
 unfold creellaw16_shown.f at h
 obtain ⟨⟨b, e0⟩, hB, h'⟩ := Option.bind_eq_some_iff.mp h
 obtain ⟨o, hO, h⟩ := Option.bind_eq_some_iff.mp h'
 simp only at h hO
 by_cases hc : e0 = 0 ∧ b.length = 15 ∧ (b.drop 4).take 7 = [2, 0, 1, 97, 0, 1, 98] ∧ o = some [[[97], [98]]]
 ·rw [if_pos hc] at h
  obtain rfl := Option.some.inj h
  obtain ⟨rfl, hl, hb, rfl⟩ := hc
  have HO := Aside0.mk hO
  have HB := Aside0.mk hB
  clear h hO hB h'
  have kc := fun (w : World) (C : Array Value) (n c : Nat) => Lib.run_convert_bytes_const (P := Try.prog) w 26 5 C n c Try.underlying26 Try.underlying5
  have kc0 := kc w
  have kc1 : ∀ (o : Obj) (C : Array Value) (n c : Nat), (convert 26 26 (.slice (some ⟨w.heap.size + 1, 0, none⟩) n c)).run Try.prog ((w.alloc o).alloc (.cells C 5)) = .ok (.slice (some ⟨w.heap.size + 1, 0, none⟩) n c) ((w.alloc o).alloc (.cells C 5 (C.size, C.size + 1))) := fun o C n c => by
   have h := kc (w.alloc o) C n c
   rwa [show (w.alloc o).heap.size = w.heap.size + 1 from by simp] at h
  obtain ⟨x4, hx4⟩ : ∃ x4, (b.take 11).drop 4 = x4 := ⟨_, rfl⟩
  have hx5 : x4 = [2, 0, 1, 97, 0, 1, 98] := by rw [← hx4, List.drop_take]; exact hb
  have hst : ((strOfNums x4).toList == ([2, 0, 1, 97, 0, 1, 98] : List UInt8)) = true := by rw [hx5]; decide +kernel
  have HX4 := Aside0.mk hx4
  have h15 : ((b.length : Int) == 15) = true := by rw [hl]; rfl
  have h15n : ((b.length : Int) != 15) = false := by rw [hl]; rfl
  have HL := Aside0.mk hl
  have hfit : DFit (some [[[97], [98]]]) := ⟨by decide, ⟨by decide, by decide, .inl rfl, trivial⟩, by simp⟩
  have HFIT := Aside0.mk hfit
  have hid : dId (some [[[97], [98]]]) [98] = (1, true) := by decide +kernel
  have HID := Aside0.mk hid
  have hup : ∀ i j : Nat, i ≤ j → j < dN (some [[[97], [98]]]) → 0 ≤ dcmp (dAt (some [[[97], [98]]]) i) [98] → 0 ≤ dcmp (dAt (some [[[97], [98]]]) j) [98] := by
   intro i j h1 h2 h3
   have h2 : j < 2 := h2
   have hj : j = 0 ∨ j = 1 := by omega
   rcases hj with rfl | rfl
   ·obtain rfl : i = 0 := by omega
    exact h3
   ·decide +kernel
  have HUP := Aside0.mk hup
  clear hl hb hx4 hx5 hfit hid hup
  go_enter Try.func9, Try.ntmps9
  go_wp2_with (first
   | ((with_reducible refine gate_dst (N := 12) rfl ?_); refine Kd.N_lit (Kd.slice 5 (Kd.int .u8)) _ 26 ?hg (N' := 12) ?hd (xs := ([[97], [98]] : List (List Int))) (inner := [.slice (some ⟨w.heap.size, 0, none⟩) 1 1, .slice (some ⟨w.heap.size + 1, 0, none⟩) 1 1]) (ok := fun _ => True) (okp := fun k => k < w.heap.size + 2) ?hr ?hp (fun _ hk => trivial) trivial (Below.refl _ _) (Nat.le_refl _) (by simp) ?_; (case hd => rfl); (case hg => rfl); (case hr => first | (go_simp; done) | (go_simp; rfl)); (case hp => exact shown16_rows rfl rfl); intro v461 w12 ho13 hb hg_ hnew_; clear hg_ hnew_; have HN := Aside0.mk ho13; have HBa := Aside0.mk hb; clear ho13 hb; obtain ⟨Ao14, co14, eo14⟩ := Kd.N_slice HN.out; subst eo14)
   | (go_at_call 13; (with_reducible refine (creellaw16_tells.calls _ _ _ _).mono ?_); rintro e w13 ⟨rfl, hw_⟩; subst w13)
   | (go_at_call 12; (with_reducible refine (build_told k Ao14 2 co14 [[97], [98]] b 0 w12 rfl (Kd.F_mono (Kd.F_bound (Kd.N_F HN.out)) (fun _ h_ => h_.2)) HB.out).mono ?_); rintro e w14 ⟨A1, c1, rfl, hc1, hF1, hb⟩; have HC1 := Aside0.mk hc1; have HF1 := Aside0.mk hF1; have HBb := Aside0.mk (Below.trans HBa.out (Below.mono hb HBa.out.size)); clear hc1 hF1 hb)
   | (go_at_call 15; (with_reducible refine (dict_Open.calls k A1 c1 b (some [[[97], [98]]]) _ (Kd.F_now HF1.out) HC1.out HO.out).mono ?_); rintro e w15 ⟨⟨q, rfl, hD⟩, hb⟩; have HD := Aside0.mk (show DPtr w15 (.pointer (some ⟨q, 0, none⟩)) _ (some [[[97], [98]]]) from ⟨q, rfl, hD⟩); have HF15 := Aside0.mk (Kd.F_below HF1.out hb); have HBc := Aside0.mk (below_step HBb.out hb); have kcX := kc w15; clear hb hD)
   | (go_at_call 18; refine (dict_Dict_Id.calls _ _ (some [[[97], [98]]]) (some ⟨w15.heap.size, 0, none⟩) 1 [98] (w15.alloc (.cells #[.int .u8 98] 5 (1, 2))) (DPtr.below HD.out ((Below.refl _ _).alloc (Nat.le_refl _) _)) HFIT.out (Kd.F_now (lit_Fk [98] (heap_alloc_new _ _) rfl (by decide) (fun _ => True) trivial)) (by decide) HUP.out).mono ?_; rintro e w16 ⟨rfl, hb⟩; rw [HID.out]; have HBd := Aside0.mk (below_step HBc.out (Below.trans ((Below.refl w15.heap.size w15).alloc (Nat.le_refl _) _) (Below.mono hb (by simp)))); have HD16 := Aside0.mk (DPtr.below HD.out (Below.trans ((Below.refl _ _).alloc (Nat.le_refl _) _) (Below.mono hb (by simp)))); have HF16 := Aside0.mk (Kd.F_below HF15.out (Below.trans ((Below.refl _ _).alloc (Nat.le_refl _) _) (Below.mono hb (by simp)))); clear hb; obtain ⟨A4, n4, c4, hn4, hnc4, hcut4, hF4⟩ := Hand.cut_mid (P := Try.prog) 26 .i64 .i64 Try.underlying26 (by kernel_rfl) HF16.out HC1.out 4 11 (by decide) (by have := HL.out; omega); rw [HX4.out] at hn4 hF4; have hcv := Kd.C_string (P := Try.prog) (A := A4) (c := c4) Try.underlying26 Try.underlying5 Try.underlying9 (Kd.F_now hF4); have hcut5 : ∀ W : World, (Instr.slice 26 (.slice A1 b.length c1) (some (.int .i64 4)) (some (.int .i64 11)) none).run Try.prog W = .ok (.slice A4 n4 c4) W := hcut4; clear hF4 hn4 hnc4 hcut4)
   | (go_at_call 22; (with_reducible refine (dict_Dict_Len.calls _ _ (some [[[97], [98]]]) _ HD16.out HFIT.out).mono ?_); rintro e w17 ⟨rfl, hw_⟩; subst w17; rw [show ((dN (some [[[97], [98]]]) : Nat) : Int) = 2 from rfl]))
  go_ret
  exact ⟨rfl, below_step (((Below.refl w.heap.size w).alloc (Nat.le_refl _) _).alloc (by simp) _) HBd.out⟩
 ·rw [if_neg hc] at h
  exact absurd h (by simp)

/-! ### dict_Dict_All: function 23 -/

end Go.Proofs.Ytaiechbdcddalaa.Print
