-- Written by a program of this session (wip/cprint.py), which calls the kit's print and adds contracts proved by hand.
import Derived.Test.YtgpacbklpmloaaaPrint0
import Derived.Test.YtgpacbklpmloaaaPrint8
import Derived.Test.YtgpacbklpmloaaaPrint10
import Derived.Test.YtgpacbklpmloaaaPrint18
import Derived.Test.YtgpacbklpmloaaaPrint22
namespace Go.Proofs.Ytgpacbklpmloaaa.Print
open Go.RowKit Go.Proofs.YtgpacbklpmloaaaW.PrintWords Go.Proofs.YtgpacbklpmloaaaW.PrintLast Go.Proofs.YtgpacbklpmloaaaW.PrintMore
attribute [local go_sem] max2_int min2_int max_two min_two max_three min_three max_four min_four   -- for this text's walks alone
set_option linter.unusedVariables false
set_option linter.unusedSimpArgs false

/-! ### words_Take: function 29 -/
mutual
def words_Take.j0 : Nat → Int → List Int → Bool → Option ((List (List Int)) × Int)
 | 0, _, _, _ => none
 | k + 1, x4, x5, x27 => if x27 = true then (some (([] : List (List Int)), 6)) else (words_Take.l0 k x5 ([] : List (List Int)) ([] : List Int) x4 0)
def words_Take.l0 : Nat → List Int → List (List Int) → List Int → Int → Int → Option ((List (List Int)) × Int)
 | 0, _, _, _, _, _ => none
 | k + 1, x5, x7, x8, x28, x29 => if x29 < x28 then ((words_word.f k x8 x5).bind fun bt553 => (if bt553.2.2 = true then (if x7.length < 5864062014805 then (words_Take.l0 k bt553.2.1 (x7 ++ [bt553.1]) bt553.1 x28 (IntKind.u64.wrap (x29 + 1))) else (none)) else (some (([] : List (List Int)), 6)))) else (if (x5.length : Int) > 0 then (some (([] : List (List Int)), 6)) else (some (x7, 0)))
end
def words_Take.f (k : Nat) (l0 : List Int) : Option ((List (List Int)) × Int) := (vary_Take.f k l0).bind fun bt548 => (if bt548.2.2 = 0 then (if bt548.1 < 1 then (words_Take.j0 k bt548.1 bt548.2.1 true) else (words_Take.j0 k bt548.1 bt548.2.1 (decide (bt548.1 > 16)))) else (words_Take.j0 k bt548.1 bt548.2.1 true))
theorem words_Take.mono_l : ∀ k, (∀ y0 y1 y2, LeO (words_Take.j0 k y0 y1 y2) (words_Take.j0 (k + 1) y0 y1 y2)) ∧ (∀ y0 y1 y2 y3 y4, LeO (words_Take.l0 k y0 y1 y2 y3 y4) (words_Take.l0 (k + 1) y0 y1 y2 y3 y4))
 | 0 => ⟨fun _ _ _ r h => by simp [words_Take.j0] at h, fun _ _ _ _ _ r h => by simp [words_Take.l0] at h⟩
 | k + 1 => by
  obtain ⟨ih0, ih1⟩ := words_Take.mono_l k
  refine ⟨?_, ?_⟩
  ·intro y0 y1 y2
   unfold words_Take.j0
   repeat' first
   | (with_reducible exact ih0 _ _ _)
   | (with_reducible exact ih1 _ _ _ _ _)
   | (with_reducible exact vary_Take.mono _ _)
   | (with_reducible exact words_word.mono _ _ _)
   | (with_reducible exact LeO.refl _)
   | (with_reducible exact LeO.none _)
   | (with_reducible refine LeO.ite ?_ ?_)
   | (with_reducible refine LeO.bind ?_ (fun _ => ?_))
   | exact ih0 _ _ _
   | exact ih1 _ _ _ _ _
   | exact vary_Take.mono _ _
   | exact words_word.mono _ _ _
   | exact LeO.none _
   | refine LeO.ite ?_ ?_
   | refine LeO.bind ?_ (fun _ => ?_)
  ·intro y0 y1 y2 y3 y4
   unfold words_Take.l0
   repeat' first
   | (with_reducible exact ih0 _ _ _)
   | (with_reducible exact ih1 _ _ _ _ _)
   | (with_reducible exact vary_Take.mono _ _)
   | (with_reducible exact words_word.mono _ _ _)
   | (with_reducible exact LeO.refl _)
   | (with_reducible exact LeO.none _)
   | (with_reducible refine LeO.ite ?_ ?_)
   | (with_reducible refine LeO.bind ?_ (fun _ => ?_))
   | exact ih0 _ _ _
   | exact ih1 _ _ _ _ _
   | exact vary_Take.mono _ _
   | exact words_word.mono _ _ _
   | exact LeO.none _
   | refine LeO.ite ?_ ?_
   | refine LeO.bind ?_ (fun _ => ?_)
theorem words_Take.mono : ∀ a0 k, LeO (words_Take.f k a0) (words_Take.f (k + 1) a0) := by
 intro a0 k
 obtain ⟨ih0, ih1⟩ := words_Take.mono_l k
 unfold words_Take.f
 repeat' first
   | (with_reducible exact ih0 _ _ _)
   | (with_reducible exact ih1 _ _ _ _ _)
   | (with_reducible exact vary_Take.mono _ _)
   | (with_reducible exact words_word.mono _ _ _)
   | (with_reducible exact LeO.refl _)
   | (with_reducible exact LeO.none _)
   | (with_reducible refine LeO.ite ?_ ?_)
   | (with_reducible refine LeO.bind ?_ (fun _ => ?_))
   | exact ih0 _ _ _
   | exact ih1 _ _ _ _ _
   | exact vary_Take.mono _ _
   | exact words_word.mono _ _ _
   | exact LeO.none _
   | refine LeO.ite ?_ ?_
   | refine LeO.bind ?_ (fun _ => ?_)
set_option maxHeartbeats 8000000 in
set_option maxRecDepth 100000 in
theorem words_Take.calls (k : Nat) (A0 : Option Addr) (c0 : Nat) (l0 : List Int) (r1 : List (List Int)) (r2 : Int) (w : World) (hr0 : Kd.C (Kd.int .u8) w A0 l0.length l0) (hc0 : l0.length ≤ c0) (h : words_Take.f k l0 = some (r1, r2)) :
  Calls Try.prog 29 #[.slice A0 l0.length c0] w fun e w' => ∃ v0_ : Value, e = .returned (.tuple #[v0_, .int .i64 r2]) ∧ Kd.N (Kd.slice 5 (Kd.int .u8)) 27 w' w.heap.size (fun k_ => (w.heap.size ≤ k_)) v0_ r1 ∧ Below w.heap.size w w' := by
 have HR0 := Aside0.mk hr0
 have HC0 := Aside0.mk hc0
 clear hr0 hc0
 have HB := Aside0.mk (Below.refl w.heap.size w)
 have H : ((vary_Take.f k l0).bind fun bt548 => (if bt548.2.2 = 0 then (if bt548.1 < 1 then (words_Take.j0 k bt548.1 bt548.2.1 true) else (words_Take.j0 k bt548.1 bt548.2.1 (decide (bt548.1 > 16)))) else (words_Take.j0 k bt548.1 bt548.2.1 true))) = some (r1, r2) := h
 clear h
 replace H := Option.bind_eq_some_iff.mp H
 obtain ⟨⟨t548, t549, t550⟩, A20, H⟩ := H
 replace H : (if t550 = 0 then (if t548 < 1 then (words_Take.j0 k t548 t549 true) else (words_Take.j0 k t548 t549 (decide (t548 > 16)))) else (words_Take.j0 k t548 t549 true)) = some (r1, r2) := H
 have A2 := Aside0.mk A20
 clear A20
 have HC3 := Aside0.mk H
 clear H
 go_enter Try.func29, Try.ntmps29
 go_upto_region 2 with (first | ((with_reducible refine gate_callee (f := 36) rfl ?_); refine goesL_ (some 14) rfl rfl Try.func36 (by kernel_rfl) rfl #[.slice A0 l0.length c0] rfl (by (try simp only [List.map_toArray, List.map_cons, List.map_nil]); first | done | rfl | (simp only [List.length_drop, List.length_take]; rfl)) ?_; (with_reducible refine (vary_Take.calls k _ _ l0 t548 t549 t550 _ ?side1 ?side2 A2.out).mono ?_); (case side1 => repeat (first | exact HR0.out | (with_reducible refine Kd.C_alloc ?_ _) | (with_reducible refine Kd.C_drewN ?_ _) | (with_reducible refine Kd.C_drew ?_))); (case side2 => exact HC0.out); rintro e w4 ⟨v551, rfl, ho0, hb⟩; refine ⟨_, rfl, ?_⟩; have n0_ := Aside0.mk (Kd.R_lower (Kd.R_newM (M := fun k_ => (w.heap.size ≤ k_)) ho0 (below_size (by repeat (first | (with_reducible first | exact HB.out | apply below_alloc | apply pw_below_drewN | apply below_drew1) | exact HB.out))) (fun k_ h_ => h_)) (below_size (by repeat (first | (with_reducible first | exact HB.out | apply below_alloc | apply pw_below_drewN | apply below_drew1) | exact HB.out)))); have n1_ := Aside0.mk (below_step (by repeat (first | (with_reducible first | exact HB.out | apply below_alloc | apply pw_below_drewN | apply below_drew1) | exact HB.out)) hb); clear HB; have HO552 := n0_; have HB := n1_; clear n0_ n1_; (try clear hb); (try clear hb2); (try clear hk); (try clear hi); (try clear ho0)))
 (try simp only [Act.put, List.setIfInBounds_toArray, List.set_cons_zero, List.set_cons_succ])
 go_cut [27] (fun v27 wc => ∃ (kq : Nat) (x27_2 : Bool), v27 = .bool x27_2 ∧ Aside0 (words_Take.j0 kq t548 t549 x27_2 = some (r1, r2)) ∧ Aside0 (kq ≤ k) ∧ Aside0 (Kd.Q (Kd.int .u8) 5 wc w.heap.size (fun k_ => (w.heap.size ≤ k_)) v551 t549) ∧ Aside0 (Below w.heap.size w wc))
 case first =>
  have H := HC3.out
  clear HC3
  by_cases c5 : t550 = 0
  ·rw [if_pos c5] at H
   have c5b0 : (t550 == 0) = true := beq_iff_eq.mpr c5
   have c5b1 : (t550 != 0) = false := bne_eq_false_iff_eq.mpr c5
   clear c5
   (first | rw [c5b0] | (simp only [i64_w, i32_w]; rw [c5b0]) | skip)
   by_cases c6 : t548 < 1
   ·rw [if_pos c6] at H
    have c6b0 : decide (t548 < 1) = true := decide_eq_true c6
    clear c6
    have H' := Aside0.mk H
    clear H
    go_wp2
    go_meet
    case rel => exact ⟨_, (true), (by first | rfl | (simp; done) | (simp [*]; done)), H', ⟨by first | omega | exact Nat.le_refl _⟩, ⟨Kd.Q_of_R (by (with_reducible repeat (first | apply Kd.R_alloc | apply Kd.R_drewN | apply Kd.R_drew)); exact Kd.R_mono HO552.out (fun _ hk => hk.1))⟩, ⟨by repeat (first | (with_reducible first | exact HB.out | apply below_alloc | apply pw_below_drewN | apply below_drew1) | exact HB.out)⟩⟩
   ·rw [if_neg c6] at H
    have c6b0 : decide (t548 < 1) = false := decide_eq_false c6
    clear c6
    have H' := Aside0.mk H
    clear H
    go_wp2
    go_meet
    case rel => exact ⟨_, (decide (t548 > 16)), (by first | rfl | (simp; done) | (simp [*]; done)), H', ⟨by first | omega | exact Nat.le_refl _⟩, ⟨Kd.Q_of_R (by (with_reducible repeat (first | apply Kd.R_alloc | apply Kd.R_drewN | apply Kd.R_drew)); exact Kd.R_mono HO552.out (fun _ hk => hk.1))⟩, ⟨by repeat (first | (with_reducible first | exact HB.out | apply below_alloc | apply pw_below_drewN | apply below_drew1) | exact HB.out)⟩⟩
  ·rw [if_neg c5] at H
   have c5b0 : (t550 == 0) = false := beq_eq_false_iff_ne.mpr c5
   have c5b1 : (t550 != 0) = true := bne_iff_ne.mpr c5
   (first | rw [c5b0] | (simp only [i64_w, i32_w]; rw [c5b0]) | skip)
   have H' := Aside0.mk H
   clear H
   go_wp2
   go_meet
   case rel => exact ⟨_, (true), (by first | rfl | (simp; done) | (simp [*]; done)), H', ⟨by first | omega | exact Nat.le_refl _⟩, ⟨Kd.Q_of_R (by (with_reducible repeat (first | apply Kd.R_alloc | apply Kd.R_drewN | apply Kd.R_drew)); exact Kd.R_mono HO552.out (fun _ hk => hk.1))⟩, ⟨by repeat (first | (with_reducible first | exact HB.out | apply below_alloc | apply pw_below_drewN | apply below_drew1) | exact HB.out)⟩⟩
 case rest =>
  clear HC3
  try clear c2
  try clear p2
  try clear c3
  try clear c5
  try clear c5b0
  try clear c5b1
  try clear c6
  try clear c6b0
  obtain ⟨kq, x27_2, rfl, HA, HJ2, HO_5, HB⟩ := hcut
  cases kq with
  | zero => exact absurd HA.out (by simp [words_Take.j0])
  | succ kj2 =>
   have H := HA.out
   clear HA
   simp only [words_Take.j0] at H
   by_cases c7 : x27_2 = true
   ·subst c7
    have H1 : (some (([] : List (List Int)), 6)) = some (r1, r2) := by rw [if_pos rfl] at H; exact H
    clear H
    have H := H1
    clear H1
    simp only [Option.some.injEq, Prod.mk.injEq] at H
    obtain ⟨rfl, rfl⟩ := H
    go_wp2
    go_ret2
    exact ⟨_, by first | rfl | (simp [errW_none, errW_some] <;> rfl) | (simp [*, errW_none, errW_some] <;> rfl), by first | exact Kd.S_nil _ _ _ _ _ | exact Kd.N_nil _ _ _ _ _ | exact Kd.V_nil _ _ _ _ _ | exact Kd.Q_nil _ _ _ _ _ | exact Kd.R_nil _ _ _ _ _, by repeat (first | (with_reducible first | exact HB.out | apply below_alloc | apply pw_below_drewN | apply below_drew1) | exact HB.out)⟩
   ·replace c7 := Bool.eq_false_iff.mpr c7
    subst c7
    have H1 : (words_Take.l0 kj2 t549 ([] : List (List Int)) ([] : List Int) t548 0) = some (r1, r2) := by rw [if_neg (show ¬ (false = true) by decide)] at H; exact H
    clear H
    have H := H1
    clear H1
    have H' := Aside0.mk H
    clear H
    go_wp2
    go_loopg [5, 7, 8, 29] kj2 (fun kq v5 v7 v8 v29 w' => ∃ (x5_2 : List Int) (x7_2 : List (List Int)) (x8_2 : List Int) (x29_2 : Int), v29 = .int .u64 x29_2 ∧ Aside0 (words_Take.l0 kq x5_2 x7_2 x8_2 t548 x29_2 = some (r1, r2)) ∧ Aside0 (kq ≤ kj2) ∧ Aside0 (Kd.Q (Kd.int .u8) 5 w' w.heap.size (fun k_ => (w.heap.size ≤ k_)) v5 x5_2) ∧ Aside0 (Kd.N (Kd.slice 5 (Kd.int .u8)) 27 w' w.heap.size (fun k_ => (w.heap.size ≤ k_) ∧ some k_ ≠ (v5 : Value).ownBlock) v7 x7_2) ∧ Aside0 (Kd.V (Kd.int .u8) 5 w' w.heap.size (fun k_ => (w.heap.size ≤ k_) ∧ some k_ ≠ (v5 : Value).ownBlock ∧ some k_ ≠ (v7 : Value).ownBlock) v8 x8_2) ∧ Aside0 (Below w.heap.size w w'))
    case atStart => exact ⟨(t549), (([] : List (List Int))), (([] : List Int)), (0), (by first | rfl | (simp; done) | (simp [*]; done)), H', ⟨Nat.le_refl _⟩, ⟨by (with_reducible repeat (first | apply Kd.Q_alloc | apply Kd.Q_drewN | apply Kd.Q_drew)); exact HO_5.out⟩, ⟨by first | exact Kd.S_nil _ _ _ _ _ | exact Kd.N_nil _ _ _ _ _ | exact Kd.V_nil _ _ _ _ _ | exact Kd.Q_nil _ _ _ _ _ | exact Kd.R_nil _ _ _ _ _⟩, ⟨(by first | exact Kd.V_nil _ _ _ _ _ | exact Kd.R_V (by first | exact Kd.R_nil _ _ _ _ _ | exact Kd.N_nil _ _ _ _ _ | exact Kd.V_nil _ _ _ _ _ | exact Kd.Q_nil _ _ _ _ _ | exact Kd.S_nil _ _ _ _ _))⟩, ⟨by repeat (first | (with_reducible first | exact HB.out | apply below_alloc | apply pw_below_drewN | apply below_drew1) | exact HB.out)⟩⟩
    case round =>
     clear H'
     try clear c2
     try clear p2
     try clear c3
     try clear c5
     try clear c5b0
     try clear c5b1
     try clear c6
     try clear c6b0
     try clear c7
     try clear p2
     obtain ⟨x5_2, x7_2, x8_2, x29_2, rfl, HA, HK2, HO_5, HO_7, HO_8, HB⟩ := hrel
     cases gk with
     | zero => exact absurd HA.out (by simp [words_Take.l0])
     | succ k2 =>
      have H := HA.out
      clear HA
      simp only [words_Take.l0] at H
      by_cases c8 : x29_2 < t548
      ·rw [if_pos c8] at H
       have c8b0 : decide (x29_2 < t548) = true := decide_eq_true c8
       clear c8
       replace H := Option.bind_eq_some_iff.mp H
       obtain ⟨⟨t553, t556, t559⟩, A90, H⟩ := H
       replace H : (if t559 = true then (if x7_2.length < 5864062014805 then (words_Take.l0 k2 t556 (x7_2 ++ [t553]) t553 t548 (IntKind.u64.wrap (x29_2 + 1))) else (none)) else (some (([] : List (List Int)), 6))) = some (r1, r2) := H
       have A9 := Aside0.mk A90
       clear A90
       by_cases c10 : t559 = true
       ·subst c10
        have H1 : (if x7_2.length < 5864062014805 then (words_Take.l0 k2 t556 (x7_2 ++ [t553]) t553 t548 (IntKind.u64.wrap (x29_2 + 1))) else (none)) = some (r1, r2) := by rw [if_pos rfl] at H; exact H
        clear H
        have H := H1
        clear H1
        by_cases c11 : x7_2.length < 5864062014805
        ·rw [if_pos c11] at H
         have LMc11 := Aside0.mk c11
         clear c11
         obtain ⟨y560, hy560⟩ : ∃ y_ : List (List Int), y_ = (x7_2 ++ [t553]) := ⟨_, rfl⟩
         replace H : (words_Take.l0 k2 t556 y560 t553 t548 (IntKind.u64.wrap (x29_2 + 1))) = some (r1, r2) := by first | (rw [hy560]; with_reducible exact H) | (have H2_ := (Option.bind_some _ _).symm.trans H; rw [hy560]; with_reducible exact H2_) | (have H2_ := (Option.bind_some _ _).symm.trans H; with_reducible exact H2_) | with_reducible exact H | (rw [hy560]; exact H) | exact H
         have Ny560 := Aside0.mk hy560
         clear hy560
         have H' := Aside0.mk H
         clear H
         obtain ⟨Ao12, co12, eo12⟩ := Kd.V_slice HO_8.out
         subst eo12
         obtain ⟨Ao13, co13, eo13, _⟩ := Kd.Q_slice HO_5.out
         subst eo13
         go_wp2_with (first | ((with_reducible refine gate_callee (f := 43) rfl ?_); refine goesL_ (some 34) rfl rfl Try.func43 (by kernel_rfl) rfl #[.slice Ao12 x8_2.length co12, .slice Ao13 x5_2.length co13] rfl (by (try simp only [List.map_toArray, List.map_cons, List.map_nil]); first | done | rfl | (simp only [List.length_drop, List.length_take]; rfl)) ?_; (with_reducible refine (words_word.calls k2 (fun k_ => ((w.heap.size ≤ k_) ∧ (some k_ ≠ (.slice Ao13 x5_2.length co13 : Value).ownBlock ∧ some k_ ≠ (u7 : Value).ownBlock))) _ _ x8_2 _ _ x5_2 t553 t556 true _ ?side1 ?side2 ?side3 A9.out).mono ?_); (case side1 => exact HO_8.out); (case side2 => repeat (first | exact (Kd.Q_reads' HO_5.out).2.2 | (with_reducible refine Kd.C_alloc ?_ _) | (with_reducible refine Kd.C_drewN ?_ _) | (with_reducible refine Kd.C_drew ?_))); (case side3 => exact (Kd.Q_reads' HO_5.out).2.1); rintro e w14 ⟨v554, v557, rfl, ho0, ho1, hb⟩; refine ⟨_, rfl, ?_⟩; have n0_ := Aside0.mk (Kd.Q_elder' (by (with_reducible repeat (first | apply Kd.Q_alloc | apply Kd.Q_drewN | apply Kd.Q_drew)); exact HO_5.out) (Kd.Q_base ho1) hb); have n1_ := Aside0.mk (Kd.N_elder' (by (with_reducible repeat (first | apply Kd.N_alloc | apply Kd.N_drewN | apply Kd.N_drew)); exact HO_7.out) (Kd.Q_base ho1) hb); have n2_ := Aside0.mk (Kd.V_elder' (by (with_reducible repeat (first | apply Kd.V_alloc | apply Kd.V_drewN | apply Kd.V_drew)); exact HO_8.out) (Kd.Q_base ho1) hb); have n3_ := Aside0.mk (Kd.V_lower (Kd.V_mono (ok' := fun k_ => (w.heap.size ≤ k_) ∧ some k_ ≠ (v557 : Value).ownBlock ∧ some k_ ≠ (.slice Ao13 x5_2.length co13 : Value).ownBlock ∧ some k_ ≠ (u7 : Value).ownBlock) ho0 (fun k_ hk_ => ⟨Or.elim hk_.1 (fun hs_ => hs_.1) (fun hn_ => (Nat.le_trans (below_size (by repeat (first | (with_reducible first | exact HB.out | apply below_alloc | apply pw_below_drewN | apply below_drew1) | exact HB.out))) hn_)), hk_.2, Or.elim hk_.1 (fun hs_ => hs_.2.1) (fun hn_ => (Kd.fresh' (Kd.Q_lt (by (with_reducible repeat (first | apply Kd.Q_alloc | apply Kd.Q_drewN | apply Kd.Q_drew)); exact HO_5.out)) k_ hn_)), Or.elim hk_.1 (fun hs_ => hs_.2.2) (fun hn_ => (Kd.fresh' (Kd.N_lt (by (with_reducible repeat (first | apply Kd.N_alloc | apply Kd.N_drewN | apply Kd.N_drew)); exact HO_7.out)) k_ hn_))⟩)) (below_size (by repeat (first | (with_reducible first | exact HB.out | apply below_alloc | apply pw_below_drewN | apply below_drew1) | exact HB.out)))); have n4_ := Aside0.mk (Kd.Q_lower (Kd.Q_new' (Kd.Q_newM (M := fun k_ => (w.heap.size ≤ k_)) (Kd.Q_mono (ok' := fun k_ => True) ho1 (fun _ hk_ => trivial)) (below_size (by repeat (first | (with_reducible first | exact HB.out | apply below_alloc | apply pw_below_drewN | apply below_drew1) | exact HB.out))) (fun k_ h_ => h_)) (Kd.Q_lt (by (with_reducible repeat (first | apply Kd.Q_alloc | apply Kd.Q_drewN | apply Kd.Q_drew)); exact HO_5.out))) (below_size (by repeat (first | (with_reducible first | exact HB.out | apply below_alloc | apply pw_below_drewN | apply below_drew1) | exact HB.out)))); have n5_ := Aside0.mk (below_step (by repeat (first | (with_reducible first | exact HB.out | apply below_alloc | apply pw_below_drewN | apply below_drew1) | exact HB.out)) hb); clear HO_5; clear HO_7; clear HO_8; clear HB; have HO_5 := n0_; have HO_7 := n1_; have HO_8 := n2_; have HO555 := n3_; have HO558 := n4_; have HB := n5_; clear n0_ n1_ n2_ n3_ n4_ n5_; (try clear hb); (try clear hb2); (try clear hk); (try clear hi); (try clear ho0); (try clear ho1); obtain ⟨Ao16, co16, eo16⟩ := Kd.V_slice HO555.out; subst eo16) | ((with_reducible refine gate_builtin (b := .append) (xs := #[.tmp 40, .tmp 42]) rfl ?_); at_builtin; refine Kd.N_append (Kd.slice 5 (Kd.int .u8)) (w0 := w) w.heap.size rfl (.tmp 40) (.tmp 42) 39 27 (.slice none 0 0) 24 rfl Try.underlying39 info27 rfl (by decide) (by omega) u7 x7_2 t553 [.slice Ao16 t553.length co16] (fun k_ => (w.heap.size ≤ k_) ∧ some k_ ≠ (.slice Ao13 x5_2.length co13 : Value).ownBlock ∧ some k_ ≠ (v557 : Value).ownBlock) (fun k_ => ((fun k_ => (w.heap.size ≤ k_) ∧ some k_ ≠ (.slice Ao13 x5_2.length co13 : Value).ownBlock ∧ some k_ ≠ (v557 : Value).ownBlock)) k_ ∧ some k_ ≠ (u7 : Value).ownBlock) rfl rfl ?aP (fun _ hk => hk) ?aF ?aO ?aB ?aS ?aL ?_; (case aP => exact (Kd.FK_slice_mk (Kd.V_reads' (Kd.V_mono (ok' := (fun k_ => ((fun k_ => (w.heap.size ≤ k_) ∧ some k_ ≠ (.slice Ao13 x5_2.length co13 : Value).ownBlock ∧ some k_ ≠ (v557 : Value).ownBlock)) k_ ∧ some k_ ≠ (u7 : Value).ownBlock)) (HO555.out) (fun k_ hk => ⟨⟨hk.1, ⟨hk.2.2.1, hk.2.1⟩⟩, hk.2.2.2⟩))).2.1 (Kd.V_F (Kd.V_mono (ok' := (fun k_ => ((fun k_ => (w.heap.size ≤ k_) ∧ some k_ ≠ (.slice Ao13 x5_2.length co13 : Value).ownBlock ∧ some k_ ≠ (v557 : Value).ownBlock)) k_ ∧ some k_ ≠ (u7 : Value).ownBlock)) (HO555.out) (fun k_ hk => ⟨⟨hk.1, ⟨hk.2.2.1, hk.2.1⟩⟩, hk.2.2.2⟩))))); (case aB => exact (by repeat (first | (with_reducible first | exact HB.out | apply below_alloc | apply pw_below_drewN | apply below_drew1) | exact HB.out))); (case aF => exact (fun k_ hk => ⟨(Nat.le_trans (below_size (by repeat (first | (with_reducible first | exact HB.out | apply below_alloc | apply pw_below_drewN | apply below_drew1) | exact HB.out))) hk), Kd.fresh' (Kd.Q_lt (by (with_reducible repeat (first | apply Kd.Q_alloc | apply Kd.Q_drewN | apply Kd.Q_drew)); exact HO_5.out)) k_ hk, Kd.fresh' (Kd.Q_lt (by (with_reducible repeat (first | apply Kd.Q_alloc | apply Kd.Q_drewN | apply Kd.Q_drew)); exact HO558.out)) k_ hk⟩)); (case aO => exact (by (with_reducible repeat (first | apply Kd.N_alloc | apply Kd.N_drewN | apply Kd.N_drew)); exact Kd.N_mono HO_7.out (fun _ hk => ⟨hk.1.1, ⟨hk.1.2, hk.2⟩⟩))); (case aS => exact (below_size (by repeat (first | (with_reducible first | exact HB.out | apply below_alloc | apply pw_below_drewN | apply below_drew1) | exact HB.out)))); (case aL => have := LMc11.out; omega); intro v561 w15 ho hb hg hat; rw [← Ny560.out] at ho; have n0_ := Aside0.mk (Kd.Q_over' (by (with_reducible repeat (first | apply Kd.Q_alloc | apply Kd.Q_drewN | apply Kd.Q_drew)); exact HO_5.out) (Kd.N_typed (by (with_reducible repeat (first | apply Kd.N_alloc | apply Kd.N_drewN | apply Kd.N_drew)); exact HO_7.out)) (by decide) hg); have n1_ := Aside0.mk (Kd.V_afterv (ok := (fun k_ => (w.heap.size ≤ k_) ∧ some k_ ≠ (.slice Ao13 x5_2.length co13 : Value).ownBlock ∧ some k_ ≠ (v557 : Value).ownBlock)) (by (with_reducible repeat (first | apply Kd.V_alloc | apply Kd.V_drewN | apply Kd.V_drew)); exact Kd.V_mono HO_8.out (fun _ hk => ⟨⟨hk.1.1, ⟨hk.1.2.1, hk.2⟩⟩, hk.1.2.2⟩)) hg hat); have n2_ := Aside0.mk (Kd.V_afterv (ok := (fun k_ => (w.heap.size ≤ k_) ∧ some k_ ≠ (.slice Ao13 x5_2.length co13 : Value).ownBlock ∧ some k_ ≠ (v557 : Value).ownBlock)) (by (with_reducible repeat (first | apply Kd.V_alloc | apply Kd.V_drewN | apply Kd.V_drew)); exact Kd.V_mono HO555.out (fun _ hk => ⟨⟨hk.1, ⟨hk.2.2.1, hk.2.1⟩⟩, hk.2.2.2⟩)) hg hat); have n3_ := Aside0.mk (Kd.Q_over' (by (with_reducible repeat (first | apply Kd.Q_alloc | apply Kd.Q_drewN | apply Kd.Q_drew)); exact HO558.out) (Kd.N_typed (by (with_reducible repeat (first | apply Kd.N_alloc | apply Kd.N_drewN | apply Kd.N_drew)); exact HO_7.out)) (by decide) hg); have n4_ := Aside0.mk (hb); have n5_ := Aside0.mk (ho); clear HO_5; clear HO_8; clear HO555; clear HO558; clear HB; clear HO_7; have HO_5 := n0_; have HO_8 := n1_; have HO555 := n2_; have HO558 := n3_; have HB := n4_; have HO562 := n5_; clear n0_ n1_ n2_ n3_ n4_ n5_; clear ho hb hg hat))
         go_roundg k2
         case measure => have := HJ2.out; have := HK2.out; omega
         case rel => exact ⟨(t556), (y560), (t553), (IntKind.u64.wrap (x29_2 + 1)), (by first | rfl | (simp; done) | (simp [*]; done)), H', ⟨by have := HJ2.out; have := HK2.out; omega⟩, ⟨by (with_reducible repeat (first | apply Kd.Q_alloc | apply Kd.Q_drewN | apply Kd.Q_drew)); exact Kd.Q_mono HO558.out (fun _ hk => hk.1.1)⟩, ⟨by (with_reducible repeat (first | apply Kd.N_alloc | apply Kd.N_drewN | apply Kd.N_drew)); exact Kd.N_mono HO562.out (fun _ hk => ⟨hk.1, hk.2.2⟩)⟩, ⟨by (with_reducible repeat (first | apply Kd.V_alloc | apply Kd.V_drewN | apply Kd.V_drew)); exact Kd.V_mono HO555.out (fun _ hk => ⟨hk.1.1, ⟨hk.1.2.2, hk.2⟩⟩)⟩, ⟨by repeat (first | (with_reducible first | exact HB.out | apply below_alloc | apply pw_below_drewN | apply below_drew1) | exact HB.out)⟩⟩
        ·rw [if_neg c11] at H
         exact absurd H (by simp)
       ·replace c10 := Bool.eq_false_iff.mpr c10
        subst c10
        have H1 : (some (([] : List (List Int)), 6)) = some (r1, r2) := by rw [if_neg (show ¬ (false = true) by decide)] at H; exact H
        clear H
        have H := H1
        clear H1
        simp only [Option.some.injEq, Prod.mk.injEq] at H
        obtain ⟨rfl, rfl⟩ := H
        obtain ⟨Ao17, co17, eo17⟩ := Kd.V_slice HO_8.out
        subst eo17
        obtain ⟨Ao18, co18, eo18, _⟩ := Kd.Q_slice HO_5.out
        subst eo18
        go_wp2_with (first | ((with_reducible refine gate_callee (f := 43) rfl ?_); refine goesL_ (some 34) rfl rfl Try.func43 (by kernel_rfl) rfl #[.slice Ao17 x8_2.length co17, .slice Ao18 x5_2.length co18] rfl (by (try simp only [List.map_toArray, List.map_cons, List.map_nil]); first | done | rfl | (simp only [List.length_drop, List.length_take]; rfl)) ?_; (with_reducible refine (words_word.calls k2 (fun k_ => ((w.heap.size ≤ k_) ∧ (some k_ ≠ (.slice Ao18 x5_2.length co18 : Value).ownBlock ∧ some k_ ≠ (u7 : Value).ownBlock))) _ _ x8_2 _ _ x5_2 t553 t556 false _ ?side1 ?side2 ?side3 A9.out).mono ?_); (case side1 => exact HO_8.out); (case side2 => repeat (first | exact (Kd.Q_reads' HO_5.out).2.2 | (with_reducible refine Kd.C_alloc ?_ _) | (with_reducible refine Kd.C_drewN ?_ _) | (with_reducible refine Kd.C_drew ?_))); (case side3 => exact (Kd.Q_reads' HO_5.out).2.1); rintro e w19 ⟨v554, v557, rfl, ho0, ho1, hb⟩; refine ⟨_, rfl, ?_⟩; have n0_ := Aside0.mk (Kd.Q_elder' (by (with_reducible repeat (first | apply Kd.Q_alloc | apply Kd.Q_drewN | apply Kd.Q_drew)); exact HO_5.out) (Kd.Q_base ho1) hb); have n1_ := Aside0.mk (Kd.N_elder' (by (with_reducible repeat (first | apply Kd.N_alloc | apply Kd.N_drewN | apply Kd.N_drew)); exact HO_7.out) (Kd.Q_base ho1) hb); have n2_ := Aside0.mk (Kd.V_elder' (by (with_reducible repeat (first | apply Kd.V_alloc | apply Kd.V_drewN | apply Kd.V_drew)); exact HO_8.out) (Kd.Q_base ho1) hb); have n3_ := Aside0.mk (Kd.V_lower (Kd.V_mono (ok' := fun k_ => (w.heap.size ≤ k_) ∧ some k_ ≠ (v557 : Value).ownBlock ∧ some k_ ≠ (.slice Ao18 x5_2.length co18 : Value).ownBlock ∧ some k_ ≠ (u7 : Value).ownBlock) ho0 (fun k_ hk_ => ⟨Or.elim hk_.1 (fun hs_ => hs_.1) (fun hn_ => (Nat.le_trans (below_size (by repeat (first | (with_reducible first | exact HB.out | apply below_alloc | apply pw_below_drewN | apply below_drew1) | exact HB.out))) hn_)), hk_.2, Or.elim hk_.1 (fun hs_ => hs_.2.1) (fun hn_ => (Kd.fresh' (Kd.Q_lt (by (with_reducible repeat (first | apply Kd.Q_alloc | apply Kd.Q_drewN | apply Kd.Q_drew)); exact HO_5.out)) k_ hn_)), Or.elim hk_.1 (fun hs_ => hs_.2.2) (fun hn_ => (Kd.fresh' (Kd.N_lt (by (with_reducible repeat (first | apply Kd.N_alloc | apply Kd.N_drewN | apply Kd.N_drew)); exact HO_7.out)) k_ hn_))⟩)) (below_size (by repeat (first | (with_reducible first | exact HB.out | apply below_alloc | apply pw_below_drewN | apply below_drew1) | exact HB.out)))); have n4_ := Aside0.mk (Kd.Q_lower (Kd.Q_new' (Kd.Q_newM (M := fun k_ => (w.heap.size ≤ k_)) (Kd.Q_mono (ok' := fun k_ => True) ho1 (fun _ hk_ => trivial)) (below_size (by repeat (first | (with_reducible first | exact HB.out | apply below_alloc | apply pw_below_drewN | apply below_drew1) | exact HB.out))) (fun k_ h_ => h_)) (Kd.Q_lt (by (with_reducible repeat (first | apply Kd.Q_alloc | apply Kd.Q_drewN | apply Kd.Q_drew)); exact HO_5.out))) (below_size (by repeat (first | (with_reducible first | exact HB.out | apply below_alloc | apply pw_below_drewN | apply below_drew1) | exact HB.out)))); have n5_ := Aside0.mk (below_step (by repeat (first | (with_reducible first | exact HB.out | apply below_alloc | apply pw_below_drewN | apply below_drew1) | exact HB.out)) hb); clear HO_5; clear HO_7; clear HO_8; clear HB; have HO_5 := n0_; have HO_7 := n1_; have HO_8 := n2_; have HO555 := n3_; have HO558 := n4_; have HB := n5_; clear n0_ n1_ n2_ n3_ n4_ n5_; (try clear hb); (try clear hb2); (try clear hk); (try clear hi); (try clear ho0); (try clear ho1)))
        go_ret2
        exact ⟨_, by first | rfl | (simp [errW_none, errW_some] <;> rfl) | (simp [*, errW_none, errW_some] <;> rfl), by first | exact Kd.S_nil _ _ _ _ _ | exact Kd.N_nil _ _ _ _ _ | exact Kd.V_nil _ _ _ _ _ | exact Kd.Q_nil _ _ _ _ _ | exact Kd.R_nil _ _ _ _ _, by repeat (first | (with_reducible first | exact HB.out | apply below_alloc | apply pw_below_drewN | apply below_drew1) | exact HB.out)⟩
      ·rw [if_neg c8] at H
       have c8b0 : decide (x29_2 < t548) = false := decide_eq_false c8
       clear c8
       by_cases c20 : (x5_2.length : Int) > 0
       ·rw [if_pos c20] at H
        have c20b0 : decide (0 < (x5_2.length : Int)) = true := decide_eq_true c20
        have c20b1 : decide (0 < x5_2.length) = true := decide_eq_true (by omega)
        clear c20
        simp only [Option.some.injEq, Prod.mk.injEq] at H
        obtain ⟨rfl, rfl⟩ := H
        obtain ⟨Ao21, co21, eo21, _⟩ := Kd.Q_slice HO_5.out
        subst eo21
        go_wp2
        go_ret2
        exact ⟨_, by first | rfl | (simp [errW_none, errW_some] <;> rfl) | (simp [*, errW_none, errW_some] <;> rfl), by first | exact Kd.S_nil _ _ _ _ _ | exact Kd.N_nil _ _ _ _ _ | exact Kd.V_nil _ _ _ _ _ | exact Kd.Q_nil _ _ _ _ _ | exact Kd.R_nil _ _ _ _ _, by repeat (first | (with_reducible first | exact HB.out | apply below_alloc | apply pw_below_drewN | apply below_drew1) | exact HB.out)⟩
       ·rw [if_neg c20] at H
        have c20b0 : decide (0 < (x5_2.length : Int)) = false := decide_eq_false c20
        have c20b1 : decide (0 < x5_2.length) = false := decide_eq_false (by omega)
        clear c20
        simp only [Option.some.injEq, Prod.mk.injEq] at H
        obtain ⟨rfl, rfl⟩ := H
        obtain ⟨Ao22, co22, eo22, _⟩ := Kd.Q_slice HO_5.out
        subst eo22
        go_wp2
        go_ret2
        exact ⟨_, by first | rfl | (simp [errW_none, errW_some] <;> rfl) | (simp [*, errW_none, errW_some] <;> rfl), by (with_reducible repeat (first | apply Kd.N_alloc | apply Kd.N_drewN | apply Kd.N_drew)); exact Kd.N_mono HO_7.out (fun _ hk => hk.1), by repeat (first | (with_reducible first | exact HB.out | apply below_alloc | apply pw_below_drewN | apply below_drew1) | exact HB.out)⟩

/-! ### creelref15_Take: function 30 -/
/-- The words that bytes tell, so many of them; none: one is none. -/
def creelref15_Take.l (k : Nat) : Nat → List Int → List Int → List (List Int) → Option (Option (List (List Int)))
 | 0, _, _, acc => some (some acc)
 | m + 1, rest, ahead, acc => (creelref01_Take.f k rest).bind fun t => (creelref01_Take.f k t.2.1).bind fun u =>
  if 0 ≤ t.1 ∧ t.1 < 18446744073709551616 ∧ 0 ≤ u.1 ∧ u.1 < 18446744073709551616 ∧ ahead.length ≤ 1000000 ∧ u.2.1.length ≤ 1000000 then
   (if t.2.2 = 0 ∧ u.2.2 = 0 ∧ t.1 ≤ ahead.length ∧ u.1 ≤ u.2.1.length then creelref15_Take.l k m (u.2.1.drop u.1.toNat) (ahead.take t.1.toNat ++ u.2.1.take u.1.toNat) (acc ++ [ahead.take t.1.toNat ++ u.2.1.take u.1.toNat]) else some none)
  else none
def creelref15_Take.f (k : Nat) (b : List Int) : Option (List (List Int) × Int) := (creelref01_Take.f k b).bind fun t =>
 if 0 ≤ t.1 then
  (if t.2.2 = 0 ∧ t.1 ≤ 16 then (creelref15_Take.l k t.1.toNat t.2.1 [] []).bind fun o => match o with
   | none => some ([], 6)
   | some l => (creelref15_Put.f k l).bind fun p => if p.2 = 0 ∧ (strOfNums p.1).toList = (strOfNums b).toList then some (l, 0) else some ([], 6)
  else some ([], 6))
 else none
theorem creelref15_Take.mono_l (k : Nat) : ∀ (m : Nat) (rest ahead : List Int) (acc : List (List Int)), LeO (creelref15_Take.l k m rest ahead acc) (creelref15_Take.l (k + 1) m rest ahead acc)
 | 0, _, _, _ => LeO.refl _
 | m + 1, rest, ahead, acc => by
  unfold creelref15_Take.l
  refine LeO.trans (LeO.bind (creelref01_Take.mono rest k) (fun t => LeO.refl _)) (LeO.bind (LeO.refl _) (fun t => ?_))
  refine LeO.trans (LeO.bind (creelref01_Take.mono t.2.1 k) (fun u => LeO.refl _)) (LeO.bind (LeO.refl _) (fun u => ?_))
  exact LeO.ite (LeO.ite (creelref15_Take.mono_l k m _ _ _) (LeO.refl _)) (LeO.refl _)
theorem creelref15_Take.mono (b : List Int) (k : Nat) : LeO (creelref15_Take.f k b) (creelref15_Take.f (k + 1) b) := by
 unfold creelref15_Take.f
 refine LeO.trans (LeO.bind (creelref01_Take.mono b k) (fun t => LeO.refl _)) (LeO.bind (LeO.refl _) (fun t => ?_))
 refine LeO.ite (LeO.ite ?_ (LeO.refl _)) (LeO.refl _)
 refine LeO.trans (LeO.bind (creelref15_Take.mono_l k _ _ _ _) (fun o => LeO.refl _)) (LeO.bind (LeO.refl _) (fun o => ?_))
 cases o with
 | none => exact LeO.refl _
 | some l => exact LeO.bind (creelref15_Put.mono l k) (fun p => LeO.refl _)
set_option maxHeartbeats 8000000 in
set_option maxRecDepth 100000 in
theorem creelref15_Take.calls (k : Nat) (A0 : Option Addr) (c0 : Nat) (l0 : List Int) (r1 : List (List Int)) (r2 : Int) (w : World) (hr0 : Kd.C (Kd.int .u8) w A0 l0.length l0) (hc0 : l0.length ≤ c0) (h : creelref15_Take.f k l0 = some (r1, r2)) :
  Calls Try.prog 30 #[.slice A0 l0.length c0] w fun e w' => ∃ v0_ : Value, e = .returned (.tuple #[v0_, .int .i64 r2]) ∧ Kd.N (Kd.slice 5 (Kd.int .u8)) 27 w' w.heap.size (fun k_ => (w.heap.size ≤ k_)) v0_ r1 ∧ Below w.heap.size w w' := by
 have HR0 := Aside0.mk hr0
 have HC0 := Aside0.mk hc0
 clear hr0 hc0
 unfold creelref15_Take.f at h
 obtain ⟨⟨n0, x0, e0⟩, ht, h⟩ := Option.bind_eq_some_iff.mp h
 have HT := Aside0.mk ht
 clear ht
 simp only at h
 by_cases hn : 0 ≤ n0
 ·rw [if_pos hn] at h
  by_cases hok : e0 = 0 ∧ n0 ≤ 16
  ·rw [if_pos hok] at h
   obtain ⟨rfl, hn16⟩ := hok
   obtain ⟨M, rfl⟩ := Int.eq_ofNat_of_zero_le hn
   obtain ⟨o, ho, he⟩ := Option.bind_eq_some_iff.mp h
   simp only [Int.toNat_natCast] at ho
   have HL := Aside0.mk ho
   have HE := Aside0.mk he
   clear ho he h
   go_enter Try.func30, Try.ntmps30
   go_wp2_with (first | (go_at_call 38; (with_reducible refine (creelref01_Take.calls k _ _ l0 _ _ _ _ HR0.out HC0.out HT.out).mono ?_); rintro e w1 ⟨v1, rfl, ho, hb⟩; obtain ⟨Ax, cx, rfl⟩ := Kd.R_slice ho; have HX := Aside0.mk (Kd.R_mono (Kd.R_bound ho) (fun k_ hk => hk.2.1)); have HB := Aside0.mk hb; clear ho hb))
   go_loopw [5, 7, 8, 9] (fun v5 v7 v8 v9 wr => ∃ (i : Nat) (rest ahead : List Int) (acc : List (List Int)), i ≤ M ∧ acc.length ≤ i ∧ v9 = .int .i64 i ∧ Aside0 (creelref15_Take.l k (M - i) rest ahead acc = some o) ∧ Aside0 (Kd.V (Kd.int .u8) 5 wr w.heap.size (fun k_ => w.heap.size ≤ k_ ∧ some k_ ≠ v7.ownBlock) v5 rest) ∧ Aside0 (Kd.N (Kd.slice 5 (Kd.int .u8)) 27 wr w.heap.size (fun k_ => w.heap.size ≤ k_) v7 acc) ∧ Aside0 (Kd.V (Kd.int .u8) 5 wr w.heap.size (fun k_ => w.heap.size ≤ k_ ∧ some k_ ≠ v7.ownBlock) v8 ahead) ∧ Aside0 (Below w.heap.size w wr)) (fun _ _ _ v9 _ => M - (intOf v9).toNat)
   case atStart => exact ⟨0, x0, [], [], Nat.zero_le _, Nat.le_refl _, rfl, HL, ⟨Kd.V_mono (Kd.R_V HX.out) (fun k_ hk => ⟨hk, by simp [Value.ownBlock]⟩)⟩, ⟨Kd.N_nil _ _ _ _ _⟩, ⟨Kd.V_nil _ _ _ _ _⟩, HB⟩
   case round =>
    clear HL HX HB
    obtain ⟨i, rest, ahead, acc, hi, hal, rfl, HL, HX, HN, HV, HB⟩ := hrel
    obtain ⟨A5, c5, rfl⟩ := Kd.V_slice HX.out
    obtain ⟨A8, c8, rfl⟩ := Kd.V_slice HV.out
    by_cases hlt : i < M
    ·have hl := HL.out
     clear HL
     rw [show M - i = (M - (i + 1)) + 1 by omega] at hl
     unfold creelref15_Take.l at hl
     obtain ⟨⟨n1, x, e1⟩, ht, hl'⟩ := Option.bind_eq_some_iff.mp hl
     clear hl
     obtain ⟨⟨n2, y, e2⟩, hu, hl⟩ := Option.bind_eq_some_iff.mp hl'
     clear hl'
     simp only at hl hu
     have HT1 := Aside0.mk ht
     have HT2 := Aside0.mk hu
     clear ht hu
     by_cases hb : 0 ≤ n1 ∧ n1 < 18446744073709551616 ∧ 0 ≤ n2 ∧ n2 < 18446744073709551616 ∧ ahead.length ≤ 1000000 ∧ y.length ≤ 1000000
     ·rw [if_pos hb] at hl
      obtain ⟨h1, h2, h3, h4, h5, h6⟩ := hb
      obtain ⟨m1, rfl⟩ := Int.eq_ofNat_of_zero_le h1
      obtain ⟨m2, rfl⟩ := Int.eq_ofNat_of_zero_le h3
      by_cases hok : e1 = 0 ∧ e2 = 0 ∧ (m1 : Int) ≤ ahead.length ∧ (m2 : Int) ≤ y.length
      ·rw [if_pos hok] at hl
       obtain ⟨rfl, rfl, c3, c4⟩ := hok
       simp only [Int.toNat_natCast] at hl
       have d3 : decide (ahead.length < m1) = false := decide_eq_false (by omega)
       have d4 : decide (y.length < m2) = false := decide_eq_false (by omega)
       go_upto_region 13 with (first | (go_at_call 38; (with_reducible refine (creelref01_Take.calls k _ _ rest _ _ _ _ (Kd.V_reads' HX.out).2.2 (Kd.V_reads' HX.out).2.1 HT1.out).mono ?_); rintro e w1 ⟨v1, rfl, ho, hb⟩; obtain ⟨Ax, cx, rfl⟩ := Kd.R_slice ho; have HX1 := Aside0.mk (Kd.V_mono (Kd.R_V (base' := w.heap.size) ho) (fun _ _ => trivial)); have HXb := Aside0.mk (Kd.R_bound ho); have HN1 := Aside0.mk (Kd.N_below HN.out hb); have HV1 := Aside0.mk (Kd.V_below HV.out hb); have HB1 := Aside0.mk (below_step HB.out hb); have HS1 := Aside0.mk hb.size; have HZ0 := Aside0.mk (Nat.le_trans HB.out.size hb.size); clear ho hb HB HN HV HX) | (go_at_call 38; (with_reducible refine (creelref01_Take.calls k _ _ x _ _ _ _ (Kd.R_reads' HXb.out).2.2 (Kd.R_reads' HXb.out).2.1 HT2.out).mono ?_); rintro e w2 ⟨v2, rfl, ho, hb⟩; obtain ⟨Ay, cy, rfl⟩ := Kd.R_slice ho; have HY := Aside0.mk (Kd.R_mono (Kd.R_bound ho) (fun k_ hk => hk.2.1)); have HN := Aside0.mk (Kd.N_below HN1.out hb); have HV := Aside0.mk (Kd.V_below HV1.out hb); have HB := Aside0.mk (below_step HB1.out hb); have HS2 := Aside0.mk hb.size; have HL7 := Aside0.mk (Kd.N_lt HN1.out); clear ho hb HB1 HN1 HV1 HX1 HXb))
       have hl1 : (ahead.take m1).length ≤ 1000000 := by rw [List.length_take]; omega
       have hl2 : (y.take m2).length ≤ 1000000 := by rw [List.length_take]; omega
       obtain ⟨n3, hn3, hnc3, hcut3, hFt⟩ := Hand.cut_take (P := Try.prog) 27 .u64 Try.underlying27 (by kernel_rfl) (Kd.V_F HV.out) (Kd.V_reads' HV.out).2.1 m1 (by omega)
       obtain ⟨n4, hn4, hnc4, hcut4, hFy⟩ := Hand.cut_take (P := Try.prog) 27 .u64 Try.underlying27 (by kernel_rfl) (Kd.R_F HY.out) (Kd.R_reads' HY.out).2.1 m2 (by omega)
       obtain ⟨A6, n6, c6, hn6, hnc6, hcut6, hFr⟩ := Hand.cut_drop (P := Try.prog) 27 .u64 Try.underlying27 (by kernel_rfl) (Kd.R_F HY.out) (Kd.R_reads' HY.out).2.1 m2 (by omega)
       generalize ahead.take m1 = p1 at *
       generalize y.take m2 = p2 at *
       generalize y.drop m2 = p3 at *
       subst hn3
       subst hn4
       subst hn6
       obtain ⟨wd, hwd⟩ : ∃ wd_, p1 ++ p2 = wd_ := ⟨_, rfl⟩
       rw [hwd] at hl
       have HWD := Aside0.mk hwd
       have HL := Aside0.mk hl
       have HFt := Aside0.mk hFt
       have HFy := Aside0.mk hFy
       have HFr := Aside0.mk hFr
       clear hwd hl hFt hFy hFr
       go_region_held3 (fun _ => True) (trivial) (first | (refine Hand.R_row_step .u8 (w0 := w2) w2.heap.size (by rfl) (.tmp 69) (.tmp 72) 27 5 (.int .u8 0) 1 (by rfl) Try.underlying27 info5 rfl (by decide) (.slice (some ⟨_, 0, none⟩) 0 0) [] p1 _ p1.length _ (fun k_ => w2.heap.size ≤ k_) (by rfl) (by rfl) (Hand.R_lit0 _ _ _ (by simp) (Nat.le_refl _) (Nat.le_refl _)) (by repeat (first | exact Kd.F_now HFt.out | apply Kd.C_drew | refine Kd.C_alloc ?_ _)) (fun k_ hk => by (try simp at hk); omega) (by repeat (first | exact Below.refl _ _ | apply below_drew1 | refine Below.alloc ?_ (by simp) _)) (by simp) (by simp; omega) ?_; intro v3 w3 ho hb hg hat; rw [List.nil_append] at ho; have HO3 := Aside0.mk ho; have HB3 := Aside0.mk hb; clear ho hb hg hat) | (refine Hand.R_row_step .u8 (w0 := w2) w2.heap.size (by rfl) (.tmp 73) (.tmp 76) 27 5 (.int .u8 0) 1 (by rfl) Try.underlying27 info5 rfl (by decide) v3 p1 p2 _ p2.length _ (fun k_ => w2.heap.size ≤ k_) (by rfl) (by rfl) HO3.out (Kd.F_now (Kd.F_below HFy.out HB3.out)) (fun k_ hk => Nat.le_trans HB3.out.size hk) HB3.out HB3.out.size (by omega) ?_; intro v4 w4 ho hb hg hat; rw [HWD.out] at ho; obtain ⟨Aw, cw, rfl⟩ := Kd.R_slice ho; have HO4 := Aside0.mk ho; have HB4 := Aside0.mk hb; clear ho hb hg hat HO3 HB3))
       have hbn : Below w.heap.size w w4 := below_step HB.out HB4.out
       have HN4 := Aside0.mk (Kd.N_below HN.out HB4.out)
       have HFr4 := Aside0.mk (Kd.F_bound (Kd.F_below HFr.out HB4.out))
       have HBN := Aside0.mk hbn
       have hz1 := HB.out.size
       have hz2 := HB4.out.size
       have hz3 := HS1.out
       have hz4 := HS2.out
       have HZ : Aside0 (w.heap.size ≤ w2.heap.size ∧ w2.heap.size ≤ w4.heap.size ∧ w.heap.size ≤ w1.heap.size ∧ w1.heap.size ≤ w2.heap.size) := ⟨⟨hz1, hz2, HZ0.out, hz4⟩⟩
       clear hbn hz1 hz2 hz3 hz4
       obtain ⟨Hw0, Hw1, Hw2, Hw3⟩ := HZ.out
       have HZ1 := Aside0.mk Hw0
       have HZ2 := Aside0.mk Hw1
       have HZ4 := Aside0.mk Hw3
       clear Hw0 Hw1 Hw2 Hw3
       have hlen : (acc.length + 1) * 24 ≤ 140737488355328 := by omega
       have HLEN := Aside0.mk hlen
       clear hlen
       have HWB := Aside0.mk (fun k_ (hk : some k_ = (Value.slice Aw wd.length cw).ownBlock) => Kd.R_base HO4.out k_ hk.symm)
       have HNL := Aside0.mk (Kd.N_lt HN.out)
       go_wp2_with (first | ((with_reducible refine gate_dst (N := 81) rfl ?_); refine Kd.N_append (Kd.slice 5 (Kd.int .u8)) (w0 := w) w.heap.size rfl (.tmp 78) (.tmp 80) 39 27 (.slice none 0 0) 24 rfl Try.underlying39 info27 rfl (by decide) (by decide) u7 acc wd [.slice Aw wd.length cw] (fun k_ => w.heap.size ≤ k_) (fun k_ => some k_ = (Value.slice Aw wd.length cw).ownBlock) rfl rfl (Kd.FK_slice_mk (Kd.R_reads' HO4.out).2.1 (Kd.R_F (Hand.R_own HO4.out))) (fun k_ hk => ⟨Nat.le_trans HZ1.out (HWB.out k_ hk), fun e_ => by have h1 := HWB.out k_ hk; have h2 := HNL.out k_ e_.symm; omega⟩) (fun k_ hk => Nat.le_trans HBN.out.size hk) HN4.out HBN.out HBN.out.size HLEN.out ?_; intro v8 w8 ho hb hg hat; have HO8 := Aside0.mk ho; have HB8 := Aside0.mk hb; have HG8 := Aside0.mk hg; have HA8 := Aside0.mk hat; clear ho hb hg hat))
       have hne : ∀ k_, w2.heap.size ≤ k_ → some k_ ≠ u7.ownBlock := fun k_ hk e_ => by have := HNL.out k_ e_.symm; omega
       have hne1 : ∀ k_, w1.heap.size ≤ k_ → some k_ ≠ u7.ownBlock := fun k_ hk e_ => by have := HL7.out k_ e_.symm; omega
       have hne8 : ∀ k_, k_ < w4.heap.size → some k_ ≠ u7.ownBlock → some k_ ≠ v8.ownBlock := fun k_ hk hn e_ => by
        rcases HA8.out with h_ | ⟨b_, h_, hb_⟩
        ·exact hn (e_.trans h_)
        ·have h2 := e_.trans h_
         injection h2 with h2
         omega
       have hz1 := HZ1.out
       have hz2 := HZ2.out
       have hz4 := HZ4.out
       have hz0 := HZ0.out
       go_roundw
       case rel => exact ⟨i + 1, p3, wd, acc ++ [wd], by omega, by simp; omega, by go_num, HL, ⟨Kd.V_mk hnc6 (Kd.F_mono (Kd.F_grown HFr4.out HG8.out (fun k_ hk => hne1 k_ hk.1)) (fun k_ hk => ⟨by have := hk.1; omega, hne8 k_ hk.2 (hne1 k_ hk.1)⟩))⟩, HO8, ⟨Kd.V_mk (Kd.R_reads' HO4.out).2.1 (Kd.F_mono (Kd.F_grown (Kd.F_bound (Kd.R_F (Hand.R_own HO4.out))) HG8.out (fun k_ hk => hne k_ (HWB.out k_ hk.1))) (fun k_ hk => ⟨Nat.le_trans hz1 (HWB.out k_ hk.1), hne8 k_ hk.2 (hne k_ (HWB.out k_ hk.1))⟩))⟩, HB8⟩
       case measure => simp [intOf]; omega
      ·rw [if_neg hok] at hl
       obtain rfl := Option.some.inj hl
       have he : some (([] : List (List Int)), (6 : Int)) = some (r1, r2) := HE.out
       clear HE hl
       simp only [Option.some.injEq, Prod.mk.injEq] at he
       obtain ⟨rfl, rfl⟩ := he
       by_cases c1 : e1 = 0
       ·subst c1
        by_cases c2 : e2 = 0
        ·subst c2
         by_cases c3 : m1 ≤ ahead.length
         ·have c4 : ¬ m2 ≤ y.length := fun c4 => hok ⟨rfl, rfl, by omega, by omega⟩
          have d3 : decide (ahead.length < m1) = false := decide_eq_false (by omega)
          have d4 : decide (y.length < m2) = true := decide_eq_true (by omega)
          go_wp2_with (first | (go_at_call 38; (with_reducible refine (creelref01_Take.calls k _ _ rest _ _ _ _ (Kd.V_reads' HX.out).2.2 (Kd.V_reads' HX.out).2.1 HT1.out).mono ?_); rintro e w1 ⟨v1, rfl, ho, hb⟩; obtain ⟨Ax, cx, rfl⟩ := Kd.R_slice ho; have HX1 := Aside0.mk (Kd.V_mono (Kd.R_V (base' := w.heap.size) ho) (fun _ _ => trivial)); have HXb := Aside0.mk (Kd.R_bound ho); have HN1 := Aside0.mk (Kd.N_below HN.out hb); have HV1 := Aside0.mk (Kd.V_below HV.out hb); have HB1 := Aside0.mk (below_step HB.out hb); have HS1 := Aside0.mk hb.size; have HZ0 := Aside0.mk (Nat.le_trans HB.out.size hb.size); clear ho hb HB HN HV HX) | (go_at_call 38; (with_reducible refine (creelref01_Take.calls k _ _ x _ _ _ _ (Kd.R_reads' HXb.out).2.2 (Kd.R_reads' HXb.out).2.1 HT2.out).mono ?_); rintro e w2 ⟨v2, rfl, ho, hb⟩; obtain ⟨Ay, cy, rfl⟩ := Kd.R_slice ho; have HY := Aside0.mk (Kd.R_mono (Kd.R_bound ho) (fun k_ hk => hk.2.1)); have HN := Aside0.mk (Kd.N_below HN1.out hb); have HV := Aside0.mk (Kd.V_below HV1.out hb); have HB := Aside0.mk (below_step HB1.out hb); have HS2 := Aside0.mk hb.size; have HL7 := Aside0.mk (Kd.N_lt HN1.out); clear ho hb HB1 HN1 HV1 HX1 HXb))
          go_ret2
          exact ⟨_, rfl, Kd.N_nil _ _ _ _ _, HB.out⟩
         ·have d3 : decide (ahead.length < m1) = true := decide_eq_true (by omega)
          go_wp2_with (first | (go_at_call 38; (with_reducible refine (creelref01_Take.calls k _ _ rest _ _ _ _ (Kd.V_reads' HX.out).2.2 (Kd.V_reads' HX.out).2.1 HT1.out).mono ?_); rintro e w1 ⟨v1, rfl, ho, hb⟩; obtain ⟨Ax, cx, rfl⟩ := Kd.R_slice ho; have HX1 := Aside0.mk (Kd.V_mono (Kd.R_V (base' := w.heap.size) ho) (fun _ _ => trivial)); have HXb := Aside0.mk (Kd.R_bound ho); have HN1 := Aside0.mk (Kd.N_below HN.out hb); have HV1 := Aside0.mk (Kd.V_below HV.out hb); have HB1 := Aside0.mk (below_step HB.out hb); have HS1 := Aside0.mk hb.size; have HZ0 := Aside0.mk (Nat.le_trans HB.out.size hb.size); clear ho hb HB HN HV HX) | (go_at_call 38; (with_reducible refine (creelref01_Take.calls k _ _ x _ _ _ _ (Kd.R_reads' HXb.out).2.2 (Kd.R_reads' HXb.out).2.1 HT2.out).mono ?_); rintro e w2 ⟨v2, rfl, ho, hb⟩; obtain ⟨Ay, cy, rfl⟩ := Kd.R_slice ho; have HY := Aside0.mk (Kd.R_mono (Kd.R_bound ho) (fun k_ hk => hk.2.1)); have HN := Aside0.mk (Kd.N_below HN1.out hb); have HV := Aside0.mk (Kd.V_below HV1.out hb); have HB := Aside0.mk (below_step HB1.out hb); have HS2 := Aside0.mk hb.size; have HL7 := Aside0.mk (Kd.N_lt HN1.out); clear ho hb HB1 HN1 HV1 HX1 HXb))
          go_ret2
          exact ⟨_, rfl, Kd.N_nil _ _ _ _ _, HB.out⟩
        ·have d2 : (e2 != 0) = true := bne_iff_ne.mpr c2
         go_wp2_with (first | (go_at_call 38; (with_reducible refine (creelref01_Take.calls k _ _ rest _ _ _ _ (Kd.V_reads' HX.out).2.2 (Kd.V_reads' HX.out).2.1 HT1.out).mono ?_); rintro e w1 ⟨v1, rfl, ho, hb⟩; obtain ⟨Ax, cx, rfl⟩ := Kd.R_slice ho; have HX1 := Aside0.mk (Kd.V_mono (Kd.R_V (base' := w.heap.size) ho) (fun _ _ => trivial)); have HXb := Aside0.mk (Kd.R_bound ho); have HN1 := Aside0.mk (Kd.N_below HN.out hb); have HV1 := Aside0.mk (Kd.V_below HV.out hb); have HB1 := Aside0.mk (below_step HB.out hb); have HS1 := Aside0.mk hb.size; have HZ0 := Aside0.mk (Nat.le_trans HB.out.size hb.size); clear ho hb HB HN HV HX) | (go_at_call 38; (with_reducible refine (creelref01_Take.calls k _ _ x _ _ _ _ (Kd.R_reads' HXb.out).2.2 (Kd.R_reads' HXb.out).2.1 HT2.out).mono ?_); rintro e w2 ⟨v2, rfl, ho, hb⟩; obtain ⟨Ay, cy, rfl⟩ := Kd.R_slice ho; have HY := Aside0.mk (Kd.R_mono (Kd.R_bound ho) (fun k_ hk => hk.2.1)); have HN := Aside0.mk (Kd.N_below HN1.out hb); have HV := Aside0.mk (Kd.V_below HV1.out hb); have HB := Aside0.mk (below_step HB1.out hb); have HS2 := Aside0.mk hb.size; have HL7 := Aside0.mk (Kd.N_lt HN1.out); clear ho hb HB1 HN1 HV1 HX1 HXb))
         go_ret2
         exact ⟨_, rfl, Kd.N_nil _ _ _ _ _, HB.out⟩
       ·have d1 : (e1 != 0) = true := bne_iff_ne.mpr c1
        go_wp2_with (first | (go_at_call 38; (with_reducible refine (creelref01_Take.calls k _ _ rest _ _ _ _ (Kd.V_reads' HX.out).2.2 (Kd.V_reads' HX.out).2.1 HT1.out).mono ?_); rintro e w1 ⟨v1, rfl, ho, hb⟩; obtain ⟨Ax, cx, rfl⟩ := Kd.R_slice ho; have HX1 := Aside0.mk (Kd.V_mono (Kd.R_V (base' := w.heap.size) ho) (fun _ _ => trivial)); have HXb := Aside0.mk (Kd.R_bound ho); have HN1 := Aside0.mk (Kd.N_below HN.out hb); have HV1 := Aside0.mk (Kd.V_below HV.out hb); have HB1 := Aside0.mk (below_step HB.out hb); have HS1 := Aside0.mk hb.size; have HZ0 := Aside0.mk (Nat.le_trans HB.out.size hb.size); clear ho hb HB HN HV HX) | (go_at_call 38; (with_reducible refine (creelref01_Take.calls k _ _ x _ _ _ _ (Kd.R_reads' HXb.out).2.2 (Kd.R_reads' HXb.out).2.1 HT2.out).mono ?_); rintro e w2 ⟨v2, rfl, ho, hb⟩; obtain ⟨Ay, cy, rfl⟩ := Kd.R_slice ho; have HY := Aside0.mk (Kd.R_mono (Kd.R_bound ho) (fun k_ hk => hk.2.1)); have HN := Aside0.mk (Kd.N_below HN1.out hb); have HV := Aside0.mk (Kd.V_below HV1.out hb); have HB := Aside0.mk (below_step HB1.out hb); have HS2 := Aside0.mk hb.size; have HL7 := Aside0.mk (Kd.N_lt HN1.out); clear ho hb HB1 HN1 HV1 HX1 HXb))
        go_ret2
        exact ⟨_, rfl, Kd.N_nil _ _ _ _ _, HB.out⟩
     ·rw [if_neg hb] at hl
      exact absurd hl (by simp)
    ·obtain rfl : i = M := by omega
     have hl := HL.out
     clear HL
     rw [Nat.sub_self] at hl
     unfold creelref15_Take.l at hl
     obtain rfl := Option.some.inj hl
     obtain ⟨⟨p, pe⟩, hp, he⟩ := Option.bind_eq_some_iff.mp HE.out
     have HP := Aside0.mk hp
     clear HE hl hp
     obtain ⟨A7, c7, rfl⟩ := Kd.N_slice HN.out
     have HS0 := fun (W : World) (hW : Below w.heap.size w W) => Kd.C_string (P := Try.prog) (A := A0) (c := c0) Try.underlying27 Try.underlying5 Try.underlying9 (Kd.C_below HR0.out hW)
     have HSH := Aside0.mk HS0
     clear HS0
     simp only at he
     by_cases hok : pe = 0 ∧ (strOfNums p).toList = (strOfNums l0).toList
     ·rw [if_pos hok] at he
      obtain ⟨rfl, hq⟩ := hok
      simp only [Option.some.injEq, Prod.mk.injEq] at he
      obtain ⟨rfl, rfl⟩ := he
      have d1 : ((strOfNums p).toList == (strOfNums l0).toList) = true := beq_iff_eq.mpr hq
      clear hq
      go_wp2_with (first | (go_at_call 24; (with_reducible refine (creelref15_Put.calls k (fun k_ => w.heap.size ≤ k_) _ _ acc _ _ _ (Kd.N_V HN.out) HP.out).mono ?_); rintro e w1 ⟨v1, rfl, ho, hb⟩; obtain ⟨Ap, cp, rfl⟩ := Kd.R_slice ho; have HN2 := Aside0.mk (Kd.N_below HN.out hb); have HB2 := Aside0.mk (below_step HB.out hb); have hs1 := Kd.C_string (P := Try.prog) (A := Ap) (c := cp) Try.underlying27 Try.underlying5 Try.underlying9 (Kd.R_reads' ho).2.2; have hs2 := HSH.out _ HB2.out; clear ho hb))
      go_ret2
      exact ⟨_, rfl, HN2.out, HB2.out⟩
     ·rw [if_neg hok] at he
      simp only [Option.some.injEq, Prod.mk.injEq] at he
      obtain ⟨rfl, rfl⟩ := he
      by_cases c1 : pe = 0
      ·subst c1
       have d1 : ((strOfNums p).toList == (strOfNums l0).toList) = false := beq_eq_false_iff_ne.mpr (fun hq => hok ⟨rfl, hq⟩)
       go_wp2_with (first | (go_at_call 24; (with_reducible refine (creelref15_Put.calls k (fun k_ => w.heap.size ≤ k_) _ _ acc _ _ _ (Kd.N_V HN.out) HP.out).mono ?_); rintro e w1 ⟨v1, rfl, ho, hb⟩; obtain ⟨Ap, cp, rfl⟩ := Kd.R_slice ho; have HN2 := Aside0.mk (Kd.N_below HN.out hb); have HB2 := Aside0.mk (below_step HB.out hb); have hs1 := Kd.C_string (P := Try.prog) (A := Ap) (c := cp) Try.underlying27 Try.underlying5 Try.underlying9 (Kd.R_reads' ho).2.2; have hs2 := HSH.out _ HB2.out; clear ho hb))
       go_ret2
       exact ⟨_, rfl, Kd.N_nil _ _ _ _ _, HB2.out⟩
      ·have d1 : (pe != 0) = true := bne_iff_ne.mpr c1
       go_wp2_with (first | (go_at_call 24; (with_reducible refine (creelref15_Put.calls k (fun k_ => w.heap.size ≤ k_) _ _ acc _ _ _ (Kd.N_V HN.out) HP.out).mono ?_); rintro e w1 ⟨v1, rfl, ho, hb⟩; obtain ⟨Ap, cp, rfl⟩ := Kd.R_slice ho; have HN2 := Aside0.mk (Kd.N_below HN.out hb); have HB2 := Aside0.mk (below_step HB.out hb); have hs1 := Kd.C_string (P := Try.prog) (A := Ap) (c := cp) Try.underlying27 Try.underlying5 Try.underlying9 (Kd.R_reads' ho).2.2; have hs2 := HSH.out _ HB2.out; clear ho hb))
       go_ret2
       exact ⟨_, rfl, Kd.N_nil _ _ _ _ _, HB2.out⟩
  ·rw [if_neg hok] at h
   simp only [Option.some.injEq, Prod.mk.injEq] at h
   obtain ⟨rfl, rfl⟩ := h
   obtain ⟨M, rfl⟩ := Int.eq_ofNat_of_zero_le hn
   by_cases c1 : e0 = 0
   ·subst c1
    have d2 : decide ((16 : Int) < (M : Int)) = true := decide_eq_true (by have : ¬ (M : Int) ≤ 16 := fun h_ => hok ⟨rfl, h_⟩; omega)
    have d3 : decide (16 < M) = true := decide_eq_true (by have : ¬ (M : Int) ≤ 16 := fun h_ => hok ⟨rfl, h_⟩; omega)
    go_enter Try.func30, Try.ntmps30
    go_wp2_with (first | (go_at_call 38; (with_reducible refine (creelref01_Take.calls k _ _ l0 _ _ _ _ HR0.out HC0.out HT.out).mono ?_); rintro e w1 ⟨v1, rfl, ho, hb⟩; obtain ⟨Ax, cx, rfl⟩ := Kd.R_slice ho; have HX := Aside0.mk (Kd.R_mono (Kd.R_bound ho) (fun k_ hk => hk.2.1)); have HB := Aside0.mk hb; clear ho hb))
    go_ret2
    exact ⟨_, rfl, Kd.N_nil _ _ _ _ _, HB.out⟩
   ·have d1 : (e0 != 0) = true := bne_iff_ne.mpr c1
    go_enter Try.func30, Try.ntmps30
    go_wp2_with (first | (go_at_call 38; (with_reducible refine (creelref01_Take.calls k _ _ l0 _ _ _ _ HR0.out HC0.out HT.out).mono ?_); rintro e w1 ⟨v1, rfl, ho, hb⟩; obtain ⟨Ax, cx, rfl⟩ := Kd.R_slice ho; have HX := Aside0.mk (Kd.R_mono (Kd.R_bound ho) (fun k_ hk => hk.2.1)); have HB := Aside0.mk hb; clear ho hb))
    go_ret2
    exact ⟨_, rfl, Kd.N_nil _ _ _ _ _, HB.out⟩
 ·rw [if_neg hn] at h
  exact absurd h (by simp)

end Go.Proofs.Ytgpacbklpmloaaa.Print
