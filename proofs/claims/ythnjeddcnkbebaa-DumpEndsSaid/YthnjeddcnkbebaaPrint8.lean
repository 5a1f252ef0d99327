-- Written by a program of this session (wip/cprint.py), which calls the kit's print and adds contracts proved by hand.
import Derived.Test.YthnjeddcnkbebaaPrint0
import Derived.Test.YthnjeddcnkbebaaPrint2
import Derived.Test.YthnjeddcnkbebaaPrint3
import Derived.Test.YthnjeddcnkbebaaPrint5
namespace Go.Proofs.Ythnjeddcnkbebaa.Print
open Go.RowKit Go.Proofs.YthnjeddcnkbebaaW.PrintWords Go.Proofs.YthnjeddcnkbebaaW.PrintLast Go.Proofs.YthnjeddcnkbebaaW.PrintMore
attribute [local go_sem] max2_int min2_int max_two min_two max_three min_three max_four min_four   -- for this text's walks alone
set_option linter.unusedVariables false
set_option linter.unusedSimpArgs false

-- NOT PRINTED: function 4 (creellaw10_DumpBack)

/-! ### creellaw10_DumpEnds: function 5 -/
/-- Between two items: what came stands in the box that was made just ahead. -/
def InvE (A : World) (nb : Nat) (pre : List (List Value × S36)) (B : World) : Prop :=
  Below A.heap.size A B ∧ ∃ v, B.heap[A.heap.size]? = some (.cells #[v] 24) ∧ Kd.N k36 36 B (A.heap.size + 3) (fun k => A.heap.size + 3 + nb ≤ k) v (pre.map (·.2))
theorem InvE.keep {A : World} {nb : Nat} {pre : List (List Value × S36)} {B C : World} (h : InvE A nb pre B) (hs : B.heap.size ≤ C.heap.size) (hk : ∀ k, k < B.heap.size → (k < A.heap.size + 1 ∨ A.heap.size + 3 + nb ≤ k) → C.heap[k]? = B.heap[k]?)
    (ho : C.os = B.os) (ht : C.tape = B.tape) (hu : C.output = B.output) : InvE A nb pre C := by
  obtain ⟨hB, v, h3, hN⟩ := h
  have lt : ∀ {k : Nat} {o : Obj}, B.heap[k]? = some o → k < B.heap.size := fun h => (Array.getElem?_eq_some_iff.1 h).1
  have hsz := hB.size
  exact ⟨⟨ho.trans hB.os, ht.trans hB.tape, hu.trans hB.output, Nat.le_trans hB.size hs, fun k hlt => (hk k (by omega) (.inl (by omega))).trans (hB.block k hlt)⟩,
    v, (hk _ (lt h3) (.inl (by omega))).trans h3, Kd.N_step hN (fun k hk' hlt => hk k hlt (.inr hk'))⟩
def mkD (D : Nat) : Deferred := { target := .collected D, args := #[] }
def creellaw10_DumpEnds.Pure : Prop := ∀ (l0 : List Int) (a1 : Int), l0.length ≤ maxLen → l0.length * 1 ≤ 140737488351232 → (∀ x ∈ l0, (Lit.int .u8 x).wf = true) → (Lit.int .u8 a1).wf = true → ∃ (k n : Nat) (b : List Int), a1 = n ∧ n < 256 ∧ b.length ≤ 1000 ∧ creellaw10_few.f l0 = some b ∧ creellaw10_shown.f k = some true ∧ creelref08_SameAll.f k ((Hand.itemsR S36.mk b).take (n + 1)) ((Hand.itemsR S36.mk b).take (n + 1)) = some true
attribute [local go_sem] Oper.semAt_some in
set_option maxHeartbeats 8000000 in
set_option maxRecDepth 100000 in
theorem creellaw10_DumpEnds.calls (A0 : Option Addr) (c0 : Nat) (l0 : List Int) (a1 : Nat) (w : World) (hr0 : Kd.C (Kd.int .u8) w A0 l0.length l0) (hc0 : l0.length ≤ c0) (ha1 : a1 < 256) (k : Nat) (b : List Int) (hbl : b.length ≤ 1000) (hb : creellaw10_few.f l0 = some b) (items : List S36) (hi : Hand.itemsR S36.mk b = items) (hs : creellaw10_shown.f k = some true) (hsame : creelref08_SameAll.f k (items.take (a1 + 1)) (items.take (a1 + 1)) = some true) :
    Calls Try.prog 5 #[.slice A0 l0.length c0, .int .u8 a1] w fun e w' => e = .returned (.bool true) ∧ Below w.heap.size w w' := by
  have hli : creellaw10_list.f b = some (items, true) := by unfold creellaw10_list.f; rw [if_pos (by omega), hi]
  have hil : items.length ≤ 1001 := by rw [← hi]; have := creellaw10_list.itemsR_len b; omega
  have HF0 := Aside0.mk (Kd.C_F (Kd.heap_int .u8) hr0)
  have HC0 := Aside0.mk hc0
  have HI := Aside0.mk hi
  have HSM := Aside0.mk hsame
  clear hr0 hc0 hi hsame
  refine (callsIn_wide (n := 10)).1 ?_
  refine callsIn_of_wp_marks Try.func5 rfl trivial ?_ rfl
  simp only [Try.ntmps5, List.size_toArray, List.length_cons, List.length_nil, Nat.reduceAdd, Nat.reduceSub, Array.replicate_succ, Array.replicate_zero, List.push_toArray, List.append_toArray, List.nil_append, List.cons_append]
  have HB1 : Aside0 (Below w.heap.size w (w.alloc (.cells #[.int .u8 a1] 5))) := ⟨(Below.refl _ _).alloc (Nat.le_refl _) _⟩
  gi_wp2_with fail
  refine ⟨trivial, ?_⟩
  refine (callsIn_wide.2 (creellaw10_shown.calls k true _ hs)).mono ?_
  rintro e wa ⟨rfl, hb1⟩
  have HB2 := Aside0.mk (below_step HB1.out hb1)
  have hn1 : wa.heap[w.heap.size]? = some (.cells #[.int .u8 a1] 5) := (hb1.block _ (by simp)).trans (heap_alloc_new _ _)
  gi_wp2_with fail
  refine ⟨trivial, ?_⟩
  refine (callsIn_wide.2 (creellaw10_few.calls (fun k_ => k_ < w.heap.size) _ _ l0 b _ (Kd.V_mk HC0.out (Kd.F_below HF0.out HB2.out)) hb)).mono ?_
  rintro e wb ⟨v, rfl, ho, hb2⟩
  obtain ⟨Ab, cb, rfl⟩ := Kd.V_slice ho
  have HO1 := Aside0.mk ho
  have HB3 := Aside0.mk (below_step HB2.out hb2)
  have hn2 := (hb2.block _ (Array.getElem?_eq_some_iff.1 hn1).1).trans hn1
  clear ho hb1 hn1 hb2
  gi_wp2_with fail
  refine ⟨trivial, ?_⟩
  refine (callsIn_wide.2 (creellaw10_list.calls _ _ b items true _ (Kd.V_reads' HO1.out).2.2 (Kd.V_reads' HO1.out).2.1 hli)).mono ?_
  rintro e wc ⟨v, rfl, hN1, hb3⟩
  obtain ⟨Ai, ci, rfl⟩ := Kd.N_slice hN1
  have HB4 := Aside0.mk (below_step HB3.out hb3)
  have hn3 := (hb3.block _ (Array.getElem?_eq_some_iff.1 hn2).1).trans hn2
  clear hb3 hn2
  gi_wp2_with fail
  refine ⟨trivial, ?_⟩
  refine (callsIn_wide.2 (creellaw10_few.calls (fun k_ => k_ < w.heap.size) _ _ l0 b _ (Kd.V_mk HC0.out (Kd.F_below HF0.out HB4.out)) hb)).mono ?_
  rintro e wd ⟨v, rfl, ho, hb4⟩
  obtain ⟨Ac, cc, rfl⟩ := Kd.V_slice ho
  have hN2 := Kd.N_below hN1 hb4
  have HO2 := Aside0.mk ho
  have HB5 := Aside0.mk (below_step HB4.out hb4)
  have hn4 := (hb4.block _ (Array.getElem?_eq_some_iff.1 hn3).1).trans hn3
  clear ho hb4 hn3 hN1
  gi_wp2_with fail
  refine ⟨trivial, ?_⟩
  refine (callsIn_wide.2 (creellaw10_list.all Ac b.length cc _)).mono ?_
  rintro e w' ⟨rfl, rfl⟩
  have hnf : ∀ (b : Nat) (W : World), (binOp BinOp.eql 40 (.func (.func 19) #[] #[.pointer (some ⟨b, 0, none⟩)]) .nilFunc).run Try.prog W = .ok (.bool false) W := fun _ _ => by kernel_rfl
  gi_wp2_with fail
  obtain ⟨w0, hw0⟩ : ∃ w0, wd.alloc (Obj.cells #[Value.slice Ac b.length cc] 23) = w0 := ⟨_, rfl⟩
  have hs0 : w0.heap.size = wd.heap.size + 1 := by rw [← hw0]; exact World.size_alloc _ _
  have hb5 : Below wd.heap.size wd w0 := by rw [← hw0]; exact (Below.refl _ _).alloc (Nat.le_refl _) _
  have hf0 : w0.cell? ⟨wd.heap.size, 0, none⟩ = some (.slice Ac b.length cc) := by rw [← hw0]; exact cell_of_row _ _ _ _ _ _ (heap_alloc_new _ _)
  have HB6 := Aside0.mk (below_step HB5.out hb5)
  have hn5 := (hb5.block _ (Array.getElem?_eq_some_iff.1 hn4).1).trans hn4
  have hN3 := Kd.N_below hN2 hb5
  have hbc := (Kd.V_reads' HO2.out).2.1
  have hCb := Kd.C_below (Kd.V_reads' HO2.out).2.2 hb5
  rw [hw0]
  have HN3 := Aside0.mk hN3
  have HBC := Aside0.mk hbc
  have HCB := Aside0.mk hCb
  clear hN2 hN3 hb5 hw0 hn4 hbc hCb
  obtain ⟨fb, hfb⟩ : ∃ fb, wd.heap.size = fb := ⟨_, rfl⟩
  rw [hfb] at hs0 hf0 ⊢
  have hfb0 : fb < w0.heap.size := by omega
  clear hfb hs0
  refine wpIn_loop_ghost (fun j a A => ∃ (i : Nat) (x9 x10 x28 x29 x30 x31 x32 x33 x34 x35 x36 x37 x38 x39 x40 x41 x42 x43 x44 x45 x46 x47 x48 x49 x50 x51 x52 : Value) (Ds : List Nat), j = 2 - i ∧ i ≤ 2 ∧ Below w0.heap.size w0 A ∧ Ds.Nodup ∧ (∀ D ∈ Ds, w0.heap.size ≤ D ∧ A.heap[D]? = some (.deferred (some []))) ∧ a = { tmps := #[.slice A0 l0.length c0, .int .u8 a1, undef, .pointer (some ⟨w.heap.size, 0, none⟩), .bool false, .bool true, .slice Ai items.length ci, .bool true, .func (.func 19) #[] #[.pointer (some ⟨fb, 0, none⟩)], x9, x10, .bool true, .tuple #[.slice Ai items.length ci, .bool true], .slice A0 l0.length c0, .slice Ab b.length cb, .tuple #[.slice Ai items.length ci, .bool true], .slice Ai items.length ci, .bool true, .slice A0 l0.length c0, .slice Ac b.length cc, .func (.func 19) #[] #[.pointer (some ⟨fb, 0, none⟩)], .bool true, .bool false, .bool false, .func (.func 19) #[] #[.pointer (some ⟨fb, 0, none⟩)], .bool false, .bool false, .int .i64 i, x28, x29, x30, x31, x32, x33, x34, x35, x36, x37, x38, x39, x40, x41, x42, x43, x44, x45, x46, x47, x48, x49, x50, x51, x52], defers := Ds.map mkD }) 2 ?start ?round
  case start => exact ⟨0, _, _, _, _, _, _, _, _, _, _, _, _, _, _, _, _, _, _, _, _, _, _, _, _, _, _, _, [], rfl, by omega, Below.refl _ _, List.nodup_nil, by simp, rfl⟩
  case round =>
    rintro j a A ⟨i, x9, x10, x28, x29, x30, x31, x32, x33, x34, x35, x36, x37, x38, x39, x40, x41, x42, x43, x44, x45, x46, x47, x48, x49, x50, x51, x52, Ds, rfl, hi2, hBA, hnd, hDs, rfl⟩
    by_cases hi : i < 2
    · have e1 : decide ((i : Int) < 2) = true := decide_eq_true (by omega)
      gi_wp2_with fail
      rename_i K1 hK1
      obtain ⟨B1, hB1e⟩ : ∃ B1, A.alloc (Obj.cells #[Value.slice none 0 0] 24) = B1 := ⟨_, rfl⟩
      rw [hB1e]
      have hs1 : B1.heap.size = A.heap.size + 1 := by rw [← hB1e]; exact World.size_alloc _ _
      have hbA1 : Below A.heap.size A B1 := by rw [← hB1e]; exact (Below.refl _ _).alloc (Nat.le_refl _) _
      have hbox : B1.heap[A.heap.size]? = some (.cells #[.slice none 0 0] 24) := by rw [← hB1e]; exact heap_alloc_new _ _
      have hA0 := hBA.size
      have hlt0 := (Array.getElem?_eq_some_iff.1 hn5).1
      have hn6 : A.heap[w.heap.size]? = some (.cells #[.int .u8 a1] 5) := (hBA.block _ hlt0).trans hn5
      have hf1 : B1.cell? ⟨fb, 0, none⟩ = some (.slice Ac b.length cc) := (hbA1.cell (by show fb < _; omega)).trans ((hBA.cell hfb0).trans hf0)
      have hF1 : Kd.F (Kd.int .u8) B1 (fun k => k < w0.heap.size) Ac b.length b := Kd.F_below (Kd.F_below (Kd.C_F (Kd.heap_int .u8) HCB.out) hBA) hbA1
      clear hB1e
      have key : ∀ (B : World) (v : Value), Below A.heap.size A B → B.heap[A.heap.size]? = some (.cells #[v] 24) → Kd.N k36 36 B (A.heap.size + 3) (fun k => A.heap.size + 3 ≤ k) v (items.take (a1 + 1)) → B.heap[B1.heap.size]? = some (.deferred (some [])) →
          K1 { tmps := #[.slice A0 l0.length c0, .int .u8 a1, undef, .pointer (some ⟨w.heap.size, 0, none⟩), .bool false, .bool true, .slice Ai items.length ci, .bool true, .func (.func 19) #[] #[.pointer (some ⟨fb, 0, none⟩)], .pointer (some ⟨A.heap.size, 0, none⟩), x10, .bool true, .tuple #[.slice Ai items.length ci, .bool true], .slice A0 l0.length c0, .slice Ab b.length cb, .tuple #[.slice Ai items.length ci, .bool true], .slice Ai items.length ci, .bool true, .slice A0 l0.length c0, .slice Ac b.length cc, .func (.func 19) #[] #[.pointer (some ⟨fb, 0, none⟩)], .bool true, .bool false, .bool false, .func (.func 19) #[] #[.pointer (some ⟨fb, 0, none⟩)], .bool false, .bool false, .int .i64 i, .bool true, .func (.func 19) #[] #[.pointer (some ⟨fb, 0, none⟩)], x30, x31, x32, x33, x34, x35, x36, x37, x38, x39, x40, x41, x42, x43, x44, x45, x46, x47, x48, x49, x50, x51, x52], defers := mkD B1.heap.size :: Ds.map mkD } B := by
        intro B v hB hbx hN hD
        obtain ⟨Av, cv, rfl⟩ := Kd.N_slice hN
        have hBw := hBA.trans (hB.mono hA0)
        have hNB := (hB.block w.heap.size (by omega)).trans hn6
        have o2 : B.cell? ⟨w.heap.size, 0, none⟩ = some (.int .u8 a1) := cell_of_row _ _ _ _ _ _ hNB
        have hNi := Kd.N_below HN3.out hBw
        obtain ⟨-, hci, -⟩ := Kd.N_reads' hNi
        obtain ⟨-, hcv, hCv⟩ := Kd.N_reads' hN
        obtain ⟨mm, hmm⟩ : ∃ mm, min items.length (a1 + 1) = mm := ⟨_, rfl⟩
        obtain ⟨n2, hn2, hn2c, hcut, hFt⟩ := Hand.cut_take (P := Try.prog) 24 .i64 Try.underlying24 (by kernel_rfl) (Kd.N_F hNi) hci mm (by omega)
        have htk : items.take mm = items.take (a1 + 1) := by rw [← hmm, List.take_eq_take_iff]; omega
        have hmin : (if (a1 : Int) + 1 < (items.length : Int) then (a1 : Int) + 1 else (items.length : Int)) = (mm : Int) := by split <;> omega
        rw [htk] at hn2 hFt
        have hSM := HSM.out
        generalize items.take (a1 + 1) = p at *
        subst hn2
        have o1 : B.cell? ⟨A.heap.size, 0, none⟩ = some (.slice Av p.length cv) := cell_of_row _ _ _ _ _ _ hbx
        have HMIN := Aside0.mk hmin
        have HCUT := Aside0.mk hcut
        have HBW := Aside0.mk hBw
        have HD := Aside0.mk hD
        have HCV := Aside0.mk hCv
        have HFT := Aside0.mk hFt
        have HSA := Aside0.mk hSM
        have HBB := Aside0.mk hB
        clear hmin hcut hBw hD hCv hFt hSM hN hNi hNB hB htk hmm
        refine hK1 _ _ ?_
        clear hK1
        gi_wp2_with fail
        refine Hand.calm ?_
        refine wpIn_region_any (by kernel_rfl) ?_
        change wpAnyIn _ _ _ _ _ _ _ _ _ (World.drew _)
        refine wpAnyIn_take (i := 1) (v := .slice Ai items.length ci) rfl rfl (by kernel_rfl) (by kernel_rfl) (by kernel_rfl) (fun _ _ _ h => h) ⟨Or.inl ⟨by rfl, ?_⟩, fun _ => rfl⟩ ?_
        · intro w; go_simp
        refine wpAnyIn_take (i := 2) (v := .slice Ai items.length ci) rfl rfl (by kernel_rfl) (by kernel_rfl) (by kernel_rfl) (fun _ _ _ h => h) ⟨Or.inl ⟨by rfl, ?_⟩, fun _ => rfl⟩ ?_
        · intro w; go_simp
        refine wpAnyIn_take (i := 3) (v := .int .i64 items.length) rfl rfl (by kernel_rfl) (by kernel_rfl) (by kernel_rfl) (fun _ _ _ h => h) ⟨Or.inl ⟨by rfl, ?_⟩, fun _ => rfl⟩ ?_
        · intro w; go_simp
        refine wpAnyIn_ready (rs := [0, 4]) (by kernel_rfl) (by simp) ?_
        refine AllReadyIn.cons rfl (fun K hK => ?_) (AllReadyIn.cons rfl (fun K hK => ?_) AllReadyIn.nil)
        · go_simp
          refine hK _ _ ?_
          clear hK K
          refine wpAnyIn_ready (rs := [4]) (by kernel_rfl) (by simp) ?_
          refine AllReadyIn.cons rfl (fun K hK => ?_) AllReadyIn.nil
          go_simp
          refine hK _ _ ?_
          clear hK K
          refine wpAnyIn_take (i := 5) (v := .int .i64 a1) rfl rfl (by kernel_rfl) (by kernel_rfl) (by kernel_rfl) (fun _ _ _ h => h) ⟨Or.inl ⟨by rfl, ?_⟩, fun _ => rfl⟩ ?_
          · intro w; go_simp; exact IntWalk.i64_in _ (by omega)
          refine wpAnyIn_take (i := 6) (v := .int .i64 ((a1 : Int) + 1)) rfl rfl (by kernel_rfl) (by kernel_rfl) (by kernel_rfl) (fun _ _ _ h => h) ⟨Or.inl ⟨by rfl, ?_⟩, fun _ => rfl⟩ ?_
          · intro w; go_simp; exact IntWalk.i64_in _ (by omega)
          refine wpAnyIn_take (i := 7) (v := .int .i64 mm) rfl rfl (by kernel_rfl) (by kernel_rfl) (by kernel_rfl) (fun _ _ _ h => h) ⟨Or.inl ⟨by rfl, ?_⟩, fun _ => rfl⟩ ?_
          · intro w; go_simp; exact HMIN.out
          refine wpAnyIn_take (i := 8) (v := .slice Ai p.length ci) rfl rfl (by kernel_rfl) (by kernel_rfl) (by kernel_rfl) (fun _ _ _ h => h) ⟨Or.inl ⟨by rfl, ?_⟩, fun _ => rfl⟩ ?_
          · intro w; have hcut := HCUT.out; go_simp
          refine wpAnyIn_ready (rs := [9]) (by kernel_rfl) (by simp) ?_
          refine AllReadyIn.cons rfl (fun K hK => ?_) AllReadyIn.nil
          go_simp
          refine ⟨trivial, ?_⟩
          refine (callsIn_wide.2 (creelref08_SameAll.calls k Av cv p Ai ci p true _ (Kd.C_below HCV.out (Below.refl _ _).drew) hcv (Kd.C_below (Kd.F_now HFT.out) (Below.refl _ _).drew) hn2c HSA.out)).mono ?_
          rintro e wc2 ⟨rfl, hbc⟩
          refine hK _ _ ?_
          clear hK K
          refine wpAnyIn_ready (rs := [10]) (by kernel_rfl) (by simp) ?_
          refine AllReadyIn.cons rfl (fun K hK => ?_) AllReadyIn.nil
          go_simp
          refine hK _ _ ?_
          clear hK K
          refine wpAnyIn_done (by kernel_rfl) ?_ _
          have hbB : Below B.heap.size B wc2 := (Below.refl B.heap.size B).drew.trans hbc
          have HBBW := Aside0.mk hbB
          clear hbB hbc
          simp only [Exit.then]
          go_at_K
          gi_wp2_with fail
          have ltA : ∀ {k : Nat} {o : Obj}, A.heap[k]? = some o → k < A.heap.size := fun h => (Array.getElem?_eq_some_iff.1 h).1
          have ltB : ∀ {k : Nat} {o : Obj}, B.heap[k]? = some o → k < B.heap.size := fun h => (Array.getElem?_eq_some_iff.1 h).1
          refine ⟨2 - (i + 1), by omega, i + 1, .pointer (some ⟨A.heap.size, 0, none⟩), x10, .bool true, .func (.func 19) #[] #[.pointer (some ⟨fb, 0, none⟩)], x30, x31, x32, x33, x34, x35, x36, x37, x38, x39, .slice Av p.length cv, .slice Ai items.length ci, .slice Ai items.length ci, .int .i64 items.length, .int .u8 a1, .int .i64 a1, .int .i64 ((a1 : Int) + 1), .int .i64 mm, .slice Ai p.length ci, .bool true, .bool false, .int .i64 ((i + 1 : Nat) : Int), x52, B1.heap.size :: Ds, rfl, by omega, HBW.out.trans (HBBW.out.mono HBW.out.size), ?_, ?_, ?_⟩
          · exact List.nodup_cons.2 ⟨fun h => by have := ltA (hDs _ h).2; omega, hnd⟩
          · intro D hD
            rcases List.mem_cons.1 hD with rfl | hD
            · exact ⟨by omega, (HBBW.out.block _ (ltB HD.out)).trans HD.out⟩
            · obtain ⟨h1, h2⟩ := hDs D hD
              have h3 := (HBB.out.block _ (ltA h2)).trans h2
              exact ⟨h1, (HBBW.out.block _ (ltB h3)).trans h3⟩
          · rw [hs1]
            rfl
        · go_simp
          refine hK _ _ ?_
          clear hK K
          refine wpAnyIn_take (i := 5) (v := .int .i64 a1) rfl rfl (by kernel_rfl) (by kernel_rfl) (by kernel_rfl) (fun _ _ _ h => h) ⟨Or.inl ⟨by rfl, ?_⟩, fun _ => rfl⟩ ?_
          · intro w; go_simp; exact IntWalk.i64_in _ (by omega)
          refine wpAnyIn_take (i := 6) (v := .int .i64 ((a1 : Int) + 1)) rfl rfl (by kernel_rfl) (by kernel_rfl) (by kernel_rfl) (fun _ _ _ h => h) ⟨Or.inl ⟨by rfl, ?_⟩, fun _ => rfl⟩ ?_
          · intro w; go_simp; exact IntWalk.i64_in _ (by omega)
          refine wpAnyIn_take (i := 7) (v := .int .i64 mm) rfl rfl (by kernel_rfl) (by kernel_rfl) (by kernel_rfl) (fun _ _ _ h => h) ⟨Or.inl ⟨by rfl, ?_⟩, fun _ => rfl⟩ ?_
          · intro w; go_simp; exact HMIN.out
          refine wpAnyIn_take (i := 8) (v := .slice Ai p.length ci) rfl rfl (by kernel_rfl) (by kernel_rfl) (by kernel_rfl) (fun _ _ _ h => h) ⟨Or.inl ⟨by rfl, ?_⟩, fun _ => rfl⟩ ?_
          · intro w; have hcut := HCUT.out; go_simp
          refine wpAnyIn_ready (rs := [0]) (by kernel_rfl) (by simp) ?_
          refine AllReadyIn.cons rfl (fun K hK => ?_) AllReadyIn.nil
          go_simp
          refine hK _ _ ?_
          clear hK K
          refine wpAnyIn_ready (rs := [9]) (by kernel_rfl) (by simp) ?_
          refine AllReadyIn.cons rfl (fun K hK => ?_) AllReadyIn.nil
          go_simp
          refine ⟨trivial, ?_⟩
          refine (callsIn_wide.2 (creelref08_SameAll.calls k Av cv p Ai ci p true _ (Kd.C_below HCV.out (Below.refl _ _).drew) hcv (Kd.C_below (Kd.F_now HFT.out) (Below.refl _ _).drew) hn2c HSA.out)).mono ?_
          rintro e wc2 ⟨rfl, hbc⟩
          refine hK _ _ ?_
          clear hK K
          refine wpAnyIn_ready (rs := [10]) (by kernel_rfl) (by simp) ?_
          refine AllReadyIn.cons rfl (fun K hK => ?_) AllReadyIn.nil
          go_simp
          refine hK _ _ ?_
          clear hK K
          refine wpAnyIn_done (by kernel_rfl) ?_ _
          have hbB : Below B.heap.size B wc2 := (Below.refl B.heap.size B).drew.trans hbc
          have HBBW := Aside0.mk hbB
          clear hbB hbc
          simp only [Exit.then]
          go_at_K
          gi_wp2_with fail
          have ltA : ∀ {k : Nat} {o : Obj}, A.heap[k]? = some o → k < A.heap.size := fun h => (Array.getElem?_eq_some_iff.1 h).1
          have ltB : ∀ {k : Nat} {o : Obj}, B.heap[k]? = some o → k < B.heap.size := fun h => (Array.getElem?_eq_some_iff.1 h).1
          refine ⟨2 - (i + 1), by omega, i + 1, .pointer (some ⟨A.heap.size, 0, none⟩), x10, .bool true, .func (.func 19) #[] #[.pointer (some ⟨fb, 0, none⟩)], x30, x31, x32, x33, x34, x35, x36, x37, x38, x39, .slice Av p.length cv, .slice Ai items.length ci, .slice Ai items.length ci, .int .i64 items.length, .int .u8 a1, .int .i64 a1, .int .i64 ((a1 : Int) + 1), .int .i64 mm, .slice Ai p.length ci, .bool true, .bool false, .int .i64 ((i + 1 : Nat) : Int), x52, B1.heap.size :: Ds, rfl, by omega, HBW.out.trans (HBBW.out.mono HBW.out.size), ?_, ?_, ?_⟩
          · exact List.nodup_cons.2 ⟨fun h => by have := ltA (hDs _ h).2; omega, hnd⟩
          · intro D hD
            rcases List.mem_cons.1 hD with rfl | hD
            · exact ⟨by omega, (HBBW.out.block _ (ltB HD.out)).trans HD.out⟩
            · obtain ⟨h1, h2⟩ := hDs D hD
              have h3 := (HBB.out.block _ (ltA h2)).trans h2
              exact ⟨h1, (HBBW.out.block _ (ltB h3)).trans h3⟩
          · rw [hs1]
            rfl
      obtain ⟨nb, hnb⟩ : ∃ nb, nb = if Hand.isHead b then 7 else 2 := ⟨_, rfl⟩
      have hnb7 : 2 ≤ nb := by rw [hnb]; split <;> omega
      have hW7 : ∀ r : Loop, ((B1.alloc (.deferred (some []))).alloc (.loop r)).heap.size = A.heap.size + 3 := fun r => by simp [hs1]
      have hb7 : ∀ r : Loop, Below B1.heap.size B1 ((B1.alloc (.deferred (some []))).alloc (.loop r)) := fun r => ((Below.refl _ _).alloc (Nat.le_refl _) _).alloc (by simp) _
      refine Hand.rangeC (w := B1) (gf := 19) (lb := #[.pointer (some ⟨fb, 0, none⟩)]) (encs := fun x : List Value × S36 => #[.agg x.1.toArray]) (G := fun x W' => A.heap.size + 3 + nb ≤ W'.heap.size ∧ Kd.FK k36 W' (TypB (A.heap.size + 3 + nb) W') x.2 x.1) (Stp := StpI (A.heap.size + 3) (A.heap.size + 3 + nb)) (Kp := KpK (fun k => k < w0.heap.size ∨ (A.heap.size + 3 ≤ k ∧ k < A.heap.size + 3 + nb))) (S := fun xs => xs.map (·.2) = items) (Sp := fun xs => xs.map (·.2) <+: items)
        rfl (by omega) rfl trivial (fun args w => Hand.run_enter Try.func19 (by kernel_rfl) rfl args w)
        (fun r => by
          have h := all1_seq 9 (by decide) ((B1.alloc (.deferred (some []))).alloc (.loop r)) fb Ac cc b (fun k => k < w0.heap.size) (((hb7 r).cell (World.block_lt_of_cell? _ _ hf1)).trans hf1) hfb0 (Kd.F_below hF1 (hb7 r)) HBC.out (by omega) (fun k hk => by rw [hW7]; omega) nb hnb
          rwa [hW7, HI.out] at h)
        (fun _ => rfl) (fun pre B => pre.length ≤ a1 ∧ InvE A nb pre B) (fun c pre B => c = .exit 2 ∧ pre.length = a1 + 1 ∧ InvE A nb pre B) ?hIs ?hIxs ?hIp ?hIxp ?hGp ?hSk (fun h k => h.trans k) ?hKp ?h0
        (fun x a' B => ∃ bx, A.heap.size + 3 + nb ≤ bx ∧ B.heap[bx]? = some (.cells x.1.toArray 36) ∧ Kd.FK k36 B (TypB (A.heap.size + 3 + nb) B) x.2 x.1 ∧ a' = { tmps := #[.slice A0 l0.length c0, .int .u8 a1, undef, .pointer (some ⟨w.heap.size, 0, none⟩), .bool false, .bool true, .slice Ai items.length ci, .bool true, .func (.func 19) #[] #[.pointer (some ⟨fb, 0, none⟩)], .pointer (some ⟨A.heap.size, 0, none⟩), .pointer (some ⟨bx, 0, none⟩), .bool true, .tuple #[.slice Ai items.length ci, .bool true], .slice A0 l0.length c0, .slice Ab b.length cb, .tuple #[.slice Ai items.length ci, .bool true], .slice Ai items.length ci, .bool true, .slice A0 l0.length c0, .slice Ac b.length cc, .func (.func 19) #[] #[.pointer (some ⟨fb, 0, none⟩)], .bool true, .bool false, .bool false, .func (.func 19) #[] #[.pointer (some ⟨fb, 0, none⟩)], .bool false, .bool false, .int .i64 i, .bool true, .func (.func 19) #[] #[.pointer (some ⟨fb, 0, none⟩)], .agg x.1.toArray, x31, x32, x33, x34, x35, x36, x37, x38, x39, x40, x41, x42, x43, x44, x45, x46, x47, x48, x49, x50, x51, x52], defers := [] }) ?hAx ?hassign ?hbody ?hdone ?hstop
      case hIs => intro s B C h hst; exact ⟨h.1, h.2.keep hst.1 (fun k hlt hk => hst.2.1 k hlt (by omega)) hst.2.2.1 hst.2.2.2.1 hst.2.2.2.2⟩
      case hIxs => rintro c s B C ⟨rfl, h1, h⟩ hst; exact ⟨rfl, h1, h.keep hst.1 (fun k hlt hk => hst.2.1 k hlt (by omega)) hst.2.2.1 hst.2.2.2.1 hst.2.2.2.2⟩
      case hIp => intro s B r r' h hl; exact ⟨h.1, h.2.keep (by simp) (fun k hlt hk => World.putObj_heap_other (by omega)) rfl rfl rfl⟩
      case hIxp => rintro c s B r r' ⟨rfl, h1, h⟩ hl; exact ⟨rfl, h1, h.keep (by simp) (fun k hlt hk => World.putObj_heap_other (by omega)) rfl rfl rfl⟩
      case hGp => rintro x B r r' ⟨h1, h2⟩ hl; exact ⟨by simpa using h1, FK_typ h2 (fun k hk _ => World.putObj_heap_other (by omega))⟩
      case hSk => intro B C hst hlt; exact ⟨hst.2.1 _ (by omega) (by omega), hst.2.1 _ hlt (by omega)⟩
      case hKp =>
        intro B r r' hl
        exact KpK.of_stp (Bs := A.heap.size + 1) (Be := A.heap.size + 3) (StpI.putObj (by omega) (by omega) _) (fun k hk h => by omega)
      case h0 =>
        intro r
        have lt : ∀ {k : Nat} {o : Obj}, B1.heap[k]? = some o → k < B1.heap.size := fun h => (Array.getElem?_eq_some_iff.1 h).1
        exact ⟨Nat.zero_le _, hbA1.trans ((hb7 r).mono (by omega)), _, ((hb7 r).block _ (lt hbox)).trans hbox, Kd.N_nil _ _ _ _ _⟩
      case hAx =>
        rintro x a' B r r' ⟨bx, h1, h2, h3, h4⟩ hl
        exact ⟨bx, h1, (World.putObj_heap_other (by omega)).trans h2, FK_typ h3 (fun k hk _ => World.putObj_heap_other (by omega)), h4⟩
      case hassign =>
        rintro lq pre ⟨cs, it⟩ B K hlt hI ⟨hsz, hFK⟩ hK
        obtain ⟨X1, d1, X2, d2, hcs, -⟩ := k36_openF hFK
        dsimp only at hcs
        subst hcs
        gi_wp2_with fail
        refine hK _ _ ?_ ?_ ?_ ?_
        · exact ⟨Below.heap_alloc _ _ _ (by omega), Below.heap_alloc _ _ _ hlt⟩
        · exact ⟨by simp, fun k _ hk => Below.heap_alloc _ _ _ hk⟩
        · exact ⟨hI.1, hI.2.keep (by simp) (fun k hk _ => Below.heap_alloc _ _ _ hk) rfl rfl rfl⟩
        · exact ⟨B.heap.size, hsz, heap_alloc_new _ _, FK_typ hFK (fun k _ ⟨_, _, hk⟩ => Below.heap_alloc _ _ _ (Array.getElem?_eq_some_iff.1 hk).1), rfl⟩
      case hbody =>
        rintro lq pre ⟨cs, it⟩ a' B hlt ⟨hpl, hB, v, hb3, hN⟩ ⟨bx, hbx, hcx, hFK, rfl⟩ hsp
        obtain ⟨X1, d1, X2, d2, hcs, -⟩ := k36_openF hFK
        dsimp only at hcs
        subst hcs
        have lt : ∀ {k : Nat} {o : Obj}, B.heap[k]? = some o → k < B.heap.size := fun h => (Array.getElem?_eq_some_iff.1 h).1
        have hlm : (pre.map (·.2)).length = pre.length := List.length_map _
        have hnB := (hB.block w.heap.size (by omega)).trans hn6
        have q0 : B.cell? ⟨bx, 0, none⟩ = some (.bool it.f0) := cell_of_row _ _ _ _ _ _ hcx
        have q1 : B.cell? ⟨bx, 1, none⟩ = some (.slice X1 it.f1.length d1) := cell_of_row _ _ _ _ _ _ hcx
        have q2 : B.cell? ⟨bx, 2, none⟩ = some (.slice X2 it.f2.length d2) := cell_of_row _ _ _ _ _ _ hcx
        have q3 : B.cell? ⟨bx, 3, none⟩ = some (.int .i64 it.f3) := cell_of_row _ _ _ _ _ _ hcx
        have q4 : B.cell? ⟨bx, 4, none⟩ = some (.int .i64 it.f4) := cell_of_row _ _ _ _ _ _ hcx
        have o0 : B.cell? ⟨A.heap.size, 0, none⟩ = some v := cell_of_row _ _ _ _ _ _ hb3
        have HFK := Aside0.mk hFK
        have HN := Aside0.mk hN
        have HB3 := Aside0.mk hb3
        have HNB := Aside0.mk hnB
        have hokp : ∀ k, TypB (A.heap.size + 3 + nb) B k → A.heap.size + 3 + nb ≤ k ∧ some k ≠ v.ownBlock := fun k ⟨h1, C, fr, h2⟩ => ⟨h1, fun e => by
          obtain ⟨C2, fr2, h3⟩ := N_typed hN e.symm
          rw [h2] at h3
          simp at h3⟩
        have HOK := Aside0.mk hokp
        clear hFK hN hb3 hokp hnB
        gi_wp2_with (refine Hand.stop_list (o := { dst := some 34, op := _, type := _, pos := _, after := _, guard := _ }) ?_)
        refine ⟨?_⟩
        refine Hand.listIn_round (fun c h => by cases h) ?_
        refine Kd.N_append_step k36 (w0 := B) (A.heap.size + 3) (by rfl) (.tmp 31) (.tmp 33) 24 36 (.agg #[(.bool false), (.slice none 0 0), (.slice none 0 0), (.int .i64 0), (.int .i64 0)]) 72 (by rfl) Try.underlying24 creellaw10_list.info rfl (by decide) (by decide) v (pre.map (·.2)) it [.bool it.f0, .slice X1 it.f1.length d1, .slice X2 it.f2.length d2, .int .i64 it.f3, .int .i64 it.f4] (fun k => A.heap.size + 3 + nb ≤ k) _ (by rfl) (by rfl) HFK.out HOK.out (fun k hk => by have := lt hcx; omega) HN.out (Below.refl _ _) (by omega) (by rw [hlm]; omega) ?_
        intro v1 w1 hN1 hB1 hg1 hob1
        obtain ⟨Av, cv, rfl⟩ := Kd.N_slice hN1
        obtain ⟨m, hm⟩ : ∃ m, (pre.map (·.2) ++ [it]).length = m := ⟨_, rfl⟩
        have hm1 : m = pre.length + 1 := by rw [← hm, List.length_append, hlm]; rfl
        rw [hm] at hN1 hob1 ⊢
        have hv3 := (hB1.block A.heap.size (by omega)).trans HB3.out
        have hv0 := (hB1.block w.heap.size (by omega)).trans HNB.out
        have o1 : w1.cell? ⟨A.heap.size, 0, none⟩ = some v := cell_of_row _ _ _ _ _ _ hv3
        have of1 : w1.frozen? ⟨A.heap.size, 0, none⟩ = false := by simp [World.frozen?, hv3]
        have o2 : w1.cell? ⟨w.heap.size, 0, none⟩ = some (.int .u8 a1) := cell_of_row _ _ _ _ _ _ hv0
        have o3 : (w1.setCell ⟨A.heap.size, 0, none⟩ (.slice Av m cv)).cell? ⟨w.heap.size, 0, none⟩ = some (.int .u8 a1) := (World.cell?_of_block (Below.heap_setCell w1 ⟨A.heap.size, 0, none⟩ _ w.heap.size (by show w.heap.size ≠ A.heap.size; omega))).trans o2
        have HN1 := Aside0.mk hN1
        have HV3 := Aside0.mk hv3
        have hsz1 := hB1.size
        have hof : ∀ k, v.ownBlock = some k → A.heap.size + 3 + nb ≤ k := HN.out.1
        have hkp : ∀ k, k < B.heap.size → k < A.heap.size + 3 + nb → k ≠ A.heap.size → (w1.setCell ⟨A.heap.size, 0, none⟩ (.slice Av m cv)).heap[k]? = B.heap[k]? := fun k hlt h1 h2 =>
          (Below.heap_setCell w1 ⟨A.heap.size, 0, none⟩ _ k h2).trans (hg1.block k hlt (fun e => by have := hof k e.symm; omega))
        have hBw := hB.trans (hB1.mono (by omega))
        have hInv : InvE A nb (pre ++ [([.bool it.f0, .slice X1 it.f1.length d1, .slice X2 it.f2.length d2, .int .i64 it.f3, .int .i64 it.f4], it)]) (w1.setCell ⟨A.heap.size, 0, none⟩ (.slice Av m cv)) := by
          refine ⟨⟨hBw.os, hBw.tape, hBw.output, by simpa using hBw.size, fun k hk => (Below.heap_setCell w1 ⟨A.heap.size, 0, none⟩ _ k (by show k ≠ A.heap.size; omega)).trans (hBw.block k hk)⟩, _, heap_setCell_same _ _ _ _ _ _ HV3.out, ?_⟩
          rw [List.map_append]
          exact Kd.N_far HN1.out (fun k hk => by show k ≠ A.heap.size; omega) _
        have hKp : KpK (fun k => k < w0.heap.size ∨ (A.heap.size + 3 ≤ k ∧ k < A.heap.size + 3 + nb)) B (w1.setCell ⟨A.heap.size, 0, none⟩ (.slice Av m cv)) := ⟨by simpa using hsz1, fun k hk hlt => hkp k hlt (by omega) (by omega)⟩
        have hbl2 : (w1.setCell ⟨A.heap.size, 0, none⟩ (.slice Av m cv)).heap[B1.heap.size]? = B.heap[B1.heap.size]? ∧ (w1.setCell ⟨A.heap.size, 0, none⟩ (.slice Av m cv)).heap[B1.heap.size + 1]? = B.heap[B1.heap.size + 1]? := ⟨hkp _ (by omega) (by omega) (by omega), hkp _ hlt (by omega) (by omega)⟩
        have HM1 := Aside0.mk hm1
        have hm2 : m ≤ 1002 := by omega
        have HIV := Aside0.mk hInv
        have HKP := Aside0.mk hKp
        have HBL := Aside0.mk hbl2
        clear hm1 hN1 hv3 hv0 hob1 hm q0 q1 q2 q3 q4 o0 hInv hKp hbl2 hkp hBw hof
        simp only [Act.put]
        by_cases hgt : a1 < m
        · have e1 : decide ((a1 : Int) < (m : Int)) = true := decide_eq_true (by omega)
          gi_wp2_with fail
          exact ⟨HBL.out, HKP.out, rfl, by rw [List.length_append]; show pre.length + 1 = _; have := HM1.out; omega, HIV.out⟩
        · have e1 : decide ((a1 : Int) < (m : Int)) = false := decide_eq_false (by omega)
          gi_wp2_with fail
          exact ⟨HBL.out, HKP.out, by rw [List.length_append]; show pre.length + 1 ≤ _; have := HM1.out; omega, HIV.out⟩
      case hdone =>
        rintro xs B hS ⟨hl1, hB, v, h3, hN⟩ hK
        refine key B v hB h3 ?_ hK
        rw [hS] at hN
        rw [List.take_of_length_le (by rw [← hS, List.length_map]; omega)]
        exact Kd.N_mono hN (fun k hk => by omega)
      case hstop =>
        rintro c pre B hSp ⟨rfl, hl1, hB, v, h3, hN⟩ hK
        refine wpIn_exit ?_
        refine key B v hB h3 ?_ hK
        have := List.prefix_iff_eq_take.1 hSp
        rw [List.length_map, hl1] at this
        rw [← this]
        exact Kd.N_mono hN (fun k hk => by omega)
    · have e1 : decide ((i : Int) < 2) = false := decide_eq_false (by omega)
      gi_wp2_with fail
      have hsw := HB6.out.size
      have hBf : Below w.heap.size w A := HB6.out.trans (hBA.mono hsw)
      have hDs' : ∀ D ∈ Ds, w.heap.size ≤ D ∧ A.heap[D]? = some (.deferred (some [])) := fun D hD => ⟨Nat.le_trans hsw (hDs D hD).1, (hDs D hD).2⟩
      clear hDs hBA
      induction Ds generalizing A with
      | nil => exact ⟨_, results_tmp rfl _ _ _, rfl, hBf⟩
      | cons D Ds ih =>
        obtain ⟨hnot, hnd'⟩ := List.nodup_cons.1 hnd
        have hD := hDs' D List.mem_cons_self
        refine ⟨by simp, .inl ⟨_, _, rfl, run_takeDeferred hD.2, ?_⟩⟩
        refine ih _ hnd' ⟨hBf.os, hBf.tape, hBf.output, by simpa using hBf.size, fun k hk => (World.putObj_heap_other (by omega)).trans (hBf.block k hk)⟩ (fun D' h => ⟨(hDs' D' (List.mem_cons_of_mem _ h)).1, (World.putObj_heap_other (fun e => hnot (by first | (rw [← e]; exact h) | (rw [e]; exact h)))).trans (hDs' D' (List.mem_cons_of_mem _ h)).2⟩)
theorem creellaw10_DumpEnds.walk (P : creellaw10_DumpEnds.Pure) (a0 : Option Addr) (len0 cap0 : Nat) (z0 : List Int) (a1 : Int) (w : World) (w0 : (a0 = none ∧ len0 = 0 ∧ cap0 = 0 ∧ z0 = []) ∨ ∃ x, a0 = some x ∧ len0 ≤ cap0 ∧ cap0 ≤ maxLen ∧ z0.length = cap0 ∧ (∀ i, i < z0.length → w.cell? (x.add i) = some (.int .u8 (z0.getD i 0))) ∧ ∀ n ∈ z0, (Lit.int .u8 n).wf = true) (y0 : len0 * 1 ≤ 140737488351232) (w1 : (Lit.int .u8 a1).wf = true) :
    Calls Try.prog 5 #[.slice a0 len0 cap0, .int .u8 a1] w fun e w' => e = .returned (.bool true) ∧ Below w.heap.size w w' := by
  obtain ⟨l0, rfl, hr0, hm0, hw0, hc0⟩ := ReadsInt.ofRowC w0
  obtain ⟨k, n, b, rfl, hn, hb, hf, hs, hsm⟩ := P l0 a1 hm0 y0 hw0 w1
  exact creellaw10_DumpEnds.calls _ _ l0 n w (Kd.C_of_reads (d := (0 : Int)) (h1 := fun _ => rfl) hr0) hc0 hn k b hb hf _ rfl hs hsm

end Go.Proofs.Ythnjeddcnkbebaa.Print
