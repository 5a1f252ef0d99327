/- Words of the print, of which only those stand here that this claim names. -/
-- Written by a program of this session (wip/cprint.py), which calls the kit's print and adds contracts proved by hand.
import Derived.Test.YtaiechbdcddalaaPrint0
import Derived.Test.YtaiechbdcddalaaPrint1
import Derived.Test.YtaiechbdcddalaaPrint7
namespace Go.Proofs.Ytaiechbdcddalaa.Print
open Go.RowKit Go.Proofs.YtaiechbdcddalaaW.PrintWords Go.Proofs.YtaiechbdcddalaaW.PrintLast Go.Proofs.YtaiechbdcddalaaW.PrintMore
attribute [local go_sem] max2_int min2_int max_two min_two max_three min_three max_four min_four   -- for this text's walks alone
set_option linter.unusedVariables false
set_option linter.unusedSimpArgs false

/-! ### creellaw16_list: function 17 -/
theorem getD_mem_ {α : Type} (d : α) {l : List α} {i : Nat} (h : i < l.length) : l.getD i d ∈ l := by
 simp [List.getD_eq_getElem?_getD, List.getElem?_eq_getElem h]
set_option maxHeartbeats 4000000 in
set_option maxRecDepth 100000 in
theorem dict_Dict_Label.calls (p : Value) (m : Nat) (s : Option Dct) (id : Int) (w : World) (h : DPtr w p m s) (hf : DFit s) (hm : m ≤ w.heap.size) :
  Calls Try.prog 20 #[p, .int .i64 id] w fun e w' => ∃ v, e = .returned (.tuple #[v, .bool (decide (0 ≤ id ∧ id < dN s))]) ∧ (Kd.int .u8).R 5 w' w.heap.size (fun _ => True) v (if 0 ≤ id ∧ id < dN s then dAt s id else []) ∧ Below w.heap.size w w' := by
 have hdn := hf.small
 have HP := Aside0.mk h
 have HFT := Aside0.mk hf
 obtain ⟨n, hn⟩ : ∃ n, dN s = n := ⟨_, rfl⟩
 by_cases hin : 0 ≤ id ∧ id < dN s
 ·rw [if_pos hin, decide_eq_true hin]
  have d1 : decide (id < 0) = false := decide_eq_false (by omega)
  have d2 : decide ((n : Int) ≤ id) = false := decide_eq_false (by omega)
  cases s with
  | none => exact absurd hin (by simp [dN])
  | some B =>
   obtain ⟨q, rfl, -, v, hq, hN⟩ := h
   obtain ⟨Aq, cq, rfl⟩ := Kd.N_slice hN
   have o0 : w.cell? ⟨q, 0, none⟩ = some (.slice Aq B.length cq) := cell_of_row _ _ _ _ _ _ hq
   obtain ⟨hBl, hfit, hsh⟩ := hf
   obtain ⟨i, rfl⟩ : ∃ i : Nat, id = (i : Int) := ⟨id.toNat, by omega⟩
   obtain ⟨hi1, hi2, hi3⟩ := hfit.at_ (id := i) (by have := hin.2; show i < B.flatten.length; exact Int.ofNat_lt.mp this)
   obtain ⟨ad, A1, c1, rfl, hcell, hF⟩ := N_block hN hi1
   obtain ⟨ad1, A2, c2, rfl, hcell2, hc2, hF2⟩ := Hand.F_row_at hF (i % 16) hi2
   have hxl : ((B.getD (i / 16) []).getD (i % 16) []).length ≤ 1000 := hsh _ (getD_mem_ _ hi1) _ (getD_mem_ _ hi2)
   have HX : Aside0 ((B.getD (i / 16) []).getD (i % 16) [] = dAt (some B) i) := ⟨by rw [hi3]; rfl⟩
   obtain ⟨x, hx⟩ : ∃ x, (B.getD (i / 16) []).getD (i % 16) [] = x := ⟨_, rfl⟩
   rw [hx] at hcell2 hc2 hF2 hxl HX
   obtain ⟨bl, hbl⟩ : ∃ l, (B.getD (i / 16) []) = l := ⟨_, rfl⟩
   rw [hbl] at hcell hi2
   have HCX := Aside0.mk (Kd.F_now hF2)
   have HCC := Aside0.mk hc2
   have HCLF : Aside0 (slices_Clone_byte_byte.f x = some x) := ⟨by unfold slices_Clone_byte_byte.f; simp only [Option.bind_some]; rw [if_pos (by simp; omega), List.nil_append]⟩
   have q5 : (i : Int) < 16000000 := by omega
   obtain ⟨a, ha⟩ : ∃ a, i / 16 = a := ⟨_, rfl⟩
   obtain ⟨b, hb⟩ : ∃ b, i % 16 = b := ⟨_, rfl⟩
   have q1 : ((i : Int).tdiv 16) = (a : Int) := by rw [Int.tdiv_eq_ediv_of_nonneg (by omega)]; omega
   have q2 : ((i : Int).tmod 16) = (b : Int) := by rw [Int.tmod_eq_emod_of_nonneg (by omega)]; omega
   rw [ha] at hcell hi1
   rw [hb] at hcell2 hi2
   have p2 : (a : Int) < (B.length : Int) := by omega
   have p5 : (b : Int) < (bl.length : Int) := by omega
   have p6 : (a : Int) ≤ 1000000 := by omega
   clear ha hb q5
   clear hq hN hF hF2 hc2 hi3 hx hbl hfit hsh hi1 hi2
   have HN := Aside0.mk hn
   rw [hn] at hin hdn
   clear hn
   go_enter Try.func20, Try.ntmps20
   go_wp2_with (first | (go_at_call 22; (with_reducible refine (dict_Dict_Len.calls _ m (some B) _ HP.out HFT.out).mono ?_); rintro e w1 ⟨rfl, hw_⟩; subst w1; rw [HN.out]) | (go_at_call 38; (with_reducible refine (slices_Clone_byte_byte.calls A2 c2 x x _ HCX.out HCC.out HCLF.out).mono ?_); rintro e w2 ⟨v3, rfl, ho, hb⟩; obtain ⟨A3, c3, rfl⟩ := Kd.R_slice ho; have HO := Aside0.mk ho; have HB := Aside0.mk hb; clear ho hb))
   go_ret2
   exact ⟨_, rfl, by rw [← HX.out]; exact HO.out, HB.out⟩
 ·rw [if_neg hin, decide_eq_false hin]
  by_cases hneg : id < 0
  ·have d1 : decide (id < 0) = true := decide_eq_true hneg
   go_enter Try.func20, Try.ntmps20
   go_wp2
   go_ret2
   exact ⟨_, rfl, Kd.R_nil _ _ _ _ _, Below.refl _ _⟩
  ·have d1 : decide (id < 0) = false := decide_eq_false hneg
   have d2 : decide ((n : Int) ≤ id) = true := decide_eq_true (by omega)
   have HN := Aside0.mk hn
   clear hdn hn hin
   go_enter Try.func20, Try.ntmps20
   go_wp2_with (first | (go_at_call 22; (with_reducible refine (dict_Dict_Len.calls _ m s _ HP.out HFT.out).mono ?_); rintro e w1 ⟨rfl, hw_⟩; subst w1; rw [HN.out]))
   go_ret2
   exact ⟨_, rfl, Kd.R_nil _ _ _ _ _, Below.refl _ _⟩
def TypB (M : Nat) (W : World) (k : Nat) : Prop := M ≤ k ∧ ∃ C fr, W.heap[k]? = some (.cells C 5 fr)
theorem R_typ {W : World} {base M : Nat} {ok : Nat → Prop} {v : Value} {xs : List Int} (h : Kd.R (Kd.int .u8) 5 W base ok v xs) (hM : M ≤ base) :
  ∃ A c, v = .slice A xs.length c ∧ xs.length ≤ c ∧ Kd.F (Kd.int .u8) W (TypB M W) A xs.length xs := by
 have h1 := Kd.R_mono (ok' := TypB M W) (Kd.R_bound h) (fun k hk => by
  obtain ⟨_, hb, _, q, hq, C, hC⟩ := hk
  have hq' : q = 5 := by
   rcases List.mem_cons.1 hq with h | h
   ·exact h
   ·exact absurd h (List.not_mem_nil)
  subst hq'
  exact ⟨Nat.le_trans hM hb, C, _, hC⟩)
 obtain ⟨A, c, rfl⟩ := Kd.R_slice h1
 obtain ⟨_, hc, _⟩ := Kd.R_reads' h1
 exact ⟨A, c, rfl, hc, Kd.R_F h1⟩
theorem TypB.keep {M : Nat} {A B : World} (hb : ∀ k, M ≤ k → (∃ C fr, A.heap[k]? = some (.cells C 5 fr)) → B.heap[k]? = A.heap[k]?) {k : Nat} (h : TypB M A k) : TypB M B k := by
 obtain ⟨h1, C, fr, h2⟩ := h
 exact ⟨h1, C, fr, (hb k h1 ⟨C, fr, h2⟩).trans h2⟩
theorem F_typ {M : Nat} {A B : World} {ad : Option Addr} {n : Nat} {xs : List Int} (h : Kd.F (Kd.int .u8) A (TypB M A) ad n xs) (hb : ∀ k, M ≤ k → (∃ C fr, A.heap[k]? = some (.cells C 5 fr)) → B.heap[k]? = A.heap[k]?) : Kd.F (Kd.int .u8) B (TypB M B) ad n xs :=
 Kd.F_mono (Kd.F_step h (fun k hk _ => hb k hk.1 hk.2)) (fun _ hk => TypB.keep hb hk)
theorem N_typed8 {d : Kd (List Int)} {e base : Nat} {ok : Nat → Prop} {W : World} {v : Value} {xs : List (List Int)} (h : Kd.N d e W base ok v xs) {k : Nat} (hk : v.ownBlock = some k) : ∃ C fr, W.heap[k]? = some (.cells C e fr) := by
 obtain ⟨C, h⟩ := Kd.N_typed h k hk
 exact ⟨C, _, h⟩
/-- A Dict stands as long as the blocks that were there do. -/
theorem DPtr.keep {W W' : World} {p : Value} {m : Nat} {s : Option Dct} (h : DPtr W p m s) (hk : ∀ k, k < W.heap.size → W'.heap[k]? = W.heap[k]?) : DPtr W' p m s := by
 cases s with
 | none => exact h
 | some B =>
  obtain ⟨q, h0, h1, v, h2, h3⟩ := h
  exact ⟨q, h0, h1, v, (hk _ (Array.getElem?_eq_some_iff.1 h2).1).trans h2, Kd.N_step h3 (fun k _ hlt => hk k hlt)⟩
/-- All labels with their numbers. -/
def dAllL (s : Option Dct) : List (Nat × List Int) := (List.range (dN s)).map fun i : Nat => (i, dAt s i)
theorem dAllL_len (s : Option Dct) : (dAllL s).length = dN s := by simp [dAllL]
theorem dAllL_take (s : Option Dct) {i : Nat} (h : i < dN s) : (dAllL s).take (i + 1) = (dAllL s).take i ++ [(i, dAt s i)] := by
 rw [List.take_succ_eq_append_getElem (by rw [dAllL_len]; exact h)]
 simp [dAllL]
theorem dAllL_at {s : Option Dct} {pre : List (Nat × Option Addr × Nat × List Int)} {x : Nat × Option Addr × Nat × List Int} (h : (pre ++ [x]).map (fun x => (x.1, x.2.2.2)) <+: dAllL s) : x.1 = pre.length ∧ pre.length < dN s ∧ x.2.2.2 = dAt s pre.length := by
 obtain ⟨ys, hy⟩ := h
 have hlen : pre.length < dN s := by
  have := congrArg List.length hy
  rw [dAllL_len] at this
  simp only [List.length_append, List.length_map, List.length_singleton] at this
  omega
 have hg : (dAllL s)[pre.length]? = some (x.1, x.2.2.2) := by
  rw [← hy]
  simp
 rw [dAllL, List.getElem?_map, List.getElem?_range hlen] at hg
 simp only [Option.map_some, Option.some.injEq, Prod.mk.injEq] at hg
 exact ⟨hg.1.symm, hlen, hg.2.symm⟩
set_option maxHeartbeats 4000000 in
theorem creellaw16_list.all (ap : Option Addr) (w : World) :
  Calls Try.prog 23 #[.pointer ap] w fun e w' => e = .returned (.func (.func 39) #[] #[.pointer (some ⟨w.heap.size, 0, none⟩)]) ∧ w' = w.alloc (.cells #[.pointer ap] 34) := by
 go_enter Try.func23, Try.ntmps23
 go_wp2
 go_ret
 exact ⟨rfl, rfl⟩
attribute [local go_sem] Oper.semAt_some in
set_option maxHeartbeats 8000000 in
set_option maxRecDepth 100000 in
theorem creellaw16_list.seq (n : Nat) (hn : 6 ≤ n) (W0 W : World) (Bb : Nat) (ap : Option Addr) (m : Nat) (s : Option Dct) (K0 : Nat → Prop)
  (hp : DPtr W0 (.pointer ap) m s) (hf : DFit s) (hm : m ≤ W0.heap.size) (hag : ∀ k, k < W0.heap.size → W.heap[k]? = W0.heap[k]?) (hle : W0.heap.size ≤ W.heap.size) (hb : W.cell? ⟨Bb, 0, none⟩ = some (.pointer ap)) (hKb : K0 Bb) (hK : ∀ k, k < W0.heap.size → K0 k) :
  Hand.SeqC Fence.wide n Try.prog 39 #[.pointer (some ⟨Bb, 0, none⟩)] (fun x : Nat × Option Addr × Nat × List Int => #[.int .i64 x.1, .slice x.2.1 x.2.2.2.length x.2.2.1])
   (fun x W' => x.2.2.2.length ≤ x.2.2.1 ∧ Kd.F (Kd.int .u8) W' (TypB W.heap.size W') x.2.1 x.2.2.2.length x.2.2.2)
   (fun A B => Below A.heap.size A B) (KpK K0) (fun xs => xs.map (fun x => (x.1, x.2.2.2)) = dAllL s) (fun xs => xs.map (fun x => (x.1, x.2.2.2)) <+: dAllL s) W := by
 intro l J Jx hJ hJx hY h0
 have hdn := hf.small
 obtain ⟨t, ht⟩ : ∃ t, dN s = t := ⟨_, rfl⟩
 rw [ht] at hdn
 have HP := Aside0.mk hp
 have HFT := Aside0.mk hf
 have HT := Aside0.mk ht
 have HAG := Aside0.mk hag
 have HK := Aside0.mk hK
 have HDN := Aside0.mk hdn
 clear hp hf ht hag hK hdn
 refine callsIn_of_wp_marks Try.func39 rfl trivial ?_ rfl
 simp only [Try.ntmps39, List.size_toArray, List.length_cons, List.length_nil, Nat.reduceAdd, Nat.reduceSub, Array.replicate_succ, Array.replicate_zero, List.push_toArray, List.append_toArray, List.nil_append, List.cons_append]
 gi_wp2_with fail
 refine ⟨trivial, fun _ => by omega, ?_⟩
 refine (callsIn_wide.2 (dict_Dict_Len.calls (.pointer ap) m s W (HP.out.keep HAG.out) HFT.out)).mono ?_
 rintro e w1 ⟨rfl, hw_⟩
 subst w1
 rw [HT.out]
 gi_wp2_with fail
 gi_loopw [8] (fun v wr => ∃ (i : Nat) (pre : List (Nat × Option Addr × Nat × List Int)), v = .int .i64 i ∧ i ≤ t ∧ Aside0 (pre.map (fun x => (x.1, x.2.2.2)) = (dAllL s).take i) ∧ J pre wr ∧ Aside0 (KpK K0 W wr)) (fun v _ => t - (intOf v).toNat)
 case atStart => exact ⟨0, [], rfl, Nat.zero_le _, ⟨rfl⟩, h0, ⟨KpK.refl _ _⟩⟩
 case round =>
  obtain ⟨i, pre, rfl, hi, HE, hJs, HKW⟩ := hrel
  have hsr := HKW.out.cell (a := ⟨Bb, 0, none⟩) hKb hb
  by_cases hlt : i < t
  ·have d1 : decide ((i : Int) < (t : Int)) = true := decide_eq_true (by omega)
   have d1n : decide (i < t) = true := decide_eq_true hlt
   have hin : (0 : Int) ≤ (i : Int) ∧ (i : Int) < (dN s : Int) := ⟨by omega, by have := HT.out; omega⟩
   gi_wp2_with fail
   refine ⟨trivial, fun _ => by omega, ?_⟩
   have hpw : DPtr wr (.pointer ap) m s := HP.out.keep (fun k hk => (HKW.out.2 k (HK.out k hk) (by omega)).trans (HAG.out k hk))
   have hsz := HKW.out.1
   refine (callsIn_wide.2 (dict_Dict_Label.calls (.pointer ap) m s i wr hpw HFT.out (by omega))).mono ?_
   rintro e w2 ⟨v, rfl, hv, hb2⟩
   rw [if_pos hin] at hv
   rw [decide_eq_true hin]
   obtain ⟨Ax, cx, rfl, hcx, hF⟩ := R_typ (M := W.heap.size) hv hsz
   obtain ⟨y, hy⟩ : ∃ y, dAt s (i : Int) = y := ⟨_, rfl⟩
   rw [hy] at hcx hF hv ⊢
   have hpre : (pre ++ [(i, Ax, cx, y)]).map (fun x => (x.1, x.2.2.2)) = (dAllL s).take (i + 1) := by
    rw [List.map_append, HE.out, dAllL_take s (by have := HT.out; omega), hy]
    rfl
   have HPRE := Aside0.mk hpre
   have hJ2 := hJ _ _ _ hJs hb2
   have hbe := hb2.cell (World.block_lt_of_cell? _ _ hsr) |>.trans hsr
   obtain ⟨yf, ytmps, yassign, ybody, hyy, hR⟩ := hY pre (i, Ax, cx, y) w2 hJ2 ⟨hcx, hF⟩ (by rw [hpre]; exact List.take_prefix _ _)
   have hyy' : (Instr.yield l #[.int .i64 (i : Int), .slice Ax y.length cx]).run Try.prog w2 = .ok (.round l yf ytmps yassign ybody) w2 := hyy
   have HKB := Aside0.mk (HKW.out.trans ⟨hb2.size, fun k _ hk => hb2.block k hk⟩)
   clear hv hpw hy hpre hF hin
   gi_wp2_with fail
   refine ⟨fun _ => by omega, ?_⟩
   refine (Hand.roundIn_wide hR).mono ?_
   rintro e wf (⟨rfl, hJf, hkf⟩ | ⟨rfl, hJf, hkf⟩)
   ·gi_wp2_with fail
    have e4 : wrap64 ((i : Int) + 1) = ((i + 1 : Nat) : Int) := by rw [w64_ok _ (by have := HDN.out; omega)]; omega
    rw [e4]
    clear e4
    exact ⟨⟨i + 1, pre ++ [(i, Ax, cx, y)], rfl, by omega, HPRE, hJf, ⟨HKB.out.trans hkf⟩⟩, by simp [intOf]; omega⟩
   ·gi_wp2_with fail
    exact ⟨_, results_none rfl _ _ _, ⟨_, rfl⟩, .inr ⟨_, by rw [HPRE.out]; exact List.take_prefix _ _, hJf⟩⟩
  ·have d1 : decide ((i : Int) < (t : Int)) = false := decide_eq_false (by omega)
   have d1n : decide (i < t) = false := decide_eq_false hlt
   gi_wp2_with fail
   obtain rfl : i = t := by omega
   exact ⟨_, results_none rfl _ _ _, ⟨_, rfl⟩, .inl ⟨pre, by rw [HE.out, List.take_of_length_le (by rw [dAllL_len, HT.out]; exact Nat.le_refl _)], hJs⟩⟩
/-- All labels. -/
def dLabels : Option Dct → List (List Int)
 | none => []
 | some B => B.flatten
theorem dAllL_snd (s : Option Dct) : (dAllL s).map (·.2) = dLabels s := by
 cases s with
 | none => rfl
 | some B =>
  refine List.ext_getElem (by simp [dAllL, dLabels, dN]) (fun i h1 h2 => ?_)
  have h2 : i < B.flatten.length := h2
  simp only [dAllL, List.getElem_map, List.getElem_range]
  show B.flatten.getD (i : Int).toNat [] = B.flatten[i]
  rw [Int.toNat_natCast, List.getD_eq_getElem?_getD, List.getElem?_eq_getElem h2]
  rfl
/-- Between two labels: what came stands in the box of 'out'. -/
def InvD (w : World) (most : Int) (pre : List (Nat × Option Addr × Nat × List Int)) (A : World) : Prop :=
 Below w.heap.size w A ∧ A.heap[w.heap.size]? = some (.cells #[.int .i64 most] 3) ∧ A.heap[w.heap.size + 1]? = some (.cells #[.slice none 0 0] 22) ∧ A.heap[w.heap.size + 2]? = some (.cells #[.bool false] 4) ∧
  ∃ v, A.heap[w.heap.size + 3]? = some (.cells #[v] 22) ∧ Kd.N (Kd.slice 5 (Kd.int .u8)) 26 A (w.heap.size + 7) (fun k => w.heap.size + 7 ≤ k) v (pre.map (·.2.2.2))
theorem InvD.keep {w : World} {most : Int} {pre : List (Nat × Option Addr × Nat × List Int)} {A B : World} (h : InvD w most pre A) (hs : A.heap.size ≤ B.heap.size) (hk : ∀ k, k < A.heap.size → (k < w.heap.size + 5 ∨ w.heap.size + 7 ≤ k) → B.heap[k]? = A.heap[k]?)
  (ho : B.os = A.os) (ht : B.tape = A.tape) (hu : B.output = A.output) : InvD w most pre B := by
 obtain ⟨hB, h0, h1, h2, v, h3, hN⟩ := h
 have lt : ∀ {k : Nat} {o : Obj}, A.heap[k]? = some o → k < A.heap.size := fun h => (Array.getElem?_eq_some_iff.1 h).1
 have hsz := hB.size
 exact ⟨⟨ho.trans hB.os, ht.trans hB.tape, hu.trans hB.output, Nat.le_trans hB.size hs, fun k hlt => (hk k (by omega) (.inl (by omega))).trans (hB.block k hlt)⟩,
  (hk _ (lt h0) (.inl (by omega))).trans h0, (hk _ (lt h1) (.inl (by omega))).trans h1, (hk _ (lt h2) (.inl (by omega))).trans h2, v, (hk _ (lt h3) (.inl (by omega))).trans h3, Kd.N_step hN (fun k hk' hlt => hk k hlt (.inr hk'))⟩
attribute [local go_sem] Oper.semAt_some in
set_option maxHeartbeats 8000000 in
set_option maxRecDepth 100000 in
theorem creellaw16_list.calls (p : Value) (m : Nat) (s : Option Dct) (most : Int) (w : World) (h : DPtr w p m s) (hf : DFit s) (hm : m ≤ w.heap.size) (hmo : (dN s : Int) ≤ most + 1) :
  Calls Try.prog 17 #[p, .int .i64 most] w fun e w' => ∃ v0_ : Value, e = .returned (.tuple #[v0_, .bool true]) ∧ Kd.N (Kd.slice 5 (Kd.int .u8)) 26 w' w.heap.size (fun k_ => w.heap.size ≤ k_) v0_ (dLabels s) ∧ Below w.heap.size w w' := by
 obtain ⟨ap, rfl⟩ : ∃ ap, p = .pointer ap := by
  cases s with
  | none => exact ⟨none, h⟩
  | some B => obtain ⟨q, rfl, _⟩ := h; exact ⟨_, rfl⟩
 have HP := Aside0.mk h
 have HFT := Aside0.mk hf
 have HMO := Aside0.mk hmo
 have HSM := Aside0.mk hf.small
 clear h hf hmo
 refine (callsIn_wide (n := 10)).1 ?_
 refine callsIn_of_wp_marks Try.func17 rfl trivial ?_ rfl
 simp only [Try.ntmps17, List.size_toArray, List.length_cons, List.length_nil, Nat.reduceAdd, Nat.reduceSub, Array.replicate_succ, Array.replicate_zero, List.push_toArray, List.append_toArray, List.nil_append, List.cons_append]
 gi_wp2_with fail
 refine ⟨trivial, ?_⟩
 refine (callsIn_wide.2 (creellaw16_list.all ap _)).mono ?_
 rintro e w' ⟨rfl, rfl⟩
 have hnf : ∀ (b : Nat) (W : World), (binOp BinOp.eql 53 (.func (.func 39) #[] #[.pointer (some ⟨b, 0, none⟩)]) .nilFunc).run Try.prog W = .ok (.bool false) W := fun _ _ => by kernel_rfl
 gi_wp2_with fail
 simp only [World.size_alloc, Nat.add_assoc, Nat.reduceAdd]
 obtain ⟨w5, hw5⟩ : ∃ w5, (((((w.alloc (Obj.cells #[Value.int .i64 most] 3)).alloc (Obj.cells #[Value.slice none 0 0] 22)).alloc (Obj.cells #[Value.bool false] 4)).alloc (Obj.cells #[Value.slice none 0 0] 22)).alloc (Obj.cells #[Value.pointer ap] 34)) = w5 := ⟨_, rfl⟩
 rw [hw5]
 have hs5 : w5.heap.size = w.heap.size + 5 := by rw [← hw5]; simp
 have hb5 : Below w.heap.size w w5 := by rw [← hw5]; exact (((((Below.refl _ _).alloc (Nat.le_refl _) _).alloc (by simp) _).alloc (by simp <;> omega) _).alloc (by simp <;> omega) _).alloc (by simp <;> omega) _
 have h50 : w5.heap[w.heap.size]? = some (.cells #[.int .i64 most] 3) := by
  rw [← hw5]
  exact (Below.heap_alloc _ _ _ (by simp <;> omega)).trans ((Below.heap_alloc _ _ _ (by simp <;> omega)).trans ((Below.heap_alloc _ _ _ (by simp <;> omega)).trans ((Below.heap_alloc _ _ _ (by simp)).trans (heap_alloc_new _ _))))
 have h51 : w5.heap[w.heap.size + 1]? = some (.cells #[.slice none 0 0] 22) := by
  have h := heap_alloc_new (w.alloc (Obj.cells #[Value.int .i64 most] 3)) (Obj.cells #[Value.slice none 0 0] 22)
  rw [World.size_alloc] at h
  rw [← hw5]
  exact (Below.heap_alloc _ _ _ (by simp <;> omega)).trans ((Below.heap_alloc _ _ _ (by simp <;> omega)).trans ((Below.heap_alloc _ _ _ (by simp)).trans h))
 have h52 : w5.heap[w.heap.size + 2]? = some (.cells #[.bool false] 4) := by
  have h := heap_alloc_new ((w.alloc (Obj.cells #[Value.int .i64 most] 3)).alloc (Obj.cells #[Value.slice none 0 0] 22)) (Obj.cells #[Value.bool false] 4)
  rw [World.size_alloc, World.size_alloc] at h
  rw [← hw5]
  exact (Below.heap_alloc _ _ _ (by simp <;> omega)).trans ((Below.heap_alloc _ _ _ (by simp)).trans h)
 have h53 : w5.heap[w.heap.size + 3]? = some (.cells #[.slice none 0 0] 22) := by
  have h := heap_alloc_new (((w.alloc (Obj.cells #[Value.int .i64 most] 3)).alloc (Obj.cells #[Value.slice none 0 0] 22)).alloc (Obj.cells #[Value.bool false] 4)) (Obj.cells #[Value.slice none 0 0] 22)
  rw [World.size_alloc, World.size_alloc, World.size_alloc] at h
  rw [← hw5]
  exact (Below.heap_alloc _ _ _ (by simp)).trans h
 have h54 : w5.cell? ⟨w.heap.size + 4, 0, none⟩ = some (.pointer ap) := by
  have h := heap_alloc_new ((((w.alloc (Obj.cells #[Value.int .i64 most] 3)).alloc (Obj.cells #[Value.slice none 0 0] 22)).alloc (Obj.cells #[Value.bool false] 4)).alloc (Obj.cells #[Value.slice none 0 0] 22)) (Obj.cells #[Value.pointer ap] 34)
  rw [World.size_alloc, World.size_alloc, World.size_alloc, World.size_alloc] at h
  rw [← hw5]
  exact cell_of_row _ _ _ _ _ _ h
 clear hw5
 obtain ⟨K0, hK0⟩ : ∃ K0 : Nat → Prop, K0 = fun k => k < w.heap.size ∨ k = w.heap.size + 4 := ⟨_, rfl⟩
 have hW7 : ∀ r : Loop, ((w5.alloc (.deferred (some []))).alloc (.loop r)).heap.size = w.heap.size + 7 := fun r => by simp [hs5]
 have hb7 : ∀ r : Loop, Below w5.heap.size w5 ((w5.alloc (.deferred (some []))).alloc (.loop r)) := fun r => ((Below.refl _ _).alloc (Nat.le_refl _) _).alloc (by simp) _
 refine Hand.rangeC (w := w5) (gf := 39) (lb := #[.pointer (some ⟨w.heap.size + 4, 0, none⟩)]) (encs := fun x : Nat × Option Addr × Nat × List Int => #[.int .i64 x.1, .slice x.2.1 x.2.2.2.length x.2.2.1]) (G := fun x W' => x.2.2.2.length ≤ x.2.2.1 ∧ Kd.F (Kd.int .u8) W' (TypB (w.heap.size + 7) W') x.2.1 x.2.2.2.length x.2.2.2) (Stp := fun A B => Below A.heap.size A B) (Kp := KpK K0) (S := fun xs => xs.map (fun x => (x.1, x.2.2.2)) = dAllL s) (Sp := fun xs => xs.map (fun x => (x.1, x.2.2.2)) <+: dAllL s)
  rfl (by omega) rfl trivial (fun args w => Hand.run_enter Try.func39 (by kernel_rfl) rfl args w)
  (fun r => by
   have h := creellaw16_list.seq 9 (by decide) w ((w5.alloc (.deferred (some []))).alloc (.loop r)) (w.heap.size + 4) ap m s K0 HP.out HFT.out hm (fun k hk => ((hb7 r).block k (by omega)).trans (hb5.block k hk)) (by rw [hW7]; omega) (((hb7 r).cell (World.block_lt_of_cell? _ _ h54)).trans h54) (by rw [hK0]; exact .inr rfl) (fun k hk => by rw [hK0]; exact .inl hk)
   rwa [hW7] at h)
  (fun _ => rfl) (InvD w most) (fun _ _ _ => False) ?hIs (fun _ _ _ _ h _ => h) ?hIp (fun _ _ _ _ _ h _ => h) ?hGp ?hSk (fun h k => h.trans k) ?hKp ?h0
  (fun x a' A => (x.2.2.2.length ≤ x.2.2.1 ∧ Kd.F (Kd.int .u8) A (TypB (w.heap.size + 7) A) x.2.1 x.2.2.2.length x.2.2.2) ∧ a' = { tmps := #[.pointer ap, .int .i64 most, undef, .pointer (some ⟨w.heap.size, 0, none⟩), .pointer (some ⟨w.heap.size + 1, 0, none⟩), .pointer (some ⟨w.heap.size + 2, 0, none⟩), .pointer (some ⟨w.heap.size + 3, 0, none⟩), .func (.func 39) #[] #[.pointer (some ⟨w.heap.size + 4, 0, none⟩)], .int .i64 x.1, .slice x.2.1 x.2.2.2.length x.2.2.1, .pointer ap, .func (.func 39) #[] #[.pointer (some ⟨w.heap.size + 4, 0, none⟩)], .func (.func 39) #[] #[.pointer (some ⟨w.heap.size + 4, 0, none⟩)], .bool false, .func (.func 39) #[] #[.pointer (some ⟨w.heap.size + 4, 0, none⟩)], .int .i64 x.1, .slice x.2.1 x.2.2.2.length x.2.2.1, undef, undef, undef, undef, undef, undef, undef, undef, undef, undef, undef, undef, undef, undef, undef], defers := [] }) ?hAx ?hassign ?hbody ?hdone (fun _ _ _ _ h _ => h.elim)
 case hIs => intro s A B h hst; exact h.keep hst.size (fun k hlt hk => hst.block k hlt) hst.os hst.tape hst.output
 case hIp => intro s A r r' h hl; exact h.keep (by simp) (fun k hlt hk => World.putObj_heap_other (by omega)) rfl rfl rfl
 case hGp =>
  rintro x A r r' ⟨h1, h2⟩ hl
  exact ⟨h1, F_typ h2 (fun k hk _ => World.putObj_heap_other (by omega))⟩
 case hSk => intro A B hst hlt; exact ⟨hst.block _ (by omega), hst.block _ hlt⟩
 case hKp =>
  intro A r r' hl
  refine ⟨by simp, fun k hk hlt => World.putObj_heap_other ?_⟩
  rw [hK0] at hk
  omega
 case h0 =>
  intro r
  have lt : ∀ {k : Nat} {o : Obj}, w5.heap[k]? = some o → k < w5.heap.size := fun h => (Array.getElem?_eq_some_iff.1 h).1
  exact ⟨hb5.trans ((hb7 r).mono (by omega)), ((hb7 r).block _ (lt h50)).trans h50, ((hb7 r).block _ (lt h51)).trans h51, ((hb7 r).block _ (lt h52)).trans h52, _, ((hb7 r).block _ (lt h53)).trans h53, Kd.N_nil _ _ _ _ _⟩
 case hAx =>
  rintro x a' A r r' ⟨⟨h1, h2⟩, h4⟩ hl
  exact ⟨⟨h1, F_typ h2 (fun k hk _ => World.putObj_heap_other (by omega))⟩, h4⟩
 case hassign =>
  rintro lq pre x A K hlt hI hG hK
  gi_wp2_with fail
  exact hK _ _ ⟨rfl, rfl⟩ (KpK.refl _ _) hI ⟨hG, rfl⟩
 case hbody =>
  rintro lq pre ⟨xi, Ax, cx, x⟩ a' A hlt hI ⟨⟨hcx, hF⟩, rfl⟩ hsp
  obtain ⟨hxi, hpl, -⟩ := dAllL_at hsp
  dsimp only at hxi hcx hF
  subst hxi
  obtain ⟨hB, hb0, hb1, hb2, v, hb3, hN⟩ := hI
  have lt : ∀ {k : Nat} {o : Obj}, A.heap[k]? = some o → k < A.heap.size := fun h => (Array.getElem?_eq_some_iff.1 h).1
  obtain ⟨Av, cv, rfl⟩ := Kd.N_slice hN
  have hlm : (pre.map (·.2.2.2)).length = pre.length := List.length_map _
  have o3 : A.cell? ⟨w.heap.size + 3, 0, none⟩ = some (.slice Av (pre.map (·.2.2.2)).length cv) := cell_of_row _ _ _ _ _ _ hb3
  have o0 : A.cell? ⟨w.heap.size, 0, none⟩ = some (.int .i64 most) := cell_of_row _ _ _ _ _ _ hb0
  rw [hlm] at o3
  have d1 : ((pre.length : Int) != (pre.length : Int)) = false := by simp
  have d2 : decide (most < (pre.length : Int)) = false := decide_eq_false (by have := HMO.out; omega)
  have hokp : ∀ k, TypB (w.heap.size + 7) A k → w.heap.size + 7 ≤ k ∧ some k ≠ (Value.slice Av pre.length cv).ownBlock := fun k ⟨h1, C, fr, h2⟩ => ⟨h1, fun e => by
   rw [← hlm] at e
   obtain ⟨C2, fr2, h3⟩ := N_typed8 hN e.symm
   rw [h2] at h3
   simp at h3⟩
  have HFK := Aside0.mk (Kd.FK_slice_mk (e := 5) hcx hF)
  have hN0 := hN
  rw [hlm] at hN
  have HN := Aside0.mk hN
  have HOK := Aside0.mk hokp
  have HB0 := Aside0.mk hb0
  have HB3 := Aside0.mk hb3
  have HPL := Aside0.mk hpl
  clear hN hN0 hokp hF hb0 hb3 hpl hsp
  gi_wp2_with (refine Hand.stop_list (o := { dst := some 30, op := _, type := _, pos := _, after := _, guard := _ }) ?_)
  refine ⟨?_⟩
  refine Hand.listIn_round (fun c h => by cases h) ?_
  refine Kd.N_append_step (Kd.slice 5 (Kd.int .u8)) (w0 := A) (w.heap.size + 7) (by rfl) (.tmp 27) (.tmp 29) 22 26 (.slice none 0 0) 24 (by rfl) Try.underlying22 info26 rfl (by decide) (by decide) (.slice Av pre.length cv) (pre.map (·.2.2.2)) x [.slice Ax x.length cx] (fun k => w.heap.size + 7 ≤ k) _ (by rfl) (by rfl) HFK.out HOK.out (fun k hk => by have := lt HB3.out; omega) HN.out (Below.refl _ _) (by omega) (by rw [hlm]; have := HSM.out; have := HPL.out; omega) ?_
  intro v1 w1 hN1 hB1 hg1 hob1
  obtain ⟨Au, cu, rfl⟩ := Kd.N_slice hN1
  obtain ⟨mm, hmm⟩ : ∃ m, (pre.map (·.2.2.2) ++ [x]).length = m := ⟨_, rfl⟩
  rw [hmm] at hN1 hob1 ⊢
  have hv3 := (hB1.block (w.heap.size + 3) (by omega)).trans HB3.out
  have o1 : w1.cell? ⟨w.heap.size + 3, 0, none⟩ = some (.slice Av (pre.map (·.2.2.2)).length cv) := cell_of_row _ _ _ _ _ _ hv3
  have of1 : w1.frozen? ⟨w.heap.size + 3, 0, none⟩ = false := by simp [World.frozen?, hv3]
  have HN1 := Aside0.mk hN1
  have HV3 := Aside0.mk hv3
  have hsz1 := hB1.size
  clear hN1 hv3 hob1 o0 o3
  simp only [Act.put]
  gi_wp2_with fail
  have hof : ∀ k, (Value.slice Av pre.length cv).ownBlock = some k → w.heap.size + 7 ≤ k := HN.out.1
  have hkp : ∀ k, k < A.heap.size → k < w.heap.size + 7 → k ≠ w.heap.size + 3 → (w1.setCell ⟨w.heap.size + 3, 0, none⟩ (.slice Au mm cu)).heap[k]? = A.heap[k]? := fun k hlt h1 h2 =>
   (Below.heap_setCell w1 ⟨w.heap.size + 3, 0, none⟩ _ k h2).trans (hg1.block k hlt (fun e => by have := hof k e.symm; omega))
  have hBw := hB.trans (hB1.mono (by omega))
  have l0 := lt HB0.out
  have l1 := lt hb1
  have l2 := lt hb2
  refine ⟨⟨hkp _ (by omega) (by omega) (by omega), hkp _ hlt (by omega) (by omega)⟩, ⟨by simpa using hsz1, fun k hk hlt => ?_⟩, ⟨hBw.os, hBw.tape, hBw.output, by simpa using hBw.size, fun k hk => (Below.heap_setCell w1 ⟨w.heap.size + 3, 0, none⟩ _ k (by show k ≠ w.heap.size + 3; omega)).trans (hBw.block k hk)⟩, ?_, ?_, ?_, _, heap_setCell_same _ _ _ _ _ _ HV3.out, ?_⟩
  ·rw [hK0] at hk
   exact hkp k hlt (by omega) (by omega)
  ·exact (hkp _ l0 (by omega) (by omega)).trans HB0.out
  ·exact (hkp _ l1 (by omega) (by omega)).trans hb1
  ·exact (hkp _ l2 (by omega) (by omega)).trans hb2
  ·rw [List.map_append]
   exact Kd.N_far HN1.out (fun k hk => by show k ≠ w.heap.size + 3; omega) _
 case hdone =>
  rintro xs A hS ⟨hB, hb0, hb1, hb2, v, hb3, hN⟩ hK
  have hX : xs.map (·.2.2.2) = dLabels s := by
   rw [← dAllL_snd, ← hS, List.map_map]; rfl
  rw [hX] at hN
  obtain ⟨Av, cv, rfl⟩ := Kd.N_slice hN
  obtain ⟨mm, hmm⟩ : ∃ m, (dLabels s).length = m := ⟨_, rfl⟩
  rw [hmm] at hN hb3
  have o0 : A.cell? ⟨w.heap.size + 3, 0, none⟩ = some (.slice Av mm cv) := cell_of_row _ _ _ _ _ _ hb3
  have o1 : A.cell? ⟨w.heap.size + 1, 0, none⟩ = some (.slice none 0 0) := cell_of_row _ _ _ _ _ _ hb1
  have o2 : A.cell? ⟨w.heap.size + 2, 0, none⟩ = some (.bool false) := cell_of_row _ _ _ _ _ _ hb2
  have of1 : A.frozen? ⟨w.heap.size + 1, 0, none⟩ = false := by simp [World.frozen?, hb1]
  have of2 : A.frozen? ⟨w.heap.size + 2, 0, none⟩ = false := by simp [World.frozen?, hb2]
  have HNN := Aside0.mk hN
  have HBB := Aside0.mk hB
  have HKK := Aside0.mk hK
  clear hN hB hS hX hmm
  gi_wp2_with fail
  obtain ⟨B, hBe⟩ : ∃ B, ((A.setCell ⟨w.heap.size + 1, 0, none⟩ (.slice Av mm cv)).setCell ⟨w.heap.size + 2, 0, none⟩ (.bool true)) = B := ⟨_, rfl⟩
  rw [hBe]
  have hoth : ∀ k, k ≠ w.heap.size + 1 → k ≠ w.heap.size + 2 → B.heap[k]? = A.heap[k]? := fun k h1 h2 => by
   rw [← hBe]
   exact (Below.heap_setCell _ _ _ k h2).trans (Below.heap_setCell _ _ _ k h1)
  have g1 : B.heap[w.heap.size + 1]? = some (.cells #[.slice Av mm cv] 22) := by
   rw [← hBe]
   exact (Below.heap_setCell _ ⟨w.heap.size + 2, 0, none⟩ _ _ (by show w.heap.size + 1 ≠ w.heap.size + 2; omega)).trans (heap_setCell_same _ _ _ _ _ _ hb1)
  have g2 : B.heap[w.heap.size + 2]? = some (.cells #[.bool true] 4) := by
   rw [← hBe]
   exact heap_setCell_same _ _ _ _ _ _ ((Below.heap_setCell _ ⟨w.heap.size + 1, 0, none⟩ _ _ (by show w.heap.size + 2 ≠ w.heap.size + 1; omega)).trans hb2)
  have hrest : B.os = A.os ∧ B.tape = A.tape ∧ B.output = A.output ∧ B.heap.size = A.heap.size := by
   rw [← hBe]
   exact ⟨rfl, rfl, rfl, by simp⟩
  have hKB := (hoth w5.heap.size (by omega) (by omega)).trans HKK.out
  refine ⟨by simp, .inl ⟨_, _, rfl, run_takeDeferred hKB, ?_⟩⟩
  obtain ⟨C, hCe⟩ : ∃ C, B.putObj w5.heap.size (.deferred none) = C := ⟨_, rfl⟩
  rw [hCe]
  have hc : ∀ k, k ≠ w5.heap.size → C.heap[k]? = B.heap[k]? := fun k hk => by rw [← hCe]; exact World.putObj_heap_other hk
  have c1 : C.cell? ⟨w.heap.size + 1, 0, none⟩ = some (.slice Av mm cv) := cell_of_row _ _ _ _ _ _ ((hc _ (by omega)).trans g1)
  have c2 : C.cell? ⟨w.heap.size + 2, 0, none⟩ = some (.bool true) := cell_of_row _ _ _ _ _ _ ((hc _ (by omega)).trans g2)
  have hCB : C.os = B.os ∧ C.tape = B.tape ∧ C.output = B.output ∧ C.heap.size = B.heap.size := by rw [← hCe]; exact ⟨rfl, rfl, rfl, by simp⟩
  refine ⟨.tuple #[.slice Av mm cv, .bool true], ?_, _, rfl, ?_, ?_⟩
  ·simp [results, Try.f17, go_sem, c1, c2]
  ·refine Kd.N_mono (Kd.N_lower (Kd.N_step HNN.out (fun k hk hlt => ?_)) (by omega)) (fun k hk => by omega)
   exact (hc k (by omega)).trans (hoth k (by omega) (by omega))
  ·exact ⟨hCB.1.trans (hrest.1.trans HBB.out.os), hCB.2.1.trans (hrest.2.1.trans HBB.out.tape), hCB.2.2.1.trans (hrest.2.2.1.trans HBB.out.output), by rw [hCB.2.2.2, hrest.2.2.2]; exact HBB.out.size, fun k hk => (hc k (by omega)).trans ((hoth k (by omega) (by omega)).trans (HBB.out.block k hk))⟩

/-! ### dict_Dict_Label: function 20 -/

/-! ### creellaw16_DictNil: function 7 -/
/-! ### creellaw16_few: function 10 -/
/-! ### creelref14_Sorted: function 24 -/
end Go.Proofs.Ytaiechbdcddalaa.Print
