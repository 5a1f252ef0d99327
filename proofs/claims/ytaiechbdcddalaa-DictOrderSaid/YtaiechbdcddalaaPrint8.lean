/- Words of the print, of which only those stand here that this claim names. -/
-- Written by a program of this session (wip/cprint.py), which calls the kit's print and adds contracts proved by hand.
import Derived.Test.YtaiechbdcddalaaPrint0
import Derived.Test.YtaiechbdcddalaaPrint1
import Derived.Test.YtaiechbdcddalaaPrint7
namespace Go.Proofs.Ytaiechbdcddalaa.Print
open Go.RowKit Go.Proofs.YtaiechbdcddalaaW.PrintWords Go.Proofs.YtaiechbdcddalaaW.PrintLast Go.Proofs.YtaiechbdcddalaaW.PrintMore
attribute [local go_sem] max2_int min2_int max_two min_two max_three min_three max_four min_four   -- for this text's walks alone
set_option linter.unusedVariables false
set_option linter.unusedSimpArgs false

/-! ### creellaw16_list: function 17 -/
theorem getD_mem_ {α : Type} (d : α) {l : List α} {i : Nat} (h : i < l.length) : l.getD i d ∈ l := by
 simp [List.getD_eq_getElem?_getD, List.getElem?_eq_getElem h]
set_option maxHeartbeats 4000000 in
set_option maxRecDepth 100000 in
theorem dict_Dict_Label.calls (p : Value) (m : Nat) (s : Option Dct) (id : Int) (w : World) (h : DPtr w p m s) (hf : DFit s) (hm : m ≤ w.heap.size) :
  Calls Try.prog 20 #[p, .int .i64 id] w fun e w' => ∃ v, e = .returned (.tuple #[v, .bool (decide (0 ≤ id ∧ id < dN s))]) ∧ (Kd.int .u8).R 5 w' w.heap.size (fun _ => True) v (if 0 ≤ id ∧ id < dN s then dAt s id else []) ∧ Below w.heap.size w w' := by
 have hdn := hf.small
 have HP := Aside0.mk h
 have HFT := Aside0.mk hf
 obtain ⟨n, hn⟩ : ∃ n, dN s = n := ⟨_, rfl⟩
 by_cases hin : 0 ≤ id ∧ id < dN s
 ·rw [if_pos hin, decide_eq_true hin]
  have d1 : decide (id < 0) = false := decide_eq_false (by omega)
  have d2 : decide ((n : Int) ≤ id) = false := decide_eq_false (by omega)
  cases s with
  | none => exact absurd hin (by simp [dN])
  | some B =>
   obtain ⟨q, rfl, -, v, hq, hN⟩ := h
   obtain ⟨Aq, cq, rfl⟩ := Kd.N_slice hN
   have o0 : w.cell? ⟨q, 0, none⟩ = some (.slice Aq B.length cq) := cell_of_row _ _ _ _ _ _ hq
   obtain ⟨hBl, hfit, hsh⟩ := hf
   obtain ⟨i, rfl⟩ : ∃ i : Nat, id = (i : Int) := ⟨id.toNat, by omega⟩
   obtain ⟨hi1, hi2, hi3⟩ := hfit.at_ (id := i) (by have := hin.2; show i < B.flatten.length; exact Int.ofNat_lt.mp this)
   obtain ⟨ad, A1, c1, rfl, hcell, hF⟩ := N_block hN hi1
   obtain ⟨ad1, A2, c2, rfl, hcell2, hc2, hF2⟩ := Hand.F_row_at hF (i % 16) hi2
   have hxl : ((B.getD (i / 16) []).getD (i % 16) []).length ≤ 1000 := hsh _ (getD_mem_ _ hi1) _ (getD_mem_ _ hi2)
   have HX : Aside0 ((B.getD (i / 16) []).getD (i % 16) [] = dAt (some B) i) := ⟨by rw [hi3]; rfl⟩
   obtain ⟨x, hx⟩ : ∃ x, (B.getD (i / 16) []).getD (i % 16) [] = x := ⟨_, rfl⟩
   rw [hx] at hcell2 hc2 hF2 hxl HX
   obtain ⟨bl, hbl⟩ : ∃ l, (B.getD (i / 16) []) = l := ⟨_, rfl⟩
   rw [hbl] at hcell hi2
   have HCX := Aside0.mk (Kd.F_now hF2)
   have HCC := Aside0.mk hc2
   have HCLF : Aside0 (slices_Clone_byte_byte.f x = some x) := ⟨by unfold slices_Clone_byte_byte.f; simp only [Option.bind_some]; rw [if_pos (by simp; omega), List.nil_append]⟩
   have q5 : (i : Int) < 16000000 := by omega
   obtain ⟨a, ha⟩ : ∃ a, i / 16 = a := ⟨_, rfl⟩
   obtain ⟨b, hb⟩ : ∃ b, i % 16 = b := ⟨_, rfl⟩
   have q1 : ((i : Int).tdiv 16) = (a : Int) := by rw [Int.tdiv_eq_ediv_of_nonneg (by omega)]; omega
   have q2 : ((i : Int).tmod 16) = (b : Int) := by rw [Int.tmod_eq_emod_of_nonneg (by omega)]; omega
   rw [ha] at hcell hi1
   rw [hb] at hcell2 hi2
   have p2 : (a : Int) < (B.length : Int) := by omega
   have p5 : (b : Int) < (bl.length : Int) := by omega
   have p6 : (a : Int) ≤ 1000000 := by omega
   clear ha hb q5
   clear hq hN hF hF2 hc2 hi3 hx hbl hfit hsh hi1 hi2
   have HN := Aside0.mk hn
   rw [hn] at hin hdn
   clear hn
   go_enter Try.func20, Try.ntmps20
   go_wp2_with (first | (go_at_call 22; (with_reducible refine (dict_Dict_Len.calls _ m (some B) _ HP.out HFT.out).mono ?_); rintro e w1 ⟨rfl, hw_⟩; subst w1; rw [HN.out]) | (go_at_call 38; (with_reducible refine (slices_Clone_byte_byte.calls A2 c2 x x _ HCX.out HCC.out HCLF.out).mono ?_); rintro e w2 ⟨v3, rfl, ho, hb⟩; obtain ⟨A3, c3, rfl⟩ := Kd.R_slice ho; have HO := Aside0.mk ho; have HB := Aside0.mk hb; clear ho hb))
   go_ret2
   exact ⟨_, rfl, by rw [← HX.out]; exact HO.out, HB.out⟩
 ·rw [if_neg hin, decide_eq_false hin]
  by_cases hneg : id < 0
  ·have d1 : decide (id < 0) = true := decide_eq_true hneg
   go_enter Try.func20, Try.ntmps20
   go_wp2
   go_ret2
   exact ⟨_, rfl, Kd.R_nil _ _ _ _ _, Below.refl _ _⟩
  ·have d1 : decide (id < 0) = false := decide_eq_false hneg
   have d2 : decide ((n : Int) ≤ id) = true := decide_eq_true (by omega)
   have HN := Aside0.mk hn
   clear hdn hn hin
   go_enter Try.func20, Try.ntmps20
   go_wp2_with (first | (go_at_call 22; (with_reducible refine (dict_Dict_Len.calls _ m s _ HP.out HFT.out).mono ?_); rintro e w1 ⟨rfl, hw_⟩; subst w1; rw [HN.out]))
   go_ret2
   exact ⟨_, rfl, Kd.R_nil _ _ _ _ _, Below.refl _ _⟩
def TypB (M : Nat) (W : World) (k : Nat) : Prop := M ≤ k ∧ ∃ C fr, W.heap[k]? = some (.cells C 5 fr)
theorem R_typ {W : World} {base M : Nat} {ok : Nat → Prop} {v : Value} {xs : List Int} (h : Kd.R (Kd.int .u8) 5 W base ok v xs) (hM : M ≤ base) :
  ∃ A c, v = .slice A xs.length c ∧ xs.length ≤ c ∧ Kd.F (Kd.int .u8) W (TypB M W) A xs.length xs := by
 have h1 := Kd.R_mono (ok' := TypB M W) (Kd.R_bound h) (fun k hk => by
  obtain ⟨_, hb, _, q, hq, C, hC⟩ := hk
  have hq' : q = 5 := by
   rcases List.mem_cons.1 hq with h | h
   ·exact h
   ·exact absurd h (List.not_mem_nil)
  subst hq'
  exact ⟨Nat.le_trans hM hb, C, _, hC⟩)
 obtain ⟨A, c, rfl⟩ := Kd.R_slice h1
 obtain ⟨_, hc, _⟩ := Kd.R_reads' h1
 exact ⟨A, c, rfl, hc, Kd.R_F h1⟩
theorem TypB.keep {M : Nat} {A B : World} (hb : ∀ k, M ≤ k → (∃ C fr, A.heap[k]? = some (.cells C 5 fr)) → B.heap[k]? = A.heap[k]?) {k : Nat} (h : TypB M A k) : TypB M B k := by
 obtain ⟨h1, C, fr, h2⟩ := h
 exact ⟨h1, C, fr, (hb k h1 ⟨C, fr, h2⟩).trans h2⟩
theorem F_typ {M : Nat} {A B : World} {ad : Option Addr} {n : Nat} {xs : List Int} (h : Kd.F (Kd.int .u8) A (TypB M A) ad n xs) (hb : ∀ k, M ≤ k → (∃ C fr, A.heap[k]? = some (.cells C 5 fr)) → B.heap[k]? = A.heap[k]?) : Kd.F (Kd.int .u8) B (TypB M B) ad n xs :=
 Kd.F_mono (Kd.F_step h (fun k hk _ => hb k hk.1 hk.2)) (fun _ hk => TypB.keep hb hk)
theorem N_typed8 {d : Kd (List Int)} {e base : Nat} {ok : Nat → Prop} {W : World} {v : Value} {xs : List (List Int)} (h : Kd.N d e W base ok v xs) {k : Nat} (hk : v.ownBlock = some k) : ∃ C fr, W.heap[k]? = some (.cells C e fr) := by
 obtain ⟨C, h⟩ := Kd.N_typed h k hk
 exact ⟨C, _, h⟩
/-- A Dict stands as long as the blocks that were there do. -/
theorem DPtr.keep {W W' : World} {p : Value} {m : Nat} {s : Option Dct} (h : DPtr W p m s) (hk : ∀ k, k < W.heap.size → W'.heap[k]? = W.heap[k]?) : DPtr W' p m s := by
 cases s with
 | none => exact h
 | some B =>
  obtain ⟨q, h0, h1, v, h2, h3⟩ := h
  exact ⟨q, h0, h1, v, (hk _ (Array.getElem?_eq_some_iff.1 h2).1).trans h2, Kd.N_step h3 (fun k _ hlt => hk k hlt)⟩
/-- All labels with their numbers. -/
def dAllL (s : Option Dct) : List (Nat × List Int) := (List.range (dN s)).map fun i : Nat => (i, dAt s i)
theorem dAllL_len (s : Option Dct) : (dAllL s).length = dN s := by simp [dAllL]
theorem dAllL_take (s : Option Dct) {i : Nat} (h : i < dN s) : (dAllL s).take (i + 1) = (dAllL s).take i ++ [(i, dAt s i)] := by
 rw [List.take_succ_eq_append_getElem (by rw [dAllL_len]; exact h)]
 simp [dAllL]
theorem dAllL_at {s : Option Dct} {pre : List (Nat × Option Addr × Nat × List Int)} {x : Nat × Option Addr × Nat × List Int} (h : (pre ++ [x]).map (fun x => (x.1, x.2.2.2)) <+: dAllL s) : x.1 = pre.length ∧ pre.length < dN s ∧ x.2.2.2 = dAt s pre.length := by
 obtain ⟨ys, hy⟩ := h
 have hlen : pre.length < dN s := by
  have := congrArg List.length hy
  rw [dAllL_len] at this
  simp only [List.length_append, List.length_map, List.length_singleton] at this
  omega
 have hg : (dAllL s)[pre.length]? = some (x.1, x.2.2.2) := by
  rw [← hy]
  simp
 rw [dAllL, List.getElem?_map, List.getElem?_range hlen] at hg
 simp only [Option.map_some, Option.some.injEq, Prod.mk.injEq] at hg
 exact ⟨hg.1.symm, hlen, hg.2.symm⟩
set_option maxHeartbeats 4000000 in
theorem creellaw16_list.all (ap : Option Addr) (w : World) :
  Calls Try.prog 23 #[.pointer ap] w fun e w' => e = .returned (.func (.func 39) #[] #[.pointer (some ⟨w.heap.size, 0, none⟩)]) ∧ w' = w.alloc (.cells #[.pointer ap] 34) := by
 go_enter Try.func23, Try.ntmps23
 go_wp2
 go_ret
 exact ⟨rfl, rfl⟩
attribute [local go_sem] Oper.semAt_some in
set_option maxHeartbeats 8000000 in
set_option maxRecDepth 100000 in
theorem creellaw16_list.seq (n : Nat) (hn : 6 ≤ n) (W0 W : World) (Bb : Nat) (ap : Option Addr) (m : Nat) (s : Option Dct) (K0 : Nat → Prop)
  (hp : DPtr W0 (.pointer ap) m s) (hf : DFit s) (hm : m ≤ W0.heap.size) (hag : ∀ k, k < W0.heap.size → W.heap[k]? = W0.heap[k]?) (hle : W0.heap.size ≤ W.heap.size) (hb : W.cell? ⟨Bb, 0, none⟩ = some (.pointer ap)) (hKb : K0 Bb) (hK : ∀ k, k < W0.heap.size → K0 k) :
  Hand.SeqC Fence.wide n Try.prog 39 #[.pointer (some ⟨Bb, 0, none⟩)] (fun x : Nat × Option Addr × Nat × List Int => #[.int .i64 x.1, .slice x.2.1 x.2.2.2.length x.2.2.1])
   (fun x W' => x.2.2.2.length ≤ x.2.2.1 ∧ Kd.F (Kd.int .u8) W' (TypB W.heap.size W') x.2.1 x.2.2.2.length x.2.2.2)
   (fun A B => Below A.heap.size A B) (KpK K0) (fun xs => xs.map (fun x => (x.1, x.2.2.2)) = dAllL s) (fun xs => xs.map (fun x => (x.1, x.2.2.2)) <+: dAllL s) W := by
 intro l J Jx hJ hJx hY h0
 have hdn := hf.small
 obtain ⟨t, ht⟩ : ∃ t, dN s = t := ⟨_, rfl⟩
 rw [ht] at hdn
 have HP := Aside0.mk hp
 have HFT := Aside0.mk hf
 have HT := Aside0.mk ht
 have HAG := Aside0.mk hag
 have HK := Aside0.mk hK
 have HDN := Aside0.mk hdn
 clear hp hf ht hag hK hdn
 refine callsIn_of_wp_marks Try.func39 rfl trivial ?_ rfl
 simp only [Try.ntmps39, List.size_toArray, List.length_cons, List.length_nil, Nat.reduceAdd, Nat.reduceSub, Array.replicate_succ, Array.replicate_zero, List.push_toArray, List.append_toArray, List.nil_append, List.cons_append]
 gi_wp2_with fail
 refine ⟨trivial, fun _ => by omega, ?_⟩
 refine (callsIn_wide.2 (dict_Dict_Len.calls (.pointer ap) m s W (HP.out.keep HAG.out) HFT.out)).mono ?_
 rintro e w1 ⟨rfl, hw_⟩
 subst w1
 rw [HT.out]
 gi_wp2_with fail
 gi_loopw [8] (fun v wr => ∃ (i : Nat) (pre : List (Nat × Option Addr × Nat × List Int)), v = .int .i64 i ∧ i ≤ t ∧ Aside0 (pre.map (fun x => (x.1, x.2.2.2)) = (dAllL s).take i) ∧ J pre wr ∧ Aside0 (KpK K0 W wr)) (fun v _ => t - (intOf v).toNat)
 case atStart => exact ⟨0, [], rfl, Nat.zero_le _, ⟨rfl⟩, h0, ⟨KpK.refl _ _⟩⟩
 case round =>
  obtain ⟨i, pre, rfl, hi, HE, hJs, HKW⟩ := hrel
  have hsr := HKW.out.cell (a := ⟨Bb, 0, none⟩) hKb hb
  by_cases hlt : i < t
  ·have d1 : decide ((i : Int) < (t : Int)) = true := decide_eq_true (by omega)
   have d1n : decide (i < t) = true := decide_eq_true hlt
   have hin : (0 : Int) ≤ (i : Int) ∧ (i : Int) < (dN s : Int) := ⟨by omega, by have := HT.out; omega⟩
   gi_wp2_with fail
   refine ⟨trivial, fun _ => by omega, ?_⟩
   have hpw : DPtr wr (.pointer ap) m s := HP.out.keep (fun k hk => (HKW.out.2 k (HK.out k hk) (by omega)).trans (HAG.out k hk))
   have hsz := HKW.out.1
   refine (callsIn_wide.2 (dict_Dict_Label.calls (.pointer ap) m s i wr hpw HFT.out (by omega))).mono ?_
   rintro e w2 ⟨v, rfl, hv, hb2⟩
   rw [if_pos hin] at hv
   rw [decide_eq_true hin]
   obtain ⟨Ax, cx, rfl, hcx, hF⟩ := R_typ (M := W.heap.size) hv hsz
   obtain ⟨y, hy⟩ : ∃ y, dAt s (i : Int) = y := ⟨_, rfl⟩
   rw [hy] at hcx hF hv ⊢
   have hpre : (pre ++ [(i, Ax, cx, y)]).map (fun x => (x.1, x.2.2.2)) = (dAllL s).take (i + 1) := by
    rw [List.map_append, HE.out, dAllL_take s (by have := HT.out; omega), hy]
    rfl
   have HPRE := Aside0.mk hpre
   have hJ2 := hJ _ _ _ hJs hb2
   have hbe := hb2.cell (World.block_lt_of_cell? _ _ hsr) |>.trans hsr
   obtain ⟨yf, ytmps, yassign, ybody, hyy, hR⟩ := hY pre (i, Ax, cx, y) w2 hJ2 ⟨hcx, hF⟩ (by rw [hpre]; exact List.take_prefix _ _)
   have hyy' : (Instr.yield l #[.int .i64 (i : Int), .slice Ax y.length cx]).run Try.prog w2 = .ok (.round l yf ytmps yassign ybody) w2 := hyy
   have HKB := Aside0.mk (HKW.out.trans ⟨hb2.size, fun k _ hk => hb2.block k hk⟩)
   clear hv hpw hy hpre hF hin
   gi_wp2_with fail
   refine ⟨fun _ => by omega, ?_⟩
   refine (Hand.roundIn_wide hR).mono ?_
   rintro e wf (⟨rfl, hJf, hkf⟩ | ⟨rfl, hJf, hkf⟩)
   ·gi_wp2_with fail
    have e4 : wrap64 ((i : Int) + 1) = ((i + 1 : Nat) : Int) := by rw [w64_ok _ (by have := HDN.out; omega)]; omega
    rw [e4]
    clear e4
    exact ⟨⟨i + 1, pre ++ [(i, Ax, cx, y)], rfl, by omega, HPRE, hJf, ⟨HKB.out.trans hkf⟩⟩, by simp [intOf]; omega⟩
   ·gi_wp2_with fail
    exact ⟨_, results_none rfl _ _ _, ⟨_, rfl⟩, .inr ⟨_, by rw [HPRE.out]; exact List.take_prefix _ _, hJf⟩⟩
  ·have d1 : decide ((i : Int) < (t : Int)) = false := decide_eq_false (by omega)
   have d1n : decide (i < t) = false := decide_eq_false hlt
   gi_wp2_with fail
   obtain rfl : i = t := by omega
   exact ⟨_, results_none rfl _ _ _, ⟨_, rfl⟩, .inl ⟨pre, by rw [HE.out, List.take_of_length_le (by rw [dAllL_len, HT.out]; exact Nat.le_refl _)], hJs⟩⟩
/-- All labels. -/
def dLabels : Option Dct → List (List Int)
 | none => []
 | some B => B.flatten
theorem dAllL_snd (s : Option Dct) : (dAllL s).map (·.2) = dLabels s := by
 cases s with
 | none => rfl
 | some B =>
  refine List.ext_getElem (by simp [dAllL, dLabels, dN]) (fun i h1 h2 => ?_)
  have h2 : i < B.flatten.length := h2
  simp only [dAllL, List.getElem_map, List.getElem_range]
  show B.flatten.getD (i : Int).toNat [] = B.flatten[i]
  rw [Int.toNat_natCast, List.getD_eq_getElem?_getD, List.getElem?_eq_getElem h2]
  rfl
/-- Between two labels: what came stands in the box of 'out'. -/
def InvD (w : World) (most : Int) (pre : List (Nat × Option Addr × Nat × List Int)) (A : World) : Prop :=
 Below w.heap.size w A ∧ A.heap[w.heap.size]? = some (.cells #[.int .i64 most] 3) ∧ A.heap[w.heap.size + 1]? = some (.cells #[.slice none 0 0] 22) ∧ A.heap[w.heap.size + 2]? = some (.cells #[.bool false] 4) ∧
  ∃ v, A.heap[w.heap.size + 3]? = some (.cells #[v] 22) ∧ Kd.N (Kd.slice 5 (Kd.int .u8)) 26 A (w.heap.size + 7) (fun k => w.heap.size + 7 ≤ k) v (pre.map (·.2.2.2))
theorem InvD.keep {w : World} {most : Int} {pre : List (Nat × Option Addr × Nat × List Int)} {A B : World} (h : InvD w most pre A) (hs : A.heap.size ≤ B.heap.size) (hk : ∀ k, k < A.heap.size → (k < w.heap.size + 5 ∨ w.heap.size + 7 ≤ k) → B.heap[k]? = A.heap[k]?)
  (ho : B.os = A.os) (ht : B.tape = A.tape) (hu : B.output = A.output) : InvD w most pre B := by
 obtain ⟨hB, h0, h1, h2, v, h3, hN⟩ := h
 have lt : ∀ {k : Nat} {o : Obj}, A.heap[k]? = some o → k < A.heap.size := fun h => (Array.getElem?_eq_some_iff.1 h).1
 have hsz := hB.size
 exact ⟨⟨ho.trans hB.os, ht.trans hB.tape, hu.trans hB.output, Nat.le_trans hB.size hs, fun k hlt => (hk k (by omega) (.inl (by omega))).trans (hB.block k hlt)⟩,
  (hk _ (lt h0) (.inl (by omega))).trans h0, (hk _ (lt h1) (.inl (by omega))).trans h1, (hk _ (lt h2) (.inl (by omega))).trans h2, v, (hk _ (lt h3) (.inl (by omega))).trans h3, Kd.N_step hN (fun k hk' hlt => hk k hlt (.inr hk'))⟩
attribute [local go_sem] Oper.semAt_some in
set_option maxHeartbeats 8000000 in
set_option maxRecDepth 100000 in
theorem creellaw16_list.calls (p : Value) (m : Nat) (s : Option Dct) (most : Int) (w : World) (h : DPtr w p m s) (hf : DFit s) (hm : m ≤ w.heap.size) (hmo : (dN s : Int) ≤ most + 1) :
  Calls Try.prog 17 #[p, .int .i64 most] w fun e w' => ∃ v0_ : Value, e = .returned (.tuple #[v0_, .bool true]) ∧ Kd.N (Kd.slice 5 (Kd.int .u8)) 26 w' w.heap.size (fun k_ => w.heap.size ≤ k_) v0_ (dLabels s) ∧ Below w.heap.size w w' := by
 obtain ⟨ap, rfl⟩ : ∃ ap, p = .pointer ap := by
  cases s with
  | none => exact ⟨none, h⟩
  | some B => obtain ⟨q, rfl, _⟩ := h; exact ⟨_, rfl⟩
 have HP := Aside0.mk h
 have HFT := Aside0.mk hf
 have HMO := Aside0.mk hmo
 have HSM := Aside0.mk hf.small
 clear h hf hmo
 refine (callsIn_wide (n := 10)).1 ?_
 refine callsIn_of_wp_marks Try.func17 rfl trivial ?_ rfl
 simp only [Try.ntmps17, List.size_toArray, List.length_cons, List.length_nil, Nat.reduceAdd, Nat.reduceSub, Array.replicate_succ, Array.replicate_zero, List.push_toArray, List.append_toArray, List.nil_append, List.cons_append]
 gi_wp2_with fail
 refine ⟨trivial, ?_⟩
 refine (callsIn_wide.2 (creellaw16_list.all ap _)).mono ?_
 rintro e w' ⟨rfl, rfl⟩
 have hnf : ∀ (b : Nat) (W : World), (binOp BinOp.eql 53 (.func (.func 39) #[] #[.pointer (some ⟨b, 0, none⟩)]) .nilFunc).run Try.prog W = .ok (.bool false) W := fun _ _ => by kernel_rfl
 gi_wp2_with fail
 simp only [World.size_alloc, Nat.add_assoc, Nat.reduceAdd]
 obtain ⟨w5, hw5⟩ : ∃ w5, (((((w.alloc (Obj.cells #[Value.int .i64 most] 3)).alloc (Obj.cells #[Value.slice none 0 0] 22)).alloc (Obj.cells #[Value.bool false] 4)).alloc (Obj.cells #[Value.slice none 0 0] 22)).alloc (Obj.cells #[Value.pointer ap] 34)) = w5 := ⟨_, rfl⟩
 rw [hw5]
 have hs5 : w5.heap.size = w.heap.size + 5 := by rw [← hw5]; simp
 have hb5 : Below w.heap.size w w5 := by rw [← hw5]; exact (((((Below.refl _ _).alloc (Nat.le_refl _) _).alloc (by simp) _).alloc (by simp <;> omega) _).alloc (by simp <;> omega) _).alloc (by simp <;> omega) _
 have h50 : w5.heap[w.heap.size]? = some (.cells #[.int .i64 most] 3) := by
  rw [← hw5]
  exact (Below.heap_alloc _ _ _ (by simp <;> omega)).trans ((Below.heap_alloc _ _ _ (by simp <;> omega)).trans ((Below.heap_alloc _ _ _ (by simp <;> omega)).trans ((Below.heap_alloc _ _ _ (by simp)).trans (heap_alloc_new _ _))))
 have h51 : w5.heap[w.heap.size + 1]? = some (.cells #[.slice none 0 0] 22) := by
  have h := heap_alloc_new (w.alloc (Obj.cells #[Value.int .i64 most] 3)) (Obj.cells #[Value.slice none 0 0] 22)
  rw [World.size_alloc] at h
  rw [← hw5]
  exact (Below.heap_alloc _ _ _ (by simp <;> omega)).trans ((Below.heap_alloc _ _ _ (by simp <;> omega)).trans ((Below.heap_alloc _ _ _ (by simp)).trans h))
 have h52 : w5.heap[w.heap.size + 2]? = some (.cells #[.bool false] 4) := by
  have h := heap_alloc_new ((w.alloc (Obj.cells #[Value.int .i64 most] 3)).alloc (Obj.cells #[Value.slice none 0 0] 22)) (Obj.cells #[Value.bool false] 4)
  rw [World.size_alloc, World.size_alloc] at h
  rw [← hw5]
  exact (Below.heap_alloc _ _ _ (by simp <;> omega)).trans ((Below.heap_alloc _ _ _ (by simp)).trans h)
 have h53 : w5.heap[w.heap.size + 3]? = some (.cells #[.slice none 0 0] 22) := by
  have h := heap_alloc_new (((w.alloc (Obj.cells #[Value.int .i64 most] 3)).alloc (Obj.cells #[Value.slice none 0 0] 22)).alloc (Obj.cells #[Value.bool false] 4)) (Obj.cells #[Value.slice none 0 0] 22)
  rw [World.size_alloc, World.size_alloc, World.size_alloc] at h
  rw [← hw5]
  exact (Below.heap_alloc _ _ _ (by simp)).trans h
 have h54 : w5.cell? ⟨w.heap.size + 4, 0, none⟩ = some (.pointer ap) := by
  have h := heap_alloc_new ((((w.alloc (Obj.cells #[Value.int .i64 most] 3)).alloc (Obj.cells #[Value.slice none 0 0] 22)).alloc (Obj.cells #[Value.bool false] 4)).alloc (Obj.cells #[Value.slice none 0 0] 22)) (Obj.cells #[Value.pointer ap] 34)
  rw [World.size_alloc, World.size_alloc, World.size_alloc, World.size_alloc] at h
  rw [← hw5]
  exact cell_of_row _ _ _ _ _ _ h
 clear hw5
 obtain ⟨K0, hK0⟩ : ∃ K0 : Nat → Prop, K0 = fun k => k < w.heap.size ∨ k = w.heap.size + 4 := ⟨_, rfl⟩
 have hW7 : ∀ r : Loop, ((w5.alloc (.deferred (some []))).alloc (.loop r)).heap.size = w.heap.size + 7 := fun r => by simp [hs5]
 have hb7 : ∀ r : Loop, Below w5.heap.size w5 ((w5.alloc (.deferred (some []))).alloc (.loop r)) := fun r => ((Below.refl _ _).alloc (Nat.le_refl _) _).alloc (by simp) _
 refine Hand.rangeC (w := w5) (gf := 39) (lb := #[.pointer (some ⟨w.heap.size + 4, 0, none⟩)]) (encs := fun x : Nat × Option Addr × Nat × List Int => #[.int .i64 x.1, .slice x.2.1 x.2.2.2.length x.2.2.1]) (G := fun x W' => x.2.2.2.length ≤ x.2.2.1 ∧ Kd.F (Kd.int .u8) W' (TypB (w.heap.size + 7) W') x.2.1 x.2.2.2.length x.2.2.2) (Stp := fun A B => Below A.heap.size A B) (Kp := KpK K0) (S := fun xs => xs.map (fun x => (x.1, x.2.2.2)) = dAllL s) (Sp := fun xs => xs.map (fun x => (x.1, x.2.2.2)) <+: dAllL s)
  rfl (by omega) rfl trivial (fun args w => Hand.run_enter Try.func39 (by kernel_rfl) rfl args w)
  (fun r => by
   have h := creellaw16_list.seq 9 (by decide) w ((w5.alloc (.deferred (some []))).alloc (.loop r)) (w.heap.size + 4) ap m s K0 HP.out HFT.out hm (fun k hk => ((hb7 r).block k (by omega)).trans (hb5.block k hk)) (by rw [hW7]; omega) (((hb7 r).cell (World.block_lt_of_cell? _ _ h54)).trans h54) (by rw [hK0]; exact .inr rfl) (fun k hk => by rw [hK0]; exact .inl hk)
   rwa [hW7] at h)
  (fun _ => rfl) (InvD w most) (fun _ _ _ => False) ?hIs (fun _ _ _ _ h _ => h) ?hIp (fun _ _ _ _ _ h _ => h) ?hGp ?hSk (fun h k => h.trans k) ?hKp ?h0
  (fun x a' A => (x.2.2.2.length ≤ x.2.2.1 ∧ Kd.F (Kd.int .u8) A (TypB (w.heap.size + 7) A) x.2.1 x.2.2.2.length x.2.2.2) ∧ a' = { tmps := #[.pointer ap, .int .i64 most, undef, .pointer (some ⟨w.heap.size, 0, none⟩), .pointer (some ⟨w.heap.size + 1, 0, none⟩), .pointer (some ⟨w.heap.size + 2, 0, none⟩), .pointer (some ⟨w.heap.size + 3, 0, none⟩), .func (.func 39) #[] #[.pointer (some ⟨w.heap.size + 4, 0, none⟩)], .int .i64 x.1, .slice x.2.1 x.2.2.2.length x.2.2.1, .pointer ap, .func (.func 39) #[] #[.pointer (some ⟨w.heap.size + 4, 0, none⟩)], .func (.func 39) #[] #[.pointer (some ⟨w.heap.size + 4, 0, none⟩)], .bool false, .func (.func 39) #[] #[.pointer (some ⟨w.heap.size + 4, 0, none⟩)], .int .i64 x.1, .slice x.2.1 x.2.2.2.length x.2.2.1, undef, undef, undef, undef, undef, undef, undef, undef, undef, undef, undef, undef, undef, undef, undef], defers := [] }) ?hAx ?hassign ?hbody ?hdone (fun _ _ _ _ h _ => h.elim)
 case hIs => intro s A B h hst; exact h.keep hst.size (fun k hlt hk => hst.block k hlt) hst.os hst.tape hst.output
 case hIp => intro s A r r' h hl; exact h.keep (by simp) (fun k hlt hk => World.putObj_heap_other (by omega)) rfl rfl rfl
 case hGp =>
  rintro x A r r' ⟨h1, h2⟩ hl
  exact ⟨h1, F_typ h2 (fun k hk _ => World.putObj_heap_other (by omega))⟩
 case hSk => intro A B hst hlt; exact ⟨hst.block _ (by omega), hst.block _ hlt⟩
 case hKp =>
  intro A r r' hl
  refine ⟨by simp, fun k hk hlt => World.putObj_heap_other ?_⟩
  rw [hK0] at hk
  omega
 case h0 =>
  intro r
  have lt : ∀ {k : Nat} {o : Obj}, w5.heap[k]? = some o → k < w5.heap.size := fun h => (Array.getElem?_eq_some_iff.1 h).1
  exact ⟨hb5.trans ((hb7 r).mono (by omega)), ((hb7 r).block _ (lt h50)).trans h50, ((hb7 r).block _ (lt h51)).trans h51, ((hb7 r).block _ (lt h52)).trans h52, _, ((hb7 r).block _ (lt h53)).trans h53, Kd.N_nil _ _ _ _ _⟩
 case hAx =>
  rintro x a' A r r' ⟨⟨h1, h2⟩, h4⟩ hl
  exact ⟨⟨h1, F_typ h2 (fun k hk _ => World.putObj_heap_other (by omega))⟩, h4⟩
 case hassign =>
  rintro lq pre x A K hlt hI hG hK
  gi_wp2_with fail
  exact hK _ _ ⟨rfl, rfl⟩ (KpK.refl _ _) hI ⟨hG, rfl⟩
 case hbody =>
  rintro lq pre ⟨xi, Ax, cx, x⟩ a' A hlt hI ⟨⟨hcx, hF⟩, rfl⟩ hsp
  obtain ⟨hxi, hpl, -⟩ := dAllL_at hsp
  dsimp only at hxi hcx hF
  subst hxi
  obtain ⟨hB, hb0, hb1, hb2, v, hb3, hN⟩ := hI
  have lt : ∀ {k : Nat} {o : Obj}, A.heap[k]? = some o → k < A.heap.size := fun h => (Array.getElem?_eq_some_iff.1 h).1
  obtain ⟨Av, cv, rfl⟩ := Kd.N_slice hN
  have hlm : (pre.map (·.2.2.2)).length = pre.length := List.length_map _
  have o3 : A.cell? ⟨w.heap.size + 3, 0, none⟩ = some (.slice Av (pre.map (·.2.2.2)).length cv) := cell_of_row _ _ _ _ _ _ hb3
  have o0 : A.cell? ⟨w.heap.size, 0, none⟩ = some (.int .i64 most) := cell_of_row _ _ _ _ _ _ hb0
  rw [hlm] at o3
  have d1 : ((pre.length : Int) != (pre.length : Int)) = false := by simp
  have d2 : decide (most < (pre.length : Int)) = false := decide_eq_false (by have := HMO.out; omega)
  have hokp : ∀ k, TypB (w.heap.size + 7) A k → w.heap.size + 7 ≤ k ∧ some k ≠ (Value.slice Av pre.length cv).ownBlock := fun k ⟨h1, C, fr, h2⟩ => ⟨h1, fun e => by
   rw [← hlm] at e
   obtain ⟨C2, fr2, h3⟩ := N_typed8 hN e.symm
   rw [h2] at h3
   simp at h3⟩
  have HFK := Aside0.mk (Kd.FK_slice_mk (e := 5) hcx hF)
  have hN0 := hN
  rw [hlm] at hN
  have HN := Aside0.mk hN
  have HOK := Aside0.mk hokp
  have HB0 := Aside0.mk hb0
  have HB3 := Aside0.mk hb3
  have HPL := Aside0.mk hpl
  clear hN hN0 hokp hF hb0 hb3 hpl hsp
  gi_wp2_with (refine Hand.stop_list (o := { dst := some 30, op := _, type := _, pos := _, after := _, guard := _ }) ?_)
  refine ⟨?_⟩
  refine Hand.listIn_round (fun c h => by cases h) ?_
  refine Kd.N_append_step (Kd.slice 5 (Kd.int .u8)) (w0 := A) (w.heap.size + 7) (by rfl) (.tmp 27) (.tmp 29) 22 26 (.slice none 0 0) 24 (by rfl) Try.underlying22 info26 rfl (by decide) (by decide) (.slice Av pre.length cv) (pre.map (·.2.2.2)) x [.slice Ax x.length cx] (fun k => w.heap.size + 7 ≤ k) _ (by rfl) (by rfl) HFK.out HOK.out (fun k hk => by have := lt HB3.out; omega) HN.out (Below.refl _ _) (by omega) (by rw [hlm]; have := HSM.out; have := HPL.out; omega) ?_
  intro v1 w1 hN1 hB1 hg1 hob1
  obtain ⟨Au, cu, rfl⟩ := Kd.N_slice hN1
  obtain ⟨mm, hmm⟩ : ∃ m, (pre.map (·.2.2.2) ++ [x]).length = m := ⟨_, rfl⟩
  rw [hmm] at hN1 hob1 ⊢
  have hv3 := (hB1.block (w.heap.size + 3) (by omega)).trans HB3.out
  have o1 : w1.cell? ⟨w.heap.size + 3, 0, none⟩ = some (.slice Av (pre.map (·.2.2.2)).length cv) := cell_of_row _ _ _ _ _ _ hv3
  have of1 : w1.frozen? ⟨w.heap.size + 3, 0, none⟩ = false := by simp [World.frozen?, hv3]
  have HN1 := Aside0.mk hN1
  have HV3 := Aside0.mk hv3
  have hsz1 := hB1.size
  clear hN1 hv3 hob1 o0 o3
  simp only [Act.put]
  gi_wp2_with fail
  have hof : ∀ k, (Value.slice Av pre.length cv).ownBlock = some k → w.heap.size + 7 ≤ k := HN.out.1
  have hkp : ∀ k, k < A.heap.size → k < w.heap.size + 7 → k ≠ w.heap.size + 3 → (w1.setCell ⟨w.heap.size + 3, 0, none⟩ (.slice Au mm cu)).heap[k]? = A.heap[k]? := fun k hlt h1 h2 =>
   (Below.heap_setCell w1 ⟨w.heap.size + 3, 0, none⟩ _ k h2).trans (hg1.block k hlt (fun e => by have := hof k e.symm; omega))
  have hBw := hB.trans (hB1.mono (by omega))
  have l0 := lt HB0.out
  have l1 := lt hb1
  have l2 := lt hb2
  refine ⟨⟨hkp _ (by omega) (by omega) (by omega), hkp _ hlt (by omega) (by omega)⟩, ⟨by simpa using hsz1, fun k hk hlt => ?_⟩, ⟨hBw.os, hBw.tape, hBw.output, by simpa using hBw.size, fun k hk => (Below.heap_setCell w1 ⟨w.heap.size + 3, 0, none⟩ _ k (by show k ≠ w.heap.size + 3; omega)).trans (hBw.block k hk)⟩, ?_, ?_, ?_, _, heap_setCell_same _ _ _ _ _ _ HV3.out, ?_⟩
  ·rw [hK0] at hk
   exact hkp k hlt (by omega) (by omega)
  ·exact (hkp _ l0 (by omega) (by omega)).trans HB0.out
  ·exact (hkp _ l1 (by omega) (by omega)).trans hb1
  ·exact (hkp _ l2 (by omega) (by omega)).trans hb2
  ·rw [List.map_append]
   exact Kd.N_far HN1.out (fun k hk => by show k ≠ w.heap.size + 3; omega) _
 case hdone =>
  rintro xs A hS ⟨hB, hb0, hb1, hb2, v, hb3, hN⟩ hK
  have hX : xs.map (·.2.2.2) = dLabels s := by
   rw [← dAllL_snd, ← hS, List.map_map]; rfl
  rw [hX] at hN
  obtain ⟨Av, cv, rfl⟩ := Kd.N_slice hN
  obtain ⟨mm, hmm⟩ : ∃ m, (dLabels s).length = m := ⟨_, rfl⟩
  rw [hmm] at hN hb3
  have o0 : A.cell? ⟨w.heap.size + 3, 0, none⟩ = some (.slice Av mm cv) := cell_of_row _ _ _ _ _ _ hb3
  have o1 : A.cell? ⟨w.heap.size + 1, 0, none⟩ = some (.slice none 0 0) := cell_of_row _ _ _ _ _ _ hb1
  have o2 : A.cell? ⟨w.heap.size + 2, 0, none⟩ = some (.bool false) := cell_of_row _ _ _ _ _ _ hb2
  have of1 : A.frozen? ⟨w.heap.size + 1, 0, none⟩ = false := by simp [World.frozen?, hb1]
  have of2 : A.frozen? ⟨w.heap.size + 2, 0, none⟩ = false := by simp [World.frozen?, hb2]
  have HNN := Aside0.mk hN
  have HBB := Aside0.mk hB
  have HKK := Aside0.mk hK
  clear hN hB hS hX hmm
  gi_wp2_with fail
  obtain ⟨B, hBe⟩ : ∃ B, ((A.setCell ⟨w.heap.size + 1, 0, none⟩ (.slice Av mm cv)).setCell ⟨w.heap.size + 2, 0, none⟩ (.bool true)) = B := ⟨_, rfl⟩
  rw [hBe]
  have hoth : ∀ k, k ≠ w.heap.size + 1 → k ≠ w.heap.size + 2 → B.heap[k]? = A.heap[k]? := fun k h1 h2 => by
   rw [← hBe]
   exact (Below.heap_setCell _ _ _ k h2).trans (Below.heap_setCell _ _ _ k h1)
  have g1 : B.heap[w.heap.size + 1]? = some (.cells #[.slice Av mm cv] 22) := by
   rw [← hBe]
   exact (Below.heap_setCell _ ⟨w.heap.size + 2, 0, none⟩ _ _ (by show w.heap.size + 1 ≠ w.heap.size + 2; omega)).trans (heap_setCell_same _ _ _ _ _ _ hb1)
  have g2 : B.heap[w.heap.size + 2]? = some (.cells #[.bool true] 4) := by
   rw [← hBe]
   exact heap_setCell_same _ _ _ _ _ _ ((Below.heap_setCell _ ⟨w.heap.size + 1, 0, none⟩ _ _ (by show w.heap.size + 2 ≠ w.heap.size + 1; omega)).trans hb2)
  have hrest : B.os = A.os ∧ B.tape = A.tape ∧ B.output = A.output ∧ B.heap.size = A.heap.size := by
   rw [← hBe]
   exact ⟨rfl, rfl, rfl, by simp⟩
  have hKB := (hoth w5.heap.size (by omega) (by omega)).trans HKK.out
  refine ⟨by simp, .inl ⟨_, _, rfl, run_takeDeferred hKB, ?_⟩⟩
  obtain ⟨C, hCe⟩ : ∃ C, B.putObj w5.heap.size (.deferred none) = C := ⟨_, rfl⟩
  rw [hCe]
  have hc : ∀ k, k ≠ w5.heap.size → C.heap[k]? = B.heap[k]? := fun k hk => by rw [← hCe]; exact World.putObj_heap_other hk
  have c1 : C.cell? ⟨w.heap.size + 1, 0, none⟩ = some (.slice Av mm cv) := cell_of_row _ _ _ _ _ _ ((hc _ (by omega)).trans g1)
  have c2 : C.cell? ⟨w.heap.size + 2, 0, none⟩ = some (.bool true) := cell_of_row _ _ _ _ _ _ ((hc _ (by omega)).trans g2)
  have hCB : C.os = B.os ∧ C.tape = B.tape ∧ C.output = B.output ∧ C.heap.size = B.heap.size := by rw [← hCe]; exact ⟨rfl, rfl, rfl, by simp⟩
  refine ⟨.tuple #[.slice Av mm cv, .bool true], ?_, _, rfl, ?_, ?_⟩
  ·simp [results, Try.f17, go_sem, c1, c2]
  ·refine Kd.N_mono (Kd.N_lower (Kd.N_step HNN.out (fun k hk hlt => ?_)) (by omega)) (fun k hk => by omega)
   exact (hc k (by omega)).trans (hoth k (by omega) (by omega))
  ·exact ⟨hCB.1.trans (hrest.1.trans HBB.out.os), hCB.2.1.trans (hrest.2.1.trans HBB.out.tape), hCB.2.2.1.trans (hrest.2.2.1.trans HBB.out.output), by rw [hCB.2.2.2, hrest.2.2.2]; exact HBB.out.size, fun k hk => (hc k (by omega)).trans ((hoth k (by omega) (by omega)).trans (HBB.out.block k hk))⟩

/-! ### dict_Dict_Label: function 20 -/

/-! ### creellaw16_DictNil: function 7 -/
def creellaw16_DictNil.Pure : Prop := ∃ k, creellaw16_shown.f k = some true
set_option maxHeartbeats 8000000 in
set_option maxRecDepth 100000 in
theorem creellaw16_DictNil.walk (P : creellaw16_DictNil.Pure) (a0 : Int) (a1 : Option Addr) (len1 cap1 : Nat) (z1 : List Int) (w : World) (w0 : (Lit.int .i64 a0).wf = true) (w1 : (a1 = none ∧ len1 = 0 ∧ cap1 = 0 ∧ z1 = []) ∨ ∃ x, a1 = some x ∧ len1 ≤ cap1 ∧ cap1 ≤ maxLen ∧ z1.length = cap1 ∧ (∀ i, i < z1.length → w.cell? (x.add i) = some (.int .u8 (z1.getD i 0))) ∧ ∀ n ∈ z1, (Lit.int .u8 n).wf = true) (y1 : len1 * 1 ≤ 140737488351232) :
  Calls Try.prog 7 #[.int .i64 a0, .slice a1 len1 cap1] w fun e w' => e = .returned (.bool true) ∧ Below w.heap.size w w' := by
 obtain ⟨x, rfl, hr, hm, hw, hc⟩ := ReadsInt.ofRowC w1
 obtain ⟨k, h1⟩ := P
 have H1 := Aside0.mk h1
 have HC : Aside0 (Kd.C (Kd.int .u8) w a1 x.length x) := ⟨Kd.C_of_reads (d := (0 : Int)) (h1 := fun _ => rfl) hr⟩
 have HL := Aside0.mk hc
 have hno : ¬ (0 ≤ a0 ∧ a0 < ((dN none : Nat) : Int)) := fun h => by
  have : a0 < 0 := h.2
  omega
 have hLB := fun (W : World) => dict_Dict_Label.calls (.pointer none) 0 none a0 W rfl trivial (Nat.zero_le _)
 rw [if_neg hno, decide_eq_false hno] at hLB
 have HLB := Aside0.mk hLB
 have HP : Aside0 (∀ W : World, DPtr W (.pointer none) 0 none) := ⟨fun _ => rfl⟩
 have HF : Aside0 (DFit none) := ⟨trivial⟩
 have HUP : Aside0 (∀ i j : Nat, i ≤ j → j < dN none → 0 ≤ dcmp (dAt none i) x → 0 ≤ dcmp (dAt none j) x) := ⟨fun _ _ _ h_ => absurd h_ (Nat.not_lt_zero _)⟩
 have HMO : Aside0 (((dN none : Nat) : Int) ≤ 0 + 1) := ⟨by decide⟩
 have hid : dId none x = (0, false) := by unfold dId; exact if_neg (fun h => Nat.not_lt_zero _ h.1)
 have HID := Aside0.mk hid
 clear h1 hr hm hw hc hno hLB hid w0 y1 w1
 go_enter Try.func7, Try.ntmps7
 go_wp2_with (first
  | (go_at_call 9; (with_reducible refine (creellaw16_shown.calls k _ _ H1.out).mono ?_); rintro e wa ⟨rfl, hb⟩; have HB := Aside0.mk hb; clear hb)
  | (go_at_call 20; (with_reducible refine ((HLB.out _)).mono ?_); rintro e wb ⟨v, rfl, ho, hb⟩; obtain ⟨A1, c1, rfl⟩ := Kd.R_slice ho; have HB2 := Aside0.mk (below_step HB.out hb); have HC2 := Aside0.mk (Kd.C_below HC.out HB2.out); clear ho hb)
  | (go_at_call 18; (with_reducible refine (dict_Dict_Id.calls (.pointer none) 0 none a1 cap1 x _ (HP.out _) HF.out HC2.out HL.out HUP.out).mono ?_); rintro e wc ⟨rfl, hb⟩; rw [HID.out]; have HB3 := Aside0.mk (below_step HB2.out hb); clear hb)
  | (go_at_call 17; (with_reducible refine (creellaw16_list.calls (.pointer none) 0 none 0 _ (HP.out _) HF.out (Nat.zero_le _) HMO.out).mono ?_); rintro e wd ⟨v, rfl, ho, hb⟩; obtain ⟨A2, c2, rfl⟩ := Kd.N_slice ho; rw [show (dLabels none).length = 0 from rfl]; have HB4 := Aside0.mk (below_step HB3.out hb); clear ho hb)
  | (go_at_call 22; (with_reducible refine (dict_Dict_Len.calls (.pointer none) 0 none _ (HP.out _) HF.out).mono ?_); rintro e we ⟨rfl, hw_⟩; subst we; rw [show ((dN none : Nat) : Int) = 0 from rfl]))
 go_ret
 exact ⟨rfl, HB4.out⟩

/-! ### creellaw16_few: function 10 -/
def creellaw16_few.l0 : Nat → List (List Int) → List (List Int) → Int → Int → Option ((List (List Int)))
 | 0, _, _, _, _ => none
 | k + 1, x3, x6, x7, x8 => if x8 < x7 then (if 0 ≤ x8 then (if x8 < (x6.length : Int) then (if x8 < 100 then (if ((rd_L1 x6 x8).length : Int) ≤ 40 then (if x3.length < 5864062014805 then (creellaw16_few.l0 k (x3 ++ [rd_L1 x6 x8]) x6 x7 (wrap64 (x8 + 1))) else (none)) else (creellaw16_few.l0 k x3 x6 x7 (wrap64 (x8 + 1)))) else (creellaw16_few.l0 k x3 x6 x7 (wrap64 (x8 + 1)))) else (none)) else (none)) else (some x3)
def creellaw16_few.f (k : Nat) (l0 : List (List Int)) : Option ((List (List Int))) := creellaw16_few.l0 k ([] : List (List Int)) l0 (l0.length : Int) 0
set_option maxHeartbeats 8000000 in
set_option maxRecDepth 100000 in
theorem creellaw16_few.calls (k : Nat) (P0_ : Nat → Prop) (A0 : Option Addr) (c0 : Nat) (l0 : List (List Int)) (r : List (List Int)) (w : World) (hs0 : Kd.V (Kd.slice 5 (Kd.int .u8)) 26 w w.heap.size (fun k_ => P0_ k_) (.slice A0 l0.length c0) l0) (h : creellaw16_few.f k l0 = some r) :
  Calls Try.prog 10 #[.slice A0 l0.length c0] w fun e w' => ∃ v0_ : Value, e = .returned (v0_) ∧ Kd.N (Kd.slice 5 (Kd.int .u8)) 26 w' w.heap.size (fun k_ => (P0_ k_ ∨ w.heap.size ≤ k_)) v0_ r ∧ Below w.heap.size w w' := by
 have HO0 := Aside0.mk (show Kd.V (Kd.slice 5 (Kd.int .u8)) 26 w w.heap.size (fun k_ => (P0_ k_ ∨ w.heap.size ≤ k_)) (.slice A0 l0.length c0) l0 from Kd.V_mono hs0 (fun k_ hk => .inl hk))
 have HB := Aside0.mk (Below.refl w.heap.size w)
 have H : (creellaw16_few.l0 k ([] : List (List Int)) l0 (l0.length : Int) 0) = some r := h
 clear h
 have H' := Aside0.mk H
 clear H
 go_enter Try.func10, Try.ntmps10
 go_wp2
 go_loopg [3, 8] k (fun kq v3 v8 w' => ∃ (x3_1 : List (List Int)) (x8_1 : Int), v8 = .int .i64 x8_1 ∧ Aside0 (creellaw16_few.l0 kq x3_1 l0 (l0.length : Int) x8_1 = some r) ∧ Aside0 (kq ≤ k) ∧ Aside0 (Kd.N (Kd.slice 5 (Kd.int .u8)) 26 w' w.heap.size (fun k_ => (P0_ k_ ∨ w.heap.size ≤ k_)) v3 x3_1) ∧ Aside0 (Kd.V (Kd.slice 5 (Kd.int .u8)) 26 w' w.heap.size (fun k_ => (P0_ k_ ∨ w.heap.size ≤ k_) ∧ some k_ ≠ (v3 : Value).ownBlock) (.slice A0 l0.length c0) l0) ∧ Aside0 (Below w.heap.size w w'))
 case atStart => exact ⟨(([] : List (List Int))), (0), (by first | rfl | (simp; done) | (simp [*]; done)), H', ⟨Nat.le_refl _⟩, ⟨by first | exact Kd.S_nil _ _ _ _ _ | exact Kd.N_nil _ _ _ _ _ | exact Kd.V_nil _ _ _ _ _ | exact Kd.Q_nil _ _ _ _ _ | exact Kd.R_nil _ _ _ _ _⟩, ⟨by (with_reducible repeat (first | apply Kd.V_alloc | apply Kd.V_drewN | apply Kd.V_drew)); exact Kd.V_mono HO0.out (fun _ hk => ⟨hk, (by simp [Value.ownBlock])⟩)⟩, ⟨by repeat (first | (with_reducible first | exact HB.out | apply below_alloc | apply pw_below_drewN | apply below_drew1) | exact HB.out)⟩⟩
 case round =>
  clear H'
  try clear c1
  obtain ⟨x3_1, x8_1, rfl, HA, HK1, HO_3, HO_6, HB⟩ := hrel
  cases gk with
  | zero => exact absurd HA.out (by simp [creellaw16_few.l0])
  | succ k1 =>
   have H := HA.out
   clear HA
   simp only [creellaw16_few.l0] at H
   by_cases c2 : x8_1 < (l0.length : Int)
   ·rw [if_pos c2] at H
    have c2b0 : decide (x8_1 < (l0.length : Int)) = true := decide_eq_true c2
    clear c2
    by_cases c3 : 0 ≤ x8_1
    ·rw [if_pos c3] at H
     have c3b0 : decide (0 ≤ x8_1) = true := decide_eq_true c3
     clear c3
     by_cases c4 : x8_1 < (l0.length : Int)
     ·rw [if_pos c4] at H
      have c4b0 : decide (x8_1 < (l0.length : Int)) = true := decide_eq_true c4
      clear c4
      by_cases c5 : x8_1 < 100
      ·rw [if_pos c5] at H
       have c5b0 : decide (x8_1 < 100) = true := decide_eq_true c5
       clear c5
       by_cases c6 : ((rd_L1 l0 x8_1).length : Int) ≤ 40
       ·rw [if_pos c6] at H
        have c6b0 : decide (((rd_L1 l0 x8_1).length : Int) ≤ 40) = true := decide_eq_true c6
        have c6b1 : decide ((rd_L1 l0 x8_1).length ≤ 40) = true := decide_eq_true (by omega)
        clear c6
        by_cases c7 : x3_1.length < 5864062014805
        ·rw [if_pos c7] at H
         have LMc7 := Aside0.mk c7
         clear c7
         obtain ⟨y275, hy275⟩ : ∃ y_ : List (List Int), y_ = (x3_1 ++ [rd_L1 l0 x8_1]) := ⟨_, rfl⟩
         replace H : (creellaw16_few.l0 k1 y275 l0 (l0.length : Int) (wrap64 (x8_1 + 1))) = some r := by first | (rw [hy275]; with_reducible exact H) | (have H2_ := (Option.bind_some _ _).symm.trans H; rw [hy275]; with_reducible exact H2_) | (have H2_ := (Option.bind_some _ _).symm.trans H; with_reducible exact H2_) | with_reducible exact H | (rw [hy275]; exact H) | exact H
         have Ny275 := Aside0.mk hy275
         clear hy275
         have H' := Aside0.mk H
         clear H
         have p274 : 0 ≤ (x8_1 : Int) := of_decide_eq_true (by first | (with_reducible assumption) | assumption)
         have q274 : x8_1 < (l0.length : Int) := of_decide_eq_true (by first | (with_reducible assumption) | assumption)
         obtain ⟨ad274, A274_0, c274_0, e274, hx274_0, hl274_0, hi274_0⟩ := at_L1 (Kd.V_reads' HO_6.out).2.2 x8_1 p274 q274
         cases e274
         obtain ⟨ce274, hce274, hMe274, hcc274⟩ := Kd.V_get HO_6.out [] x8_1 p274 (by first | exact q274 | exact of_decide_eq_true (by first | (with_reducible assumption) | assumption) | (have e_ := (Kd.V_reads' HO_6.out).1; omega))
         obtain ⟨ua274_0, uc274_0, rfl, ul274_0, ge274_0⟩ := Kd.FK_slice_open hMe274
         have hv274_0 := hcc274 0 _ rfl
         rw [Nat.add_zero, show ((Kd.slice 5 (Kd.int .u8))).sz = 1 from rfl, Nat.mul_one] at hv274_0
         replace hv274_0 := Option.some.inj (hv274_0.symm.trans hx274_0)
         injection hv274_0 with hva_ hvn_ hvc_
         rw [hva_] at ge274_0
         rw [hvc_] at ul274_0
         have HL274_0 := Aside0.mk (show Kd.V (Kd.int .u8) 5 _ w.heap.size _ _ (rd_L1 l0 x8_1) from Kd.V_mk ul274_0 ge274_0)
         clear hva_ hvn_ hvc_ ge274_0 ul274_0
         clear hcc274 hce274
         have HR274_0 := Aside0.mk hi274_0
         have HC274_0 := Aside0.mk hl274_0
         clear hi274_0 hl274_0
         replace p274 := eq_true p274
         replace q274 := eq_true q274
         go_wp2_with (first | ((with_reducible refine gate_builtin (b := .append) (xs := #[.tmp 20, .tmp 22]) rfl ?_); (try (refine gate_guard (by rfl) ?_; dsimp only)); at_builtin; refine Kd.N_append (Kd.slice 5 (Kd.int .u8)) (w0 := w) w.heap.size rfl (.tmp 20) (.tmp 22) 22 26 (.slice none 0 0) 24 rfl Try.underlying22 info26 rfl (by decide) (by omega) u3 x3_1 (rd_L1 l0 x8_1) [.slice A274_0 (rd_L1 l0 x8_1).length c274_0] (fun k_ => (P0_ k_ ∨ w.heap.size ≤ k_)) (fun k_ => ((fun k_ => (P0_ k_ ∨ w.heap.size ≤ k_))) k_ ∧ some k_ ≠ (u3 : Value).ownBlock) rfl rfl ?aP (fun _ hk => hk) ?aF ?aO ?aB ?aS ?aL ?_; (case aP => exact (Kd.FK_slice_mk (Kd.V_reads' (Kd.V_mono (ok' := (fun k_ => ((fun k_ => (P0_ k_ ∨ w.heap.size ≤ k_))) k_ ∧ some k_ ≠ (u3 : Value).ownBlock)) (HL274_0.out) (fun k_ hk => ⟨hk.1, hk.2⟩))).2.1 (Kd.V_F (Kd.V_mono (ok' := (fun k_ => ((fun k_ => (P0_ k_ ∨ w.heap.size ≤ k_))) k_ ∧ some k_ ≠ (u3 : Value).ownBlock)) (HL274_0.out) (fun k_ hk => ⟨hk.1, hk.2⟩))))); (case aB => exact (by repeat (first | (with_reducible first | exact HB.out | apply below_alloc | apply pw_below_drewN | apply below_drew1) | exact HB.out))); (case aF => exact (fun k_ hk => (.inr (Nat.le_trans (below_size (by repeat (first | (with_reducible first | exact HB.out | apply below_alloc | apply pw_below_drewN | apply below_drew1) | exact HB.out))) hk)))); (case aO => exact (by (with_reducible repeat (first | apply Kd.N_alloc | apply Kd.N_drewN | apply Kd.N_drew)); exact HO_3.out)); (case aS => exact (below_size (by repeat (first | (with_reducible first | exact HB.out | apply below_alloc | apply pw_below_drewN | apply below_drew1) | exact HB.out)))); (case aL => have := LMc7.out; omega); intro v276 w8 ho hb hg hat; rw [← Ny275.out] at ho; have n0_ := Aside0.mk (Kd.V_afterv (ok := (fun k_ => (P0_ k_ ∨ w.heap.size ≤ k_))) (by (with_reducible repeat (first | apply Kd.V_alloc | apply Kd.V_drewN | apply Kd.V_drew)); exact HO_6.out) hg hat); have n1_ := Aside0.mk (Kd.V_afterv (ok := (fun k_ => (P0_ k_ ∨ w.heap.size ≤ k_))) (by (with_reducible repeat (first | apply Kd.V_alloc | apply Kd.V_drewN | apply Kd.V_drew)); exact HL274_0.out) hg hat); have n2_ := Aside0.mk (hb); have n3_ := Aside0.mk (ho); clear HO_6; clear HL274_0; clear HB; clear HO_3; have HO_6 := n0_; have HL274_0 := n1_; have HB := n2_; have HO277 := n3_; clear n0_ n1_ n2_ n3_; clear ho hb hg hat))
         go_roundg k1
         case measure => have := HK1.out; omega
         case rel => exact ⟨(y275), (wrap64 (x8_1 + 1)), (by first | rfl | (simp; done) | (simp [*]; done)), H', ⟨by have := HK1.out; omega⟩, ⟨by (with_reducible repeat (first | apply Kd.N_alloc | apply Kd.N_drewN | apply Kd.N_drew)); exact HO277.out⟩, ⟨by (with_reducible repeat (first | apply Kd.V_alloc | apply Kd.V_drewN | apply Kd.V_drew)); exact HO_6.out⟩, ⟨by repeat (first | (with_reducible first | exact HB.out | apply below_alloc | apply pw_below_drewN | apply below_drew1) | exact HB.out)⟩⟩
        ·rw [if_neg c7] at H
         exact absurd H (by simp)
       ·rw [if_neg c6] at H
        have c6b0 : decide (((rd_L1 l0 x8_1).length : Int) ≤ 40) = false := decide_eq_false c6
        have c6b1 : decide ((rd_L1 l0 x8_1).length ≤ 40) = false := decide_eq_false (by omega)
        clear c6
        have H' := Aside0.mk H
        clear H
        have p274 : 0 ≤ (x8_1 : Int) := of_decide_eq_true (by first | (with_reducible assumption) | assumption)
        have q274 : x8_1 < (l0.length : Int) := of_decide_eq_true (by first | (with_reducible assumption) | assumption)
        obtain ⟨ad274, A274_0, c274_0, e274, hx274_0, hl274_0, hi274_0⟩ := at_L1 (Kd.V_reads' HO_6.out).2.2 x8_1 p274 q274
        cases e274
        obtain ⟨ce274, hce274, hMe274, hcc274⟩ := Kd.V_get HO_6.out [] x8_1 p274 (by first | exact q274 | exact of_decide_eq_true (by first | (with_reducible assumption) | assumption) | (have e_ := (Kd.V_reads' HO_6.out).1; omega))
        obtain ⟨ua274_0, uc274_0, rfl, ul274_0, ge274_0⟩ := Kd.FK_slice_open hMe274
        have hv274_0 := hcc274 0 _ rfl
        rw [Nat.add_zero, show ((Kd.slice 5 (Kd.int .u8))).sz = 1 from rfl, Nat.mul_one] at hv274_0
        replace hv274_0 := Option.some.inj (hv274_0.symm.trans hx274_0)
        injection hv274_0 with hva_ hvn_ hvc_
        rw [hva_] at ge274_0
        rw [hvc_] at ul274_0
        have HL274_0 := Aside0.mk (show Kd.V (Kd.int .u8) 5 _ w.heap.size _ _ (rd_L1 l0 x8_1) from Kd.V_mk ul274_0 ge274_0)
        clear hva_ hvn_ hvc_ ge274_0 ul274_0
        clear hcc274 hce274
        have HR274_0 := Aside0.mk hi274_0
        have HC274_0 := Aside0.mk hl274_0
        clear hi274_0 hl274_0
        replace p274 := eq_true p274
        replace q274 := eq_true q274
        go_wp2
        go_roundg k1
        case measure => have := HK1.out; omega
        case rel => exact ⟨(x3_1), (wrap64 (x8_1 + 1)), (by first | rfl | (simp; done) | (simp [*]; done)), H', ⟨by have := HK1.out; omega⟩, ⟨by (with_reducible repeat (first | apply Kd.N_alloc | apply Kd.N_drewN | apply Kd.N_drew)); exact HO_3.out⟩, ⟨by (with_reducible repeat (first | apply Kd.V_alloc | apply Kd.V_drewN | apply Kd.V_drew)); exact HO_6.out⟩, ⟨by repeat (first | (with_reducible first | exact HB.out | apply below_alloc | apply pw_below_drewN | apply below_drew1) | exact HB.out)⟩⟩
      ·rw [if_neg c5] at H
       have c5b0 : decide (x8_1 < 100) = false := decide_eq_false c5
       clear c5
       have H' := Aside0.mk H
       clear H
       have p274 : 0 ≤ (x8_1 : Int) := of_decide_eq_true (by first | (with_reducible assumption) | assumption)
       have q274 : x8_1 < (l0.length : Int) := of_decide_eq_true (by first | (with_reducible assumption) | assumption)
       obtain ⟨ad274, A274_0, c274_0, e274, hx274_0, hl274_0, hi274_0⟩ := at_L1 (Kd.V_reads' HO_6.out).2.2 x8_1 p274 q274
       cases e274
       obtain ⟨ce274, hce274, hMe274, hcc274⟩ := Kd.V_get HO_6.out [] x8_1 p274 (by first | exact q274 | exact of_decide_eq_true (by first | (with_reducible assumption) | assumption) | (have e_ := (Kd.V_reads' HO_6.out).1; omega))
       obtain ⟨ua274_0, uc274_0, rfl, ul274_0, ge274_0⟩ := Kd.FK_slice_open hMe274
       have hv274_0 := hcc274 0 _ rfl
       rw [Nat.add_zero, show ((Kd.slice 5 (Kd.int .u8))).sz = 1 from rfl, Nat.mul_one] at hv274_0
       replace hv274_0 := Option.some.inj (hv274_0.symm.trans hx274_0)
       injection hv274_0 with hva_ hvn_ hvc_
       rw [hva_] at ge274_0
       rw [hvc_] at ul274_0
       have HL274_0 := Aside0.mk (show Kd.V (Kd.int .u8) 5 _ w.heap.size _ _ (rd_L1 l0 x8_1) from Kd.V_mk ul274_0 ge274_0)
       clear hva_ hvn_ hvc_ ge274_0 ul274_0
       clear hcc274 hce274
       have HR274_0 := Aside0.mk hi274_0
       have HC274_0 := Aside0.mk hl274_0
       clear hi274_0 hl274_0
       replace p274 := eq_true p274
       replace q274 := eq_true q274
       go_wp2
       go_roundg k1
       case measure => have := HK1.out; omega
       case rel => exact ⟨(x3_1), (wrap64 (x8_1 + 1)), (by first | rfl | (simp; done) | (simp [*]; done)), H', ⟨by have := HK1.out; omega⟩, ⟨by (with_reducible repeat (first | apply Kd.N_alloc | apply Kd.N_drewN | apply Kd.N_drew)); exact HO_3.out⟩, ⟨by (with_reducible repeat (first | apply Kd.V_alloc | apply Kd.V_drewN | apply Kd.V_drew)); exact HO_6.out⟩, ⟨by repeat (first | (with_reducible first | exact HB.out | apply below_alloc | apply pw_below_drewN | apply below_drew1) | exact HB.out)⟩⟩
     ·rw [if_neg c4] at H
      exact absurd H (by simp)
    ·rw [if_neg c3] at H
     exact absurd H (by simp)
   ·rw [if_neg c2] at H
    have c2b0 : decide (x8_1 < (l0.length : Int)) = false := decide_eq_false c2
    clear c2
    obtain rfl := Option.some.inj H
    go_wp2
    go_ret
    exact ⟨_, by first | rfl | (simp [errW_none, errW_some] <;> rfl) | (simp [*, errW_none, errW_some] <;> rfl), by (with_reducible repeat (first | apply Kd.N_alloc | apply Kd.N_drewN | apply Kd.N_drew)); exact HO_3.out, by repeat (first | (with_reducible first | exact HB.out | apply below_alloc | apply pw_below_drewN | apply below_drew1) | exact HB.out)⟩

/-! ### creelref14_Sorted: function 24 -/
/-- The order of strings, and whether they are the same. -/
def srtLess (a b : List Int) : Bool := Op.bytesLess (strOfNums a).toList (strOfNums b).toList
def srtEq (a b : List Int) : Bool := (strOfNums a).toList == (strOfNums b).toList
/-- How many records stand ahead of x. -/
def srtK (x : List Int) : List (List Int) → Nat
 | [] => 0
 | y :: l => if srtLess y x then srtK x l + 1 else 0
theorem srtK_le (x : List Int) : ∀ l, srtK x l ≤ l.length
 | [] => Nat.le_refl _
 | y :: l => by have := srtK_le x l; unfold srtK; split <;> simp <;> omega
theorem srtK_yes (x : List Int) : ∀ (l : List (List Int)) (j : Nat), j < srtK x l → srtLess (l.getD j []) x = true
 | [], j, h => by simp [srtK] at h
 | y :: l, j, h => by
  unfold srtK at h
  split at h
  ·rename_i hy
   cases j with
   | zero => exact hy
   | succ j => rw [List.getD_cons_succ]; exact srtK_yes x l j (by omega)
  ·omega
theorem srtK_no (x : List Int) : ∀ (l : List (List Int)), srtK x l < l.length → srtLess (l.getD (srtK x l) []) x = false
 | [], h => by simp at h
 | y :: l, h => by
  unfold srtK at h ⊢
  split at h
  ·rename_i hy
   rw [if_pos hy, List.getD_cons_succ]; exact srtK_no x l (by simpa using h)
  ·rename_i hy
   rw [if_neg hy]; simpa using hy
/-- x among records that rise; not twice. -/
def srtIns (out : List (List Int)) (x : List Int) : List (List Int) := if srtK x out < out.length ∧ srtEq (out.getD (srtK x out) []) x = true then out else out.take (srtK x out) ++ [x] ++ out.drop (srtK x out)
def srt (l : List (List Int)) : List (List Int) := l.foldl srtIns []
theorem srtIns_len (out : List (List Int)) (x : List Int) : (srtIns out x).length ≤ out.length + 1 := by
 unfold srtIns; split
 ·omega
 ·simp; omega
theorem srt_take (l : List (List Int)) (k : Nat) (h : k < l.length) : srt (l.take (k + 1)) = srtIns (srt (l.take k)) (l.getD k []) := by
 unfold srt
 rw [List.take_add_one, List.foldl_append, List.getD_eq_getElem?_getD, List.getElem?_eq_getElem h]; rfl
theorem srt_len (l : List (List Int)) : ∀ k, (srt (l.take k)).length ≤ k
 | 0 => by simp [srt]
 | k + 1 => by
  have ih := srt_len l k
  by_cases h : k < l.length
  ·rw [srt_take l k h]; have := srtIns_len (srt (l.take k)) (l.getD k []); omega
  ·rw [List.take_of_length_le (by omega)]; rw [List.take_of_length_le (by omega)] at ih; omega
def creelref14_Sorted.f (l0 : List (List Int)) : Option (List (List Int)) := if l0.length < 1000000 then some (srt l0) else none
set_option maxHeartbeats 8000000 in
set_option maxRecDepth 100000 in
theorem creelref14_Sorted.calls (P0_ : Nat → Prop) (A0 : Option Addr) (c0 : Nat) (l0 : List (List Int)) (r : List (List Int)) (w : World) (hs0 : Kd.V (Kd.slice 5 (Kd.int .u8)) 26 w w.heap.size (fun k_ => P0_ k_) (.slice A0 l0.length c0) l0) (h : creelref14_Sorted.f l0 = some r) :
  Calls Try.prog 24 #[.slice A0 l0.length c0] w fun e w' => ∃ v0_ : Value, e = .returned (v0_) ∧ Kd.N (Kd.slice 5 (Kd.int .u8)) 26 w' w.heap.size (fun k_ => (P0_ k_ ∨ w.heap.size ≤ k_)) v0_ r ∧ Below w.heap.size w w' := by
 unfold creelref14_Sorted.f at h
 by_cases hl : l0.length < 1000000
 ·rw [if_pos hl] at h
  obtain rfl := Option.some.inj h
  clear h
  have HV := Aside0.mk (Kd.V_bound hs0)
  have HB := Aside0.mk (Below.refl w.heap.size w)
  clear hs0
  go_enter Try.func24, Try.ntmps24
  go_wp2
  go_loopw [3, 4] (fun v i wr => ∃ k : Nat, k ≤ l0.length ∧ i = .int .i64 k ∧ Aside0 (Kd.N (Kd.slice 5 (Kd.int .u8)) 26 wr w.heap.size (fun k_ => (P0_ k_ ∨ w.heap.size ≤ k_)) v (srt (l0.take k))) ∧ Aside0 (Below w.heap.size w wr)) (fun _ i _ => l0.length - (intOf i).toNat)
  case atStart => exact ⟨0, Nat.zero_le _, rfl, ⟨Kd.N_nil _ _ _ _ _⟩, HB⟩
  case round =>
   obtain ⟨k, hk, rfl, HO, HB⟩ := hrel
   by_cases hlt : k < l0.length
   ·have hol := srt_len l0 k
    have hT := srt_take l0 k hlt
    generalize srt (l0.take k) = out at *
    have HV1 := Aside0.mk (Kd.V_below HV.out HB.out)
    obtain ⟨ad, Ai, ci, rfl, hxi, hli, hFi⟩ := Hand.F_row_at (Kd.V_F HV1.out) k hlt
    generalize l0.getD k [] = x at *
    unfold srtIns at hT
    have HT := Aside0.mk hT
    clear hT
    obtain ⟨A1, c1, rfl⟩ := Kd.N_slice HO.out
    have HS := fun n_ : Nat => Kd.C_string (P := Try.prog) (A := Ai) (c := ci) Try.underlying26 Try.underlying5 Try.underlying9 (Kd.C_drewN (Kd.F_now hFi) n_)
    have HFi := Aside0.mk hFi
    have hkle := srtK_le x out
    clear hFi
    obtain ⟨wo, rfl⟩ : ∃ wo : World, wo = wr := ⟨_, rfl⟩
    go_wp2
    go_loopw [5] (fun v wi => ∃ j m : Nat, j ≤ srtK x out ∧ v = .int .i64 j ∧ wi = wo.drewN m) (fun v _ => srtK x out + 1 - (intOf v).toNat)
    case atStart => exact ⟨0, 0, Nat.zero_le _, rfl, rfl⟩
    case round =>
     obtain ⟨j, m, hj, rfl, rfl⟩ := hrel
     have p2 : (0 : Int) ≤ (k : Int) := by omega
     have q2 : (k : Int) < (l0.length : Int) := by omega
     have p1 : (0 : Int) ≤ (j : Int) := by omega
     by_cases hjo : j < out.length
     ·obtain ⟨ad1, Aj, cj, rfl, hxj, hlj, hFj⟩ := Hand.F_row_at (Kd.N_F HO.out) j hjo
      have HSj := fun n_ : Nat => Kd.C_string (P := Try.prog) (A := Aj) (c := cj) Try.underlying26 Try.underlying5 Try.underlying9 (Kd.C_drewN (Kd.F_now hFj) n_)
      clear hFj
      have d1 : decide (j < out.length) = true := decide_eq_true hjo
      have q1 : (j : Int) < (out.length : Int) := by omega
      by_cases hjk : j < srtK x out
      ·have hyes := srtK_yes x out j hjk
       generalize out.getD j [] = y at *
       unfold srtLess at hyes
       go_wp2
       go_quiet (fail)
       go_wp2
       go_roundw
       case rel => exact ⟨j + 1, _, by omega, by go_num, rfl⟩
       case measure => simp [intOf]; omega
      ·obtain rfl : j = srtK x out := by omega
       have hno := srtK_no x out hjo
       have hT1 := HT.out
       generalize srtK x out = j at *
       generalize out.getD j [] = y at *
       unfold srtLess at hno
       by_cases he : srtEq y x = true
       ·rw [if_pos ⟨hjo, he⟩] at hT1
        unfold srtEq at he
        have HT1 := Aside0.mk hT1
        clear hT1
        go_wp2
        go_quiet (fail)
        rename Nat => na
        go_wp2
        go_quiet (fail)
        go_wp2
        go_roundw
        case rel => exact ⟨k + 1, by omega, by go_num, ⟨by rw [HT1.out]; exact Kd.N_drewN HO.out _⟩, ⟨pw_below_drewN HB.out _⟩⟩
        case measure => simp [intOf]; omega
       ·rw [if_neg (fun h_ => he h_.2)] at hT1
        replace he := Bool.eq_false_iff.mpr he
        unfold srtEq at he
        have HT1 := Aside0.mk hT1
        clear hT1
        go_wp2
        go_quiet (fail)
        rename Nat => na
        go_wp2
        go_quiet (fail)
        go_upto_region 9 with (fail)
        obtain ⟨W, hW⟩ : ∃ W : World, ((wo.drewN m).drewN na).drewN nq = W := ⟨_, rfl⟩
        have HO2 := Aside0.mk (show Kd.N (Kd.slice 5 (Kd.int .u8)) 26 W w.heap.size (fun k_ => (P0_ k_ ∨ w.heap.size ≤ k_)) (.slice (some ad1) out.length c1) out from by rw [← hW]; exact Kd.N_drewN (Kd.N_drewN (Kd.N_drewN HO.out _) _) _)
        have HB2 := Aside0.mk (show Below w.heap.size w W from by rw [← hW]; exact pw_below_drewN (pw_below_drewN (pw_below_drewN HB.out _) _) _)
        have HF2 := Aside0.mk (show Kd.F (Kd.int .u8) W (fun k_ => (P0_ k_ ∧ k_ < w.heap.size)) Ai x.length x from by rw [← hW]; exact Kd.F_drewN (Kd.F_drewN (Kd.F_drewN HFi.out _) _) _)
        have hxW : W.cell? (ad.add k) = some (.slice Ai x.length ci) := by rw [← hW]; simpa using hxi
        rw [hW]
        clear hW HO HB HS HV1 hxi
        obtain ⟨hn_, hc_, hFo⟩ := Hand.N_view HO2.out
        obtain ⟨A2, n2, c2, hn2, hnc2, hcut2, hFd⟩ := Hand.cut_drop (P := Try.prog) 22 .i64 Try.underlying22 (by kernel_rfl) hFo hc_ j (by omega)
        obtain ⟨n3, hn3, hnc3, hcut3, hFt⟩ := Hand.cut_take (P := Try.prog) 22 .i64 Try.underlying22 (by kernel_rfl) hFo hc_ j (by omega)
        have b2 : n2 ≤ 1000000 := by rw [hn2, List.length_drop]; omega
        have b3 : n3 ≤ 1000000 := by rw [hn3, List.length_take]; omega
        have b4 : n3 = (out.take j).length := hn3
        have b5 := hn2
        obtain ⟨ro, hro⟩ : ∃ ro_, out.drop j = ro_ := ⟨_, rfl⟩
        obtain ⟨lo, hlo⟩ : ∃ lo_, out.take j = lo_ := ⟨_, rfl⟩
        have hT2 := HT1.out
        rw [hro] at b5 hFd hT2
        rw [hlo] at hFt hT2 b4
        have hws := HB2.out.size
        have HWS := Aside0.mk hws
        have HFd := Aside0.mk hFd
        have HFt := Aside0.mk hFt
        have HT2 := Aside0.mk hT2
        have HB4 := Aside0.mk b4
        have HB5n := Aside0.mk b5
        clear hn2 hn3 hFd hFt hFo hn_ hws hro hlo hT2 b4 b5 HT1 HT
        go_wp2_with (first | ((with_reducible refine gate_dst (N := 53) rfl ?_); refine Kd.N_append_rows (Kd.slice 5 (Kd.int .u8)) (w0 := W) W.heap.size rfl (.tmp 49) (.tmp 52) 22 26 (.slice none 0 0) 24 rfl Try.underlying22 info26 rfl (by decide) (by decide) (.slice (some ⟨W.heap.size, 0, none⟩) 0 0) [] ro A2 n2 c2 (fun k_ => (P0_ k_ ∨ w.heap.size ≤ k_)) (fun k_ => (P0_ k_ ∨ w.heap.size ≤ k_) ∧ k_ < W.heap.size) rfl rfl (Hand.N_lit0 _ _ (Nat.le_refl _) (.inr HWS.out)) (Kd.F_alloc HFd.out _) (fun k_ hk => ⟨hk.1, fun e => by simp [Value.ownBlock] at e; have := hk.2; omega⟩) (fun k_ hk => .inr (by have := HWS.out; simp at hk; omega)) ((Below.refl _ _).alloc (Nat.le_refl _) _) (by simp) (by simp; omega) ?_; intro v5 w5 ho hb hg hat; obtain ⟨A5, c5, rfl⟩ := Kd.N_slice ho; rw [List.nil_append] at ho ⊢; have HO5 := Aside0.mk ho; have HB5 := Aside0.mk hb; clear ho hb hg hat))
        obtain ⟨hn_, hc6, hFr⟩ := Hand.N_view HO5.out
        have HFr := Aside0.mk hFr
        have hx5 : w5.cell? (ad.add k) = some (.slice Ai x.length ci) := (HB5.out.cell (World.block_lt_of_cell? _ _ hxW)).trans hxW
        have HFx5 := Aside0.mk (Kd.F_below HF2.out HB5.out)
        have HFt5 := Aside0.mk (Kd.F_below HFt.out HB5.out)
        have HWL := Aside0.mk (show W.heap.size ≤ w5.heap.size from HB5.out.size)
        clear hn_ hFr hxW HF2 HFt HFd
        obtain ⟨H5, hH5⟩ : ∃ H, w5.heap.size = H := ⟨_, rfl⟩
        have HH5 := Aside0.mk hH5
        clear hH5
        go_region_held3 (fun w' => w'.cell? (ad.add k) = some (.slice Ai x.length ci)) (go_keep) (first | (refine Kd.N_append_rows_step (Kd.slice 5 (Kd.int .u8)) (w0 := w5) w5.heap.size (by rfl) (.tmp 54) (.tmp 57) 22 26 (.slice none 0 0) 24 (by rfl) Try.underlying22 info26 rfl (by decide) (by decide) (.slice (some ⟨_, 0, none⟩) 0 0) [] lo _ n3 _ (fun k_ => (P0_ k_ ∨ w.heap.size ≤ k_)) (fun k_ => (P0_ k_ ∨ w.heap.size ≤ k_) ∧ k_ < W.heap.size) (by rfl) (by rfl) (by first | exact Hand.N_lit0' _ _ _ (by simp) (by simp) (.inr (by have := HWS.out; have := HWL.out; omega)) | exact Kd.N_alloc (Hand.N_lit0' _ _ _ (by simp) (by simp) (.inr (by have := HWS.out; have := HWL.out; omega))) _) (by repeat (first | exact HFt5.out | apply Kd.F_drew | refine Kd.F_alloc ?_ _)) (fun k_ hk => ⟨hk.1, fun e => by have := HWL.out; have := hk.2; simp [Value.ownBlock] at e; omega⟩) (fun k_ hk => .inr (by have := HWS.out; have := HWL.out; (try simp at hk); omega)) (by repeat (first | exact Below.refl _ _ | apply below_drew1 | refine Below.alloc ?_ (by first | exact HS6.out | (simp; done) | (simp; omega) | omega) _)) (by first | (simp; done) | (simp; omega)) (by simp; omega) ?_; intro v6 w6 ho hb hg hat; have hx6 : w6.cell? (ad.add k) = some (.slice Ai x.length ci) := (hb.cell (World.block_lt_of_cell? _ _ hx5)).trans hx5; rw [List.nil_append] at ho; have HO6 := Aside0.mk ho; have HB6 := Aside0.mk hb; have HS6 := Aside0.mk hb.size; (first | (have HF1 := Aside0.mk (Kd.F_grown (Kd.F_drew (Hand.F_lit1' (e := 5) (w5.heap.size + 1) (by simp) (Kd.F_alloc HFx5.out _) hli 26 (fun k_ hk => by have := HWS.out; have := HWL.out; have := hk.2; omega))) hg (fun k_ hk e_ => by simp [Value.ownBlock] at e_; rcases hk with hk | hk <;> (have := HWS.out; have := HWL.out; (try have := hk.2); omega))); have HN1 := Aside0.mk (show some (w5.heap.size + 1) ≠ v6.ownBlock from (fun e_ => by rcases hat with h_ | ⟨b_, h_, hb_⟩ <;> (have e2_ := e_.trans h_; simp [Value.ownBlock] at e2_; try (simp at hb_; omega))))) | (have HF1 := Aside0.mk (Kd.F_grown (Kd.F_drew (Kd.F_alloc (Hand.F_lit1' (e := 5) (w5.heap.size) rfl HFx5.out hli 26 (fun k_ hk => by have := HWS.out; have := HWL.out; have := hk.2; omega)) _)) hg (fun k_ hk e_ => by simp [Value.ownBlock] at e_; rcases hk with hk | hk <;> (have := HWS.out; have := HWL.out; (try have := hk.2); omega))); have HN1 := Aside0.mk (show some (w5.heap.size) ≠ v6.ownBlock from (fun e_ => by rcases hat with h_ | ⟨b_, h_, hb_⟩ <;> (have e2_ := e_.trans h_; simp [Value.ownBlock] at e2_; try (simp at hb_; omega))))) | skip); clear ho hb hg hat) | (refine Kd.N_append_rows_step (Kd.slice 5 (Kd.int .u8)) (w0 := w5) w5.heap.size (by rfl) (.tmp 58) (.tmp 63) 22 26 (.slice none 0 0) 24 (by rfl) Try.underlying22 info26 rfl (by decide) (by decide) v6 lo [x] _ 1 _ (fun k_ => (P0_ k_ ∨ w.heap.size ≤ k_)) (fun k_ => (P0_ k_ ∧ k_ < w.heap.size) ∨ k_ = w6.heap.size) (by rfl) (by rfl) (Kd.N_alloc HO6.out _) (Hand.F_lit1' (e := 5) (w6.heap.size) rfl (Kd.F_below HFx5.out HB6.out) hli 26 (fun k_ hk => by have := HWS.out; have := HWL.out; have := HS6.out; have := hk.2; omega)) (fun k_ hk => hk.elim (fun hk => ⟨.inl hk.1, fun e_ => by have := Kd.N_base HO6.out _ e_.symm; have := HWS.out; have := HWL.out; have := hk.2; omega⟩) (fun hq_ => hq_ ▸ ⟨.inr (by have := HWS.out; have := HWL.out; have := HS6.out; omega), fun e_ => by have := Kd.N_lt HO6.out _ e_.symm; omega⟩)) (fun k_ hk => .inr (by have := HWS.out; have := HWL.out; have := HS6.out; (try simp at hk); omega)) (by repeat (first | exact HB6.out | apply below_drew1 | refine Below.alloc ?_ (by first | exact HS6.out | (simp; done) | (simp; omega) | omega) _)) (by have := HS6.out; first | omega | (simp; omega)) (by have := HB4.out; omega) ?_; intro v7 w7 ho hb hg hat; have hx7 : w7.cell? (ad.add k) = some (.slice Ai x.length ci) := (hb.cell (World.block_lt_of_cell? _ _ hx5)).trans hx5; have HO7 := Aside0.mk ho; have HB7 := Aside0.mk hb; have HS7 := Aside0.mk hb.size; clear ho hb hg hat HO6 HB6 hx6; (try clear HF1); (try clear HN1)) | (refine Kd.N_append_rows_step (Kd.slice 5 (Kd.int .u8)) (w0 := w5) w5.heap.size (by rfl) (.tmp 58) (.tmp 63) 22 26 (.slice none 0 0) 24 (by rfl) Try.underlying22 info26 rfl (by decide) (by decide) v6 lo [x] _ 1 _ (fun k_ => (P0_ k_ ∨ w.heap.size ≤ k_)) (fun k_ => (P0_ k_ ∧ k_ < w.heap.size) ∨ k_ = w5.heap.size + 1) (by rfl) (by rfl) HO6.out HF1.out (fun k_ hk => hk.elim (fun hk => ⟨.inl hk.1, fun e_ => by have := Kd.N_base HO6.out _ e_.symm; have := HWS.out; have := HWL.out; have := hk.2; omega⟩) (fun hq_ => hq_ ▸ ⟨.inr (by have := HWS.out; have := HWL.out; have := HS6.out; omega), HN1.out⟩)) (fun k_ hk => .inr (by have := HWS.out; have := HWL.out; have := HS6.out; (try simp at hk); omega)) (by repeat (first | exact HB6.out | apply below_drew1 | refine Below.alloc ?_ (by first | exact HS6.out | (simp; done) | (simp; omega) | omega) _)) (by have := HS6.out; first | omega | (simp; omega)) (by have := HB4.out; omega) ?_; intro v7 w7 ho hb hg hat; have hx7 : w7.cell? (ad.add k) = some (.slice Ai x.length ci) := (hb.cell (World.block_lt_of_cell? _ _ hx5)).trans hx5; have HO7 := Aside0.mk ho; have HB7 := Aside0.mk hb; have HS7 := Aside0.mk hb.size; clear ho hb hg hat HO6 HB6 hx6; (try clear HF1); (try clear HN1)) | (refine Kd.N_append_rows_step (Kd.slice 5 (Kd.int .u8)) (w0 := w5) w5.heap.size (by rfl) (.tmp 58) (.tmp 63) 22 26 (.slice none 0 0) 24 (by rfl) Try.underlying22 info26 rfl (by decide) (by decide) v6 lo [x] _ 1 _ (fun k_ => (P0_ k_ ∨ w.heap.size ≤ k_)) (fun k_ => (P0_ k_ ∧ k_ < w.heap.size) ∨ k_ = w5.heap.size) (by rfl) (by rfl) HO6.out HF1.out (fun k_ hk => hk.elim (fun hk => ⟨.inl hk.1, fun e_ => by have := Kd.N_base HO6.out _ e_.symm; have := HWS.out; have := HWL.out; have := hk.2; omega⟩) (fun hq_ => hq_ ▸ ⟨.inr (by have := HWS.out; have := HWL.out; have := HS6.out; omega), HN1.out⟩)) (fun k_ hk => .inr (by have := HWS.out; have := HWL.out; have := HS6.out; (try simp at hk); omega)) (by repeat (first | exact HB6.out | apply below_drew1 | refine Below.alloc ?_ (by first | exact HS6.out | (simp; done) | (simp; omega) | omega) _)) (by have := HS6.out; first | omega | (simp; omega)) (by have := HB4.out; omega) ?_; intro v7 w7 ho hb hg hat; have hx7 : w7.cell? (ad.add k) = some (.slice Ai x.length ci) := (hb.cell (World.block_lt_of_cell? _ _ hx5)).trans hx5; have HO7 := Aside0.mk ho; have HB7 := Aside0.mk hb; have HS7 := Aside0.mk hb.size; clear ho hb hg hat HO6 HB6 hx6; (try clear HF1); (try clear HN1)) | (refine Kd.N_append_rows_step (Kd.slice 5 (Kd.int .u8)) (w0 := w5) w5.heap.size (by rfl) (.tmp 64) (.tmp 65) 22 26 (.slice none 0 0) 24 (by rfl) Try.underlying22 info26 rfl (by decide) (by decide) v7 (lo ++ [x]) ro A5 ro.length c5 (fun k_ => (P0_ k_ ∨ w.heap.size ≤ k_)) (fun k_ => (P0_ k_ ∨ w.heap.size ≤ k_) ∧ k_ < w5.heap.size) (by rfl) (by rfl) HO7.out (Kd.F_below HFr.out HB7.out) (fun k_ hk => ⟨hk.1, fun e_ => by have := Kd.N_base HO7.out _ e_.symm; have := hk.2; omega⟩) (fun k_ hk => .inr (by have := HWS.out; have := HWL.out; have := HS7.out; (try simp at hk); omega)) HB7.out HS7.out (by have := HB4.out; have := HB5n.out; simp; omega) ?_; intro v8 w8 ho hb hg hat; have hx8 : w8.cell? (ad.add k) = some (.slice Ai x.length ci) := (hb.cell (World.block_lt_of_cell? _ _ hx5)).trans hx5; have HO8 := Aside0.mk ho; have HB8 := Aside0.mk hb; clear ho hb hg hat HO7 HB7 hx7))
        all_goals
         go_wp2
         go_roundw
         case rel => exact ⟨k + 1, by omega, by go_num, ⟨by rw [HT2.out]; exact Kd.N_lower HO8.out (Nat.le_trans HWS.out HWL.out)⟩, ⟨below_step (below_step HB2.out HB5.out) HB8.out⟩⟩
         case measure => simp [intOf]; omega
     ·have d1 : decide (j < out.length) = false := decide_eq_false hjo
      have hT1 := HT.out
      rw [if_neg (fun h_ => by omega)] at hT1
      rw [show srtK x out = j by omega] at hT1
      have HT1 := Aside0.mk hT1
      clear hT1
      go_wp2
      go_quiet (fail)
      rename Nat => na
      go_wp2
      go_quiet (fail)
      go_upto_region 9 with (fail)
      obtain ⟨W, hW⟩ : ∃ W : World, ((wo.drewN m).drewN na).drewN nq = W := ⟨_, rfl⟩
      have HO2 := Aside0.mk (show Kd.N (Kd.slice 5 (Kd.int .u8)) 26 W w.heap.size (fun k_ => (P0_ k_ ∨ w.heap.size ≤ k_)) (.slice A1 out.length c1) out from by rw [← hW]; exact Kd.N_drewN (Kd.N_drewN (Kd.N_drewN HO.out _) _) _)
      have HB2 := Aside0.mk (show Below w.heap.size w W from by rw [← hW]; exact pw_below_drewN (pw_below_drewN (pw_below_drewN HB.out _) _) _)
      have HF2 := Aside0.mk (show Kd.F (Kd.int .u8) W (fun k_ => (P0_ k_ ∧ k_ < w.heap.size)) Ai x.length x from by rw [← hW]; exact Kd.F_drewN (Kd.F_drewN (Kd.F_drewN HFi.out _) _) _)
      have hxW : W.cell? (ad.add k) = some (.slice Ai x.length ci) := by rw [← hW]; simpa using hxi
      rw [hW]
      clear hW HO HB HS HV1 hxi
      obtain ⟨hn_, hc_, hFo⟩ := Hand.N_view HO2.out
      obtain ⟨A2, n2, c2, hn2, hnc2, hcut2, hFd⟩ := Hand.cut_drop (P := Try.prog) 22 .i64 Try.underlying22 (by kernel_rfl) hFo hc_ j (by omega)
      obtain ⟨n3, hn3, hnc3, hcut3, hFt⟩ := Hand.cut_take (P := Try.prog) 22 .i64 Try.underlying22 (by kernel_rfl) hFo hc_ j (by omega)
      have b2 : n2 ≤ 1000000 := by rw [hn2, List.length_drop]; omega
      have b3 : n3 ≤ 1000000 := by rw [hn3, List.length_take]; omega
      have b4 : n3 = (out.take j).length := hn3
      have b5 := hn2
      obtain ⟨ro, hro⟩ : ∃ ro_, out.drop j = ro_ := ⟨_, rfl⟩
      obtain ⟨lo, hlo⟩ : ∃ lo_, out.take j = lo_ := ⟨_, rfl⟩
      have hT2 := HT1.out
      rw [hro] at b5 hFd hT2
      rw [hlo] at hFt hT2 b4
      have hws := HB2.out.size
      have HWS := Aside0.mk hws
      have HFd := Aside0.mk hFd
      have HFt := Aside0.mk hFt
      have HT2 := Aside0.mk hT2
      have HB4 := Aside0.mk b4
      have HB5n := Aside0.mk b5
      clear hn2 hn3 hFd hFt hFo hn_ hws hro hlo hT2 b4 b5 HT1 HT
      go_wp2_with (first | ((with_reducible refine gate_dst (N := 53) rfl ?_); refine Kd.N_append_rows (Kd.slice 5 (Kd.int .u8)) (w0 := W) W.heap.size rfl (.tmp 49) (.tmp 52) 22 26 (.slice none 0 0) 24 rfl Try.underlying22 info26 rfl (by decide) (by decide) (.slice (some ⟨W.heap.size, 0, none⟩) 0 0) [] ro A2 n2 c2 (fun k_ => (P0_ k_ ∨ w.heap.size ≤ k_)) (fun k_ => (P0_ k_ ∨ w.heap.size ≤ k_) ∧ k_ < W.heap.size) rfl rfl (Hand.N_lit0 _ _ (Nat.le_refl _) (.inr HWS.out)) (Kd.F_alloc HFd.out _) (fun k_ hk => ⟨hk.1, fun e => by simp [Value.ownBlock] at e; have := hk.2; omega⟩) (fun k_ hk => .inr (by have := HWS.out; simp at hk; omega)) ((Below.refl _ _).alloc (Nat.le_refl _) _) (by simp) (by simp; omega) ?_; intro v5 w5 ho hb hg hat; obtain ⟨A5, c5, rfl⟩ := Kd.N_slice ho; rw [List.nil_append] at ho ⊢; have HO5 := Aside0.mk ho; have HB5 := Aside0.mk hb; clear ho hb hg hat))
      obtain ⟨hn_, hc6, hFr⟩ := Hand.N_view HO5.out
      have HFr := Aside0.mk hFr
      have hx5 : w5.cell? (ad.add k) = some (.slice Ai x.length ci) := (HB5.out.cell (World.block_lt_of_cell? _ _ hxW)).trans hxW
      have HFx5 := Aside0.mk (Kd.F_below HF2.out HB5.out)
      have HFt5 := Aside0.mk (Kd.F_below HFt.out HB5.out)
      have HWL := Aside0.mk (show W.heap.size ≤ w5.heap.size from HB5.out.size)
      clear hn_ hFr hxW HF2 HFt HFd
      obtain ⟨H5, hH5⟩ : ∃ H, w5.heap.size = H := ⟨_, rfl⟩
      have HH5 := Aside0.mk hH5
      clear hH5
      go_region_held3 (fun w' => w'.cell? (ad.add k) = some (.slice Ai x.length ci)) (go_keep) (first | (refine Kd.N_append_rows_step (Kd.slice 5 (Kd.int .u8)) (w0 := w5) w5.heap.size (by rfl) (.tmp 54) (.tmp 57) 22 26 (.slice none 0 0) 24 (by rfl) Try.underlying22 info26 rfl (by decide) (by decide) (.slice (some ⟨_, 0, none⟩) 0 0) [] lo _ n3 _ (fun k_ => (P0_ k_ ∨ w.heap.size ≤ k_)) (fun k_ => (P0_ k_ ∨ w.heap.size ≤ k_) ∧ k_ < W.heap.size) (by rfl) (by rfl) (by first | exact Hand.N_lit0' _ _ _ (by simp) (by simp) (.inr (by have := HWS.out; have := HWL.out; omega)) | exact Kd.N_alloc (Hand.N_lit0' _ _ _ (by simp) (by simp) (.inr (by have := HWS.out; have := HWL.out; omega))) _) (by repeat (first | exact HFt5.out | apply Kd.F_drew | refine Kd.F_alloc ?_ _)) (fun k_ hk => ⟨hk.1, fun e => by have := HWL.out; have := hk.2; simp [Value.ownBlock] at e; omega⟩) (fun k_ hk => .inr (by have := HWS.out; have := HWL.out; (try simp at hk); omega)) (by repeat (first | exact Below.refl _ _ | apply below_drew1 | refine Below.alloc ?_ (by first | exact HS6.out | (simp; done) | (simp; omega) | omega) _)) (by first | (simp; done) | (simp; omega)) (by simp; omega) ?_; intro v6 w6 ho hb hg hat; have hx6 : w6.cell? (ad.add k) = some (.slice Ai x.length ci) := (hb.cell (World.block_lt_of_cell? _ _ hx5)).trans hx5; rw [List.nil_append] at ho; have HO6 := Aside0.mk ho; have HB6 := Aside0.mk hb; have HS6 := Aside0.mk hb.size; (first | (have HF1 := Aside0.mk (Kd.F_grown (Kd.F_drew (Hand.F_lit1' (e := 5) (w5.heap.size + 1) (by simp) (Kd.F_alloc HFx5.out _) hli 26 (fun k_ hk => by have := HWS.out; have := HWL.out; have := hk.2; omega))) hg (fun k_ hk e_ => by simp [Value.ownBlock] at e_; rcases hk with hk | hk <;> (have := HWS.out; have := HWL.out; (try have := hk.2); omega))); have HN1 := Aside0.mk (show some (w5.heap.size + 1) ≠ v6.ownBlock from (fun e_ => by rcases hat with h_ | ⟨b_, h_, hb_⟩ <;> (have e2_ := e_.trans h_; simp [Value.ownBlock] at e2_; try (simp at hb_; omega))))) | (have HF1 := Aside0.mk (Kd.F_grown (Kd.F_drew (Kd.F_alloc (Hand.F_lit1' (e := 5) (w5.heap.size) rfl HFx5.out hli 26 (fun k_ hk => by have := HWS.out; have := HWL.out; have := hk.2; omega)) _)) hg (fun k_ hk e_ => by simp [Value.ownBlock] at e_; rcases hk with hk | hk <;> (have := HWS.out; have := HWL.out; (try have := hk.2); omega))); have HN1 := Aside0.mk (show some (w5.heap.size) ≠ v6.ownBlock from (fun e_ => by rcases hat with h_ | ⟨b_, h_, hb_⟩ <;> (have e2_ := e_.trans h_; simp [Value.ownBlock] at e2_; try (simp at hb_; omega))))) | skip); clear ho hb hg hat) | (refine Kd.N_append_rows_step (Kd.slice 5 (Kd.int .u8)) (w0 := w5) w5.heap.size (by rfl) (.tmp 58) (.tmp 63) 22 26 (.slice none 0 0) 24 (by rfl) Try.underlying22 info26 rfl (by decide) (by decide) v6 lo [x] _ 1 _ (fun k_ => (P0_ k_ ∨ w.heap.size ≤ k_)) (fun k_ => (P0_ k_ ∧ k_ < w.heap.size) ∨ k_ = w6.heap.size) (by rfl) (by rfl) (Kd.N_alloc HO6.out _) (Hand.F_lit1' (e := 5) (w6.heap.size) rfl (Kd.F_below HFx5.out HB6.out) hli 26 (fun k_ hk => by have := HWS.out; have := HWL.out; have := HS6.out; have := hk.2; omega)) (fun k_ hk => hk.elim (fun hk => ⟨.inl hk.1, fun e_ => by have := Kd.N_base HO6.out _ e_.symm; have := HWS.out; have := HWL.out; have := hk.2; omega⟩) (fun hq_ => hq_ ▸ ⟨.inr (by have := HWS.out; have := HWL.out; have := HS6.out; omega), fun e_ => by have := Kd.N_lt HO6.out _ e_.symm; omega⟩)) (fun k_ hk => .inr (by have := HWS.out; have := HWL.out; have := HS6.out; (try simp at hk); omega)) (by repeat (first | exact HB6.out | apply below_drew1 | refine Below.alloc ?_ (by first | exact HS6.out | (simp; done) | (simp; omega) | omega) _)) (by have := HS6.out; first | omega | (simp; omega)) (by have := HB4.out; omega) ?_; intro v7 w7 ho hb hg hat; have hx7 : w7.cell? (ad.add k) = some (.slice Ai x.length ci) := (hb.cell (World.block_lt_of_cell? _ _ hx5)).trans hx5; have HO7 := Aside0.mk ho; have HB7 := Aside0.mk hb; have HS7 := Aside0.mk hb.size; clear ho hb hg hat HO6 HB6 hx6; (try clear HF1); (try clear HN1)) | (refine Kd.N_append_rows_step (Kd.slice 5 (Kd.int .u8)) (w0 := w5) w5.heap.size (by rfl) (.tmp 58) (.tmp 63) 22 26 (.slice none 0 0) 24 (by rfl) Try.underlying22 info26 rfl (by decide) (by decide) v6 lo [x] _ 1 _ (fun k_ => (P0_ k_ ∨ w.heap.size ≤ k_)) (fun k_ => (P0_ k_ ∧ k_ < w.heap.size) ∨ k_ = w5.heap.size + 1) (by rfl) (by rfl) HO6.out HF1.out (fun k_ hk => hk.elim (fun hk => ⟨.inl hk.1, fun e_ => by have := Kd.N_base HO6.out _ e_.symm; have := HWS.out; have := HWL.out; have := hk.2; omega⟩) (fun hq_ => hq_ ▸ ⟨.inr (by have := HWS.out; have := HWL.out; have := HS6.out; omega), HN1.out⟩)) (fun k_ hk => .inr (by have := HWS.out; have := HWL.out; have := HS6.out; (try simp at hk); omega)) (by repeat (first | exact HB6.out | apply below_drew1 | refine Below.alloc ?_ (by first | exact HS6.out | (simp; done) | (simp; omega) | omega) _)) (by have := HS6.out; first | omega | (simp; omega)) (by have := HB4.out; omega) ?_; intro v7 w7 ho hb hg hat; have hx7 : w7.cell? (ad.add k) = some (.slice Ai x.length ci) := (hb.cell (World.block_lt_of_cell? _ _ hx5)).trans hx5; have HO7 := Aside0.mk ho; have HB7 := Aside0.mk hb; have HS7 := Aside0.mk hb.size; clear ho hb hg hat HO6 HB6 hx6; (try clear HF1); (try clear HN1)) | (refine Kd.N_append_rows_step (Kd.slice 5 (Kd.int .u8)) (w0 := w5) w5.heap.size (by rfl) (.tmp 58) (.tmp 63) 22 26 (.slice none 0 0) 24 (by rfl) Try.underlying22 info26 rfl (by decide) (by decide) v6 lo [x] _ 1 _ (fun k_ => (P0_ k_ ∨ w.heap.size ≤ k_)) (fun k_ => (P0_ k_ ∧ k_ < w.heap.size) ∨ k_ = w5.heap.size) (by rfl) (by rfl) HO6.out HF1.out (fun k_ hk => hk.elim (fun hk => ⟨.inl hk.1, fun e_ => by have := Kd.N_base HO6.out _ e_.symm; have := HWS.out; have := HWL.out; have := hk.2; omega⟩) (fun hq_ => hq_ ▸ ⟨.inr (by have := HWS.out; have := HWL.out; have := HS6.out; omega), HN1.out⟩)) (fun k_ hk => .inr (by have := HWS.out; have := HWL.out; have := HS6.out; (try simp at hk); omega)) (by repeat (first | exact HB6.out | apply below_drew1 | refine Below.alloc ?_ (by first | exact HS6.out | (simp; done) | (simp; omega) | omega) _)) (by have := HS6.out; first | omega | (simp; omega)) (by have := HB4.out; omega) ?_; intro v7 w7 ho hb hg hat; have hx7 : w7.cell? (ad.add k) = some (.slice Ai x.length ci) := (hb.cell (World.block_lt_of_cell? _ _ hx5)).trans hx5; have HO7 := Aside0.mk ho; have HB7 := Aside0.mk hb; have HS7 := Aside0.mk hb.size; clear ho hb hg hat HO6 HB6 hx6; (try clear HF1); (try clear HN1)) | (refine Kd.N_append_rows_step (Kd.slice 5 (Kd.int .u8)) (w0 := w5) w5.heap.size (by rfl) (.tmp 64) (.tmp 65) 22 26 (.slice none 0 0) 24 (by rfl) Try.underlying22 info26 rfl (by decide) (by decide) v7 (lo ++ [x]) ro A5 ro.length c5 (fun k_ => (P0_ k_ ∨ w.heap.size ≤ k_)) (fun k_ => (P0_ k_ ∨ w.heap.size ≤ k_) ∧ k_ < w5.heap.size) (by rfl) (by rfl) HO7.out (Kd.F_below HFr.out HB7.out) (fun k_ hk => ⟨hk.1, fun e_ => by have := Kd.N_base HO7.out _ e_.symm; have := hk.2; omega⟩) (fun k_ hk => .inr (by have := HWS.out; have := HWL.out; have := HS7.out; (try simp at hk); omega)) HB7.out HS7.out (by have := HB4.out; have := HB5n.out; simp; omega) ?_; intro v8 w8 ho hb hg hat; have hx8 : w8.cell? (ad.add k) = some (.slice Ai x.length ci) := (hb.cell (World.block_lt_of_cell? _ _ hx5)).trans hx5; have HO8 := Aside0.mk ho; have HB8 := Aside0.mk hb; clear ho hb hg hat HO7 HB7 hx7))
      all_goals
       go_wp2
       go_roundw
       case rel => exact ⟨k + 1, by omega, by go_num, ⟨by rw [HT2.out]; exact Kd.N_lower HO8.out (Nat.le_trans HWS.out HWL.out)⟩, ⟨below_step (below_step HB2.out HB5.out) HB8.out⟩⟩
       case measure => simp [intOf]; omega
   ·obtain rfl : k = l0.length := by omega
    go_wp2
    go_ret
    exact ⟨_, rfl, by have h_ := HO.out; rw [List.take_length] at h_; exact h_, HB.out⟩
 ·rw [if_neg hl] at h
  exact absurd h (by simp)

end Go.Proofs.Ytaiechbdcddalaa.Print
