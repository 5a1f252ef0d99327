-- Written by a program of this session (wip/cprint.py), which calls the kit's print and adds contracts proved by hand.
import Derived.Test.YthnjeddcnkbebaaPrint0
import Derived.Test.YthnjeddcnkbebaaPrint1
namespace Go.Proofs.Ythnjeddcnkbebaa.Print
open Go.RowKit Go.Proofs.YthnjeddcnkbebaaW.PrintWords Go.Proofs.YthnjeddcnkbebaaW.PrintLast Go.Proofs.YthnjeddcnkbebaaW.PrintMore
attribute [local go_sem] max2_int min2_int max_two min_two max_three min_three max_four min_four   -- for this text's walks alone
set_option linter.unusedVariables false
set_option linter.unusedSimpArgs false

/-! ### creellaw10_list: function 7 -/
/-- Pieces of so many. -/
def chk (m : Nat) : Nat → List Int → List (List Int)
  | 0, _ => []
  | f + 1, r => if r.length = 0 then [] else r.take m :: chk m f (r.drop m)
def KpK (K : Nat → Prop) (A B : World) : Prop := A.heap.size ≤ B.heap.size ∧ ∀ k, K k → k < A.heap.size → B.heap[k]? = A.heap[k]?
theorem KpK.refl (K : Nat → Prop) (A : World) : KpK K A A := ⟨Nat.le_refl _, fun _ _ _ => rfl⟩
theorem KpK.trans {K : Nat → Prop} {A B C : World} (h : KpK K A B) (k : KpK K B C) : KpK K A C := ⟨Nat.le_trans h.1 k.1, fun i hi hlt => (k.2 i hi (Nat.lt_of_lt_of_le hlt h.1)).trans (h.2 i hi hlt)⟩
theorem KpK.cell {K : Nat → Prop} {A B : World} (h : KpK K A B) {a : Addr} {v : Value} (hK : K a.block) (hc : A.cell? a = some v) : B.cell? a = some v := by
  have hlt := World.block_lt_of_cell? A a hc
  simp only [World.cell?] at hc ⊢
  rw [h.2 _ hK hlt]; exact hc
theorem KpK.F {K : Nat → Prop} {A B : World} (h : KpK K A B) {k : IntKind} {ad : Option Addr} {xs : List Int} {n : Nat} (hF : Kd.F (Kd.int k) A K ad n xs) : Kd.F (Kd.int k) B K ad n xs := Kd.F_step hF (fun i hi hlt => h.2 i hi hlt)
set_option maxHeartbeats 4000000 in
set_option maxRecDepth 100000 in
theorem chunk1_seq (F : Fence) (n : Nat) (hF : F.fn 24) (hro : F.round = none) (hn : 1 ≤ n) (W : World) (Bs Bn : Nat) (Ad : Option Addr) (c : Nat) (l0 : List Int) (m : Nat) (hm : 0 < m) (hm2 : m ≤ 1000000) (K0 : Nat → Prop)
    (hs : W.cell? ⟨Bs, 0, none⟩ = some (.slice Ad l0.length c)) (hnn : W.cell? ⟨Bn, 0, none⟩ = some (.int .i64 m)) (hKs : K0 Bs) (hKn : K0 Bn) (hF0 : Kd.F (Kd.int .u8) W K0 Ad l0.length l0) (hc : l0.length ≤ c) (hl : l0.length ≤ 1000000) :
    Hand.SeqC F n Try.prog 24 #[.pointer (some ⟨Bs, 0, none⟩), .pointer (some ⟨Bn, 0, none⟩)] (fun x : Option Addr × List Int => #[.slice x.1 x.2.length x.2.length]) (fun x W => Kd.C (Kd.int .u8) W x.1 x.2.length x.2)
      (fun A B => ∃ q, B = A.drewN q) (KpK K0) (fun xs => xs.map (·.2) = chk m (l0.length + 1) l0) (fun xs => xs.map (·.2) <+: chk m (l0.length + 1) l0) W := by
  intro l J Jx hJ hJx hY h0
  generalize hRR : chk m (l0.length + 1) l0 = R
  have HRR := Aside0.mk hRR
  clear hRR
  refine callsIn_of_wp Try.func24 rfl hF ?_ hro
  simp only [Try.ntmps24, List.size_toArray, List.length_cons, List.length_nil, Nat.reduceAdd, Nat.reduceSub, Array.replicate_succ, Array.replicate_zero, List.push_toArray, List.append_toArray, List.nil_append, List.cons_append]
  gi_wp2
  gi_loopw [4] (fun v wr => ∃ (i f : Nat) (pre : List (Option Addr × List Int)), v = .int .i64 i ∧ i ≤ l0.length + m ∧ l0.length ≤ i + f ∧ Aside0 (pre.map (·.2) ++ chk m (f + 1) (l0.drop i) = R) ∧ J pre wr ∧ Aside0 (KpK K0 W wr)) (fun v _ => l0.length + m - (intOf v).toNat)
  case atStart => exact ⟨0, l0.length, [], rfl, Nat.zero_le _, by omega, ⟨by simpa using HRR.out⟩, h0, ⟨KpK.refl _ _⟩⟩
  case round =>
    obtain ⟨i, f, pre, rfl, hi, hf, HE, hJs, HK⟩ := hrel
    have hsr := HK.out.cell (a := ⟨Bs, 0, none⟩) hKs hs
    have hnr := HK.out.cell (a := ⟨Bn, 0, none⟩) hKn hnn
    by_cases hlt : i < l0.length
    · have he := HE.out
      unfold chk at he
      rw [List.length_drop, if_neg (by omega)] at he
      obtain ⟨g, rfl⟩ : ∃ g, f = g + 1 := ⟨f - 1, by omega⟩
      rw [List.drop_drop] at he
      obtain ⟨e, hee⟩ : ∃ e, min m (l0.length - i) = e := ⟨_, rfl⟩
      have he1 : 0 < e ∧ e ≤ m ∧ i + e ≤ l0.length := by omega
      obtain ⟨A2, n2, c2, hn2, hnc2, hcut2, -⟩ := Hand.cut_drop (P := Try.prog) 23 .i64 Try.underlying23 (by kernel_rfl) (HK.out.F hF0) hc i (by omega)
      obtain ⟨A3, n3, hn3, hcut3, hF3⟩ := Hand.cut_full (P := Try.prog) 23 .i64 .i64 .i64 Try.underlying23 (by kernel_rfl) (HK.out.F hF0) hc i (i + e) (by omega) (by omega)
      have q1 : (l0.take (i + e)).drop i = (l0.drop i).take m := by rw [List.drop_take, List.take_eq_take_iff, List.length_drop]; omega
      rw [q1] at hn3 hF3
      rw [List.length_drop] at hn2
      generalize (l0.drop i).take m = y at *
      subst hn3
      subst hn2
      rw [show ((i + e : Nat) : Int) = (i : Int) + (e : Int) from by omega] at hcut3
      have hcut3' := hcut3
      have HC3 := Aside0.mk hF3
      have hif : (if l0.length - i < m then ((l0.length - i : Nat) : Int) else (m : Int)) = (e : Int) := by split <;> omega
      have HIF := Aside0.mk hif
      have HE1 := Aside0.mk he1
      have HEE := Aside0.mk hee
      have HE2 := Aside0.mk he
      clear hif hee he HE hcut3' hF3
      have p1 : (0 : Int) ≤ (i : Int) := by omega
      have p2 : (i : Int) < (l0.length : Int) := by omega
      gi_wp2
      refine wpIn_region_quiet_lit hro (by kernel_rfl) (by kernel_rfl) ?_
      repeat (gi_big_quiet_step (fail))
      refine wpQuietIn_nil ?_
      rintro _ ⟨nq, rfl⟩
      rw [HIF.out]
      have hJq := hJ _ _ _ hJs ⟨nq, rfl⟩
      have HKq : KpK K0 W (wr.drewN nq) := HK.out.trans ⟨Nat.le_refl _, fun _ _ _ => rfl⟩
      have hsq := HKq.cell (a := ⟨Bs, 0, none⟩) hKs hs
      have hnq := HKq.cell (a := ⟨Bn, 0, none⟩) hKn hnn
      have hsp : (pre ++ [(A3, y)]).map (·.2) <+: chk m (l0.length + 1) l0 := ⟨_, by rw [HRR.out, List.map_append]; exact (List.append_assoc _ _ _).trans HE2.out⟩
      have HSP := Aside0.mk hsp
      obtain ⟨fn, tmps, assign, body, hy, hR⟩ := hY pre (A3, y) _ hJq (Kd.F_now (Kd.F_drewN HC3.out nq)) hsp
      clear hsp
      have HKQ := Aside0.mk HKq
      clear HKq hJs hsr hnr HK
      gi_wp2
      refine hR.mono ?_
      rintro e' W3 (⟨rfl, hJ3, hk3⟩ | ⟨rfl, hJx3, -⟩)
      · have hn3 := (HKQ.out.trans hk3).cell (a := ⟨Bn, 0, none⟩) hKn hnn
        have HK3 := Aside0.mk (HKQ.out.trans hk3)
        gi_wp2
        go_roundw
        case rel => exact ⟨i + m, g, pre ++ [(A3, y)], by go_num, by omega, by omega, ⟨by rw [List.map_append, List.append_assoc]; exact HE2.out⟩, hJ3, HK3⟩
        case measure => simp [intOf]; omega
      · gi_wp2
        refine bodyPost_ret (results_none rfl _ _ _) rfl ?_
        exact ⟨⟨_, rfl⟩, .inr ⟨_, (by rw [← HRR.out]; exact HSP.out), hJx3⟩⟩
    · have he := HE.out
      unfold chk at he
      rw [List.length_drop, if_pos (by omega), List.append_nil] at he
      gi_wp2
      go_end0
      exact ⟨⟨_, rfl⟩, .inl ⟨pre, he, hJs⟩⟩
set_option maxHeartbeats 4000000 in
theorem chunk0_calls (Ad : Option Addr) (len c : Nat) (w : World) :
    Calls Try.prog 21 #[.slice Ad len c, .int .i64 8] w fun e w' => e = .returned (.func (.func 24) #[] #[.pointer (some ⟨w.heap.size, 0, none⟩), .pointer (some ⟨w.heap.size + 1, 0, none⟩)]) ∧ w' = (w.alloc (.cells #[.slice Ad len c] 23)).alloc (.cells #[.int .i64 8] 3) := by
  go_enter Try.func21, Try.ntmps21
  go_wp2
  go_ret
  exact ⟨rfl, rfl⟩
set_option maxHeartbeats 4000000 in
theorem cutPrefix_calls (Ad : Option Addr) (c : Nat) (l0 : List Int) (g : Nat) (w : World) (hr0 : Kd.C (Kd.int .u8) w Ad l0.length l0) (hc : l0.length ≤ c) (hg : Kd.C (Kd.int .u8) w (some ⟨g, 0, none⟩) 8 Hand.headN) (hl : l0.length ≤ 1000000) :
    Calls Try.prog 20 #[.slice Ad l0.length c, .slice (some ⟨g, 0, none⟩) 8 8] w fun e w' => (∃ v, e = .returned (.tuple #[v, .bool (decide (Hand.isHead l0))]) ∧ (Hand.isHead l0 → (∀ W : World, (Instr.slice 23 (.slice Ad l0.length c) (some (.int .i64 8)) none none).run Try.prog W = .ok v W))) ∧ w' = w := by
  have hsh := Kd.C_string (P := Try.prog) (A := some ⟨g, 0, none⟩) (c := 8) Try.underlying23 Try.underlying5 Try.underlying9 hg
  have hsn : (strOfNums Hand.headN).toList = Hand.headB := by decide +kernel
  by_cases h8 : 8 ≤ l0.length
  · have hn8 : (l0.take 8).length = 8 := by rw [List.length_take]; omega
    obtain ⟨i5, hi5, -, hsz5, -⟩ := info_parts info5
    have hcut8 : ∀ W : World, (Instr.slice 23 (.slice Ad l0.length c) none (some (.int .i64 8)) none).run Try.prog W = .ok (.slice Ad 8 c) W := cut_to (P := Try.prog) 23 5 .i64 Try.underlying23 hi5 Ad l0.length c 8 (by decide) (by omega) hc
    have hcutd := cut_from (P := Try.prog) 23 5 .i64 Try.underlying23 hi5 1 hsz5 Ad l0.length c 8 (by decide) (by omega)
    obtain ⟨vd, hvd⟩ : ∃ vd, (Value.slice (if c = (8 : Int).toNat then Ad else Ad.map (·.add ((8 : Int).toNat * 1))) (l0.length - (8 : Int).toNat) (c - (8 : Int).toNat)) = vd := ⟨_, rfl⟩
    rw [hvd] at hcutd
    have hC8 := Kd.C_take hr0 h8
    rw [hn8] at hC8
    have hs8 := Kd.C_string (P := Try.prog) (A := Ad) (c := c) (xs := l0.take 8) Try.underlying23 Try.underlying5 Try.underlying9 hC8
    have d8 : decide (8 ≤ l0.length) = true := decide_eq_true h8
    have e8 : decide ((8 : Int) ≤ (l0.length : Int)) = true := decide_eq_true (by omega)
    clear hC8 hn8 hi5 hsz5 hvd
    by_cases hh : Hand.isHead l0
    · have hb : ((strOfNums (l0.take 8)).toList == (strOfNums Hand.headN).toList) = true := by rw [hsn]; exact beq_iff_eq.mpr hh.2
      have HH := Aside0.mk hh
      have hd : decide (Hand.isHead l0) = true := decide_eq_true hh
      clear hh hsn
      rw [hd]
      clear hd
      have HCD := Aside0.mk hcutd
      go_enter Try.func20, Try.ntmps20
      go_wp2
      go_ret2
      exact ⟨⟨vd, rfl, fun _ => HCD.out⟩, rfl⟩
    · have hb : ((strOfNums (l0.take 8)).toList == (strOfNums Hand.headN).toList) = false := by rw [hsn]; exact beq_eq_false_iff_ne.mpr (fun h => hh ⟨h8, h⟩)
      have HH := Aside0.mk hh
      have hd : decide (Hand.isHead l0) = false := decide_eq_false hh
      clear hh hsn
      rw [hd]
      clear hd
      go_enter Try.func20, Try.ntmps20
      go_wp2
      go_ret2
      exact ⟨⟨_, rfl, fun h => absurd h HH.out⟩, rfl⟩
  · have hh : ¬ Hand.isHead l0 := fun h => h8 h.1
    have HH := Aside0.mk hh
    have hd : decide (Hand.isHead l0) = false := decide_eq_false hh
    have d8 : decide (8 ≤ l0.length) = false := decide_eq_false h8
    have e8 : decide ((8 : Int) ≤ (l0.length : Int)) = false := decide_eq_false (by omega)
    clear hh hsn
    rw [hd]
    clear hd
    go_enter Try.func20, Try.ntmps20
    go_wp2
    go_ret2
    exact ⟨⟨_, rfl, fun h => absurd h HH.out⟩, rfl⟩
def TypB (M : Nat) (W : World) (k : Nat) : Prop := M ≤ k ∧ ∃ C fr, W.heap[k]? = some (.cells C 5 fr)
/-- What an iterator does between two rounds: its own blocks (from Bs on, ahead of Be), new ones. -/
def StpI (Bs Be : Nat) (A B : World) : Prop := A.heap.size ≤ B.heap.size ∧ (∀ k, k < A.heap.size → ¬ (Bs ≤ k ∧ k < Be) → B.heap[k]? = A.heap[k]?) ∧ B.os = A.os ∧ B.tape = A.tape ∧ B.output = A.output
theorem StpI.refl (Bs Be : Nat) (A : World) : StpI Bs Be A A := ⟨Nat.le_refl _, fun _ _ _ => rfl, rfl, rfl, rfl⟩
theorem StpI.trans {Bs Be : Nat} {A B C : World} (h : StpI Bs Be A B) (k : StpI Bs Be B C) : StpI Bs Be A C :=
  ⟨Nat.le_trans h.1 k.1, fun i hi hn => (k.2.1 i (Nat.lt_of_lt_of_le hi h.1) hn).trans (h.2.1 i hi hn), k.2.2.1.trans h.2.2.1, k.2.2.2.1.trans h.2.2.2.1, k.2.2.2.2.trans h.2.2.2.2⟩
theorem StpI.below {Bs Be : Nat} {A B : World} (h : Below A.heap.size A B) : StpI Bs Be A B := ⟨h.size, fun k hk _ => h.block k hk, h.os, h.tape, h.output⟩
theorem StpI.setCell {Bs Be : Nat} {A : World} {p : Addr} (h1 : Bs ≤ p.block) (h2 : p.block < Be) (u : Value) : StpI Bs Be A (A.setCell p u) :=
  ⟨by simp, fun k hk hn => Below.heap_setCell A p u k (fun e => hn (e ▸ ⟨h1, h2⟩)), rfl, rfl, rfl⟩
theorem StpI.putObj {Bs Be : Nat} {A : World} {l : Nat} (h1 : Bs ≤ l) (h2 : l < Be) (o : Obj) : StpI Bs Be A (A.putObj l o) :=
  ⟨by simp, fun k hk hn => World.putObj_heap_other (fun e => hn (e ▸ ⟨h1, h2⟩)), rfl, rfl, rfl⟩
theorem StpI.wide {Bs Be Bs' Be' : Nat} {A B : World} (h : StpI Bs Be A B) (h1 : Bs' ≤ Bs) (h2 : Be ≤ Be') : StpI Bs' Be' A B :=
  ⟨h.1, fun k hk hn => h.2.1 k hk (fun h => hn ⟨Nat.le_trans h1 h.1, Nat.lt_of_lt_of_le h.2 h2⟩), h.2.2⟩
theorem StpI.drew {Bs Be : Nat} (A : World) (q : Nat) : StpI Bs Be A (A.drewN q) := ⟨Nat.le_refl _, fun _ _ _ => rfl, rfl, rfl, rfl⟩
theorem StpI.cell {Bs Be : Nat} {A B : World} (h : StpI Bs Be A B) {a : Addr} {v : Value} (hn : a.block < Bs ∨ Be ≤ a.block) (hc : A.cell? a = some v) : B.cell? a = some v := by
  have hlt := World.block_lt_of_cell? A a hc
  simp only [World.cell?] at hc ⊢
  rw [h.2.1 _ hlt (by omega)]; exact hc
theorem R_typ {W : World} {base M : Nat} {ok : Nat → Prop} {v : Value} {xs : List Int} (h : Kd.R (Kd.int .u8) 5 W base ok v xs) (hM : M ≤ base) :
    ∃ A c, v = .slice A xs.length c ∧ xs.length ≤ c ∧ Kd.F (Kd.int .u8) W (TypB M W) A xs.length xs := by
  have h1 := Kd.R_mono (ok' := TypB M W) (Kd.R_bound h) (fun k hk => by
    obtain ⟨_, hb, _, q, hq, C, hC⟩ := hk
    have hq' : q = 5 := by
      rcases List.mem_cons.1 hq with h | h
      · exact h
      · exact absurd h (List.not_mem_nil)
    subst hq'
    exact ⟨Nat.le_trans hM hb, C, _, hC⟩)
  obtain ⟨A, c, rfl⟩ := Kd.R_slice h1
  obtain ⟨_, hc, _⟩ := Kd.R_reads' h1
  exact ⟨A, c, rfl, hc, Kd.R_F h1⟩
theorem TypB.keep {M : Nat} {A B : World} (hb : ∀ k, M ≤ k → (∃ C fr, A.heap[k]? = some (.cells C 5 fr)) → B.heap[k]? = A.heap[k]?) {k : Nat} (h : TypB M A k) : TypB M B k := by
  obtain ⟨h1, C, fr, h2⟩ := h
  exact ⟨h1, C, fr, (hb k h1 ⟨C, fr, h2⟩).trans h2⟩
theorem F_typ {M : Nat} {A B : World} {ad : Option Addr} {n : Nat} {xs : List Int} (h : Kd.F (Kd.int .u8) A (TypB M A) ad n xs) (hb : ∀ k, M ≤ k → (∃ C fr, A.heap[k]? = some (.cells C 5 fr)) → B.heap[k]? = A.heap[k]?) : Kd.F (Kd.int .u8) B (TypB M B) ad n xs :=
  Kd.F_mono (Kd.F_step h (fun k hk _ => hb k hk.1 hk.2)) (fun _ hk => TypB.keep hb hk)
theorem F_typb {M : Nat} {A B : World} {ad : Option Addr} {n : Nat} {xs : List Int} (h : Kd.F (Kd.int .u8) A (TypB M A) ad n xs) (hb : Below A.heap.size A B) : Kd.F (Kd.int .u8) B (TypB M B) ad n xs :=
  F_typ h (fun k _ ⟨_, _, hk⟩ => hb.block k (Array.getElem?_eq_some_iff.1 hk).1)
theorem FK_typ {M : Nat} {A B : World} {x : S36} {cs : List Value} (h : Kd.FK k36 A (TypB M A) x cs) (hb : ∀ k, M ≤ k → (∃ C fr, A.heap[k]? = some (.cells C 5 fr)) → B.heap[k]? = A.heap[k]?) : Kd.FK k36 B (TypB M B) x cs :=
  Kd.FK_mono (Kd.FK_step h (fun k hk _ => hb k hk.1 hk.2)) (fun _ hk => TypB.keep hb hk)
theorem C_loop {A : World} {l : Nat} {r r' : Loop} {ad : Option Addr} {n : Nat} {xs : List Int} (h : Kd.C (Kd.int .u8) A ad n xs) (hl : A.heap[l]? = some (.loop r)) : Kd.C (Kd.int .u8) (A.putObj l (.loop r')) ad n xs := by
  have h1 := Kd.reads_of_C (d := (0 : Int)) h
  refine Kd.C_of_reads (d := (0 : Int)) ⟨h1.1, h1.2.1, fun hn => ?_⟩
  obtain ⟨b, hb, hc⟩ := h1.2.2 hn
  refine ⟨b, hb, fun i hi => ?_⟩
  have h2 := hc i hi
  have hne : (b.add i).block ≠ l := fun e => by
    simp only [World.cell?, e, hl] at h2
    simp at h2
  simp only [World.cell?] at h2 ⊢
  rw [World.putObj_heap_other hne]
  exact h2
theorem chk_flat (m : Nat) : ∀ (f : Nat) (r : List Int), (chk m f r).flatten.length ≤ r.length
  | 0, _ => Nat.zero_le _
  | f + 1, r => by
    unfold chk
    split
    · exact Nat.zero_le _
    · have := chk_flat m f (r.drop m)
      rw [List.flatten_cons, List.length_append, List.length_take]
      rw [List.length_drop] at this
      omega
theorem chk_fuel (m : Nat) (hm : 0 < m) : ∀ (f f' : Nat) (r : List Int), r.length ≤ f → r.length ≤ f' → chk m f r = chk m f' r
  | 0, f', r, h, _ => by
    obtain rfl : r = [] := List.eq_nil_of_length_eq_zero (by omega)
    cases f' <;> simp [chk]
  | f + 1, 0, r, _, h => by
    obtain rfl : r = [] := List.eq_nil_of_length_eq_zero (by omega)
    simp [chk]
  | f + 1, f' + 1, r, h, h' => by
    unfold chk
    by_cases h0 : r.length = 0
    · rw [if_pos h0, if_pos h0]
    · rw [if_neg h0, if_neg h0, chk_fuel m hm f f' (r.drop m) (by rw [List.length_drop]; omega) (by rw [List.length_drop]; omega)]
theorem prefix_flat {a b : List (List Int)} (h : a <+: b) : a.flatten.length ≤ b.flatten.length := by
  obtain ⟨t, rfl⟩ := h
  rw [List.flatten_append, List.length_append]
  exact Nat.le_add_right _ _
/-- The items that pieces tell, from a place on. -/
def itemsC (p : Int) : List (List Int) → List S36
  | [] => []
  | y :: l => (if y.length = 8 then ⟨true, y.take 4, y.drop 4, 0, 0⟩ else ⟨false, [], [], 5, p⟩) :: itemsC (p + y.length) l
theorem itemsC_snoc (l : List (List Int)) (y : List Int) : ∀ p, itemsC p (l ++ [y]) = itemsC p l ++ [if y.length = 8 then ⟨true, y.take 4, y.drop 4, 0, 0⟩ else ⟨false, [], [], 5, p + (l.flatten.length : Int)⟩] := by
  induction l with
  | nil => intro p; simp [itemsC]
  | cons x l ih =>
    intro p
    show _ :: itemsC (p + x.length) (l ++ [y]) = _
    rw [ih]
    simp [itemsC, Int.add_assoc]
theorem itemsC_chk : ∀ (f : Nat) (r : List Int) (p : Int), itemsC p (chk 8 f r) = Hand.itemsN S36.mk f r p
  | 0, _, _ => rfl
  | f + 1, r, p => by
    unfold chk Hand.itemsN
    by_cases h0 : r.length = 0
    · rw [if_pos h0, if_neg (by omega), if_neg (by omega)]; rfl
    · rw [if_neg h0]
      show (if (r.take 8).length = 8 then _ else _) :: itemsC (p + ((r.take 8).length : Int)) (chk 8 f (r.drop 8)) = _
      rw [itemsC_chk f]
      by_cases h8 : 8 ≤ r.length
      · have hl : (r.take 8).length = 8 := by rw [List.length_take]; omega
        rw [if_pos hl, if_pos h8, hl, List.take_take, List.drop_take]
        rfl
      · have hl : (r.take 8).length ≠ 8 := by rw [List.length_take]; omega
        have hd : r.drop 8 = [] := List.drop_eq_nil_of_le (by omega)
        rw [if_neg hl, if_neg h8, if_pos (by omega), hd]
        cases f <;> simp [Hand.itemsN]
theorem itemsC_app : ∀ (a b : List (List Int)) (p : Int), itemsC p a <+: itemsC p (a ++ b)
  | [], _, _ => List.nil_prefix
  | x :: a, b, p => (List.prefix_cons_inj _).2 (itemsC_app a b _)
theorem itemsC_prefix {a b : List (List Int)} (h : a <+: b) (p : Int) : itemsC p a <+: itemsC p b := by
  obtain ⟨t, rfl⟩ := h
  exact itemsC_app a t p
/-- Between two pieces. -/
def InvA (W : World) (l : Nat) (J : List (List Value × S36) → World → Prop) (pre : List (Option Addr × List Int)) (A : World) : Prop :=
  W.heap.size + 7 ≤ A.heap.size ∧ A.cell? ⟨W.heap.size, 0, none⟩ = some (.func (.yield l) #[] #[]) ∧ A.heap[W.heap.size + 2]? = some (.cells #[.int .i64 ((8 + (pre.map (·.2)).flatten.length : Nat) : Int)] 3) ∧
    ∃ ys, ys.map (·.2) = itemsC 8 (pre.map (·.2)) ∧ J ys A
theorem InvA.stp {W : World} {l : Nat} {J : List (List Value × S36) → World → Prop} (hJ : ∀ s A B, J s A → StpI W.heap.size (W.heap.size + 7) A B → J s B) {pre : List (Option Addr × List Int)} {A B : World} (h : InvA W l J pre A) (hs : StpI (W.heap.size + 5) (W.heap.size + 7) A B) : InvA W l J pre B := by
  obtain ⟨h1, h2, h3, ys, h4, h5⟩ := h
  exact ⟨Nat.le_trans h1 hs.1, hs.cell (.inl (by show W.heap.size < _; omega)) h2, (hs.2.1 _ (by omega) (by omega)).trans h3, ys, h4, hJ _ _ _ h5 (hs.wide (by omega) (Nat.le_refl _))⟩
theorem setCell_rest (w : World) (a : Addr) (v : Value) : (w.setCell a v).os = w.os ∧ (w.setCell a v).tape = w.tape ∧ (w.setCell a v).output = w.output := ⟨rfl, rfl, rfl⟩
theorem set5 (wd : World) (b : Nat) (x0 x1 x2 x3 x4 y0 y1 y2 y3 y4 : Value) (h0 : wd.cell? ⟨b, 0, none⟩ = some y0) (h1 : wd.cell? ⟨b, 1, none⟩ = some y1) (h2 : wd.cell? ⟨b, 2, none⟩ = some y2) (h3 : wd.cell? ⟨b, 3, none⟩ = some y3) (h4 : wd.cell? ⟨b, 4, none⟩ = some y4) :
    ∃ we, (((((wd.setCell ⟨b, 0, none⟩ x0).setCell ⟨b, 1, none⟩ x1).setCell ⟨b, 2, none⟩ x2).setCell ⟨b, 3, none⟩ x3).setCell ⟨b, 4, none⟩ x4) = we ∧
      (we.cell? ⟨b, 0, none⟩ = some x0 ∧ we.cell? ⟨b, 1, none⟩ = some x1 ∧ we.cell? ⟨b, 2, none⟩ = some x2 ∧ we.cell? ⟨b, 3, none⟩ = some x3 ∧ we.cell? ⟨b, 4, none⟩ = some x4) ∧
      (∀ k, k ≠ b → we.heap[k]? = wd.heap[k]?) ∧ we.heap.size = wd.heap.size ∧ we.os = wd.os ∧ we.tape = wd.tape ∧ we.output = wd.output := by
  refine ⟨_, rfl, ⟨?_, ?_, ?_, ?_, ?_⟩, fun k hk => ?_, by simp, by simp only [(setCell_rest _ _ _).1], by simp only [(setCell_rest _ _ _).2.1], by simp only [(setCell_rest _ _ _).2.2]⟩
  · go_simp
  · go_simp
  · go_simp
  · go_simp
  · go_simp
  · exact (Below.heap_setCell _ _ _ k hk).trans ((Below.heap_setCell _ _ _ k hk).trans ((Below.heap_setCell _ _ _ k hk).trans ((Below.heap_setCell _ _ _ k hk).trans (Below.heap_setCell _ _ _ k hk))))
theorem InvA.goesOn {W wa we wf : World} {l0 : List Int} {l : Nat} {J Jx : List (List Value × S36) → World → Prop} {K0 : Nat → Prop} {pre : List (Option Addr × List Int)} {x : Option Addr × List Int} {ys : List (List Value × S36)} {p : Int} {q : Int} {a : Act} {B : Nat} (hB : B = W.heap.size + 5)
    (hs : W.heap.size + 7 ≤ wa.heap.size) (hK0 : ∀ k, K0 k → k < W.heap.size) (hbe : Below wa.heap.size wa we) (hkf : KpK (fun k => K0 k ∨ (W.heap.size ≤ k ∧ k < W.heap.size + 7)) we wf)
    (hJ : ∀ s A B, J s A → StpI W.heap.size (W.heap.size + 7) A B → J s B) (hix : ys.map (·.2) = itemsC 8 ((pre ++ [x]).map (·.2))) (hJf : J ys wf)
    (hy : wf.cell? ⟨W.heap.size, 0, none⟩ = some (.func (.yield l) #[] #[])) (ha : wf.heap[W.heap.size + 2]? = some (.cells #[.int .i64 p] 3)) (hq : q = ((8 + ((pre ++ [x]).map (·.2)).flatten.length : Nat) : Int)) :
    Hand.postC B (KpK (fun k => K0 k ∨ k = W.heap.size + 3 ∨ k = W.heap.size + 4)) (InvA W l J) (fun c pre A => c = .ret ∧ ∃ ys, ys.map (·.2) <+: Hand.itemsR S36.mk l0 ∧ Jx ys A) (pre ++ [x]) wa .normal a (wf.setCell ⟨W.heap.size + 2, 0, none⟩ (.int .i64 q)) := by
  subst hB hq
  have h1 := hbe.size
  have h2 := hkf.1
  have hk : ∀ k, k ≠ W.heap.size + 2 → (K0 k ∨ (W.heap.size ≤ k ∧ k < W.heap.size + 7)) → k < wa.heap.size → (wf.setCell ⟨W.heap.size + 2, 0, none⟩ (.int .i64 ((8 + ((pre ++ [x]).map (·.2)).flatten.length : Nat) : Int))).heap[k]? = wa.heap[k]? := fun k hne hk hlt =>
    (Below.heap_setCell _ _ _ k hne).trans ((hkf.2 k hk (by omega)).trans (hbe.block k hlt))
  have hst : StpI (W.heap.size + 2) (W.heap.size + 3) wf (wf.setCell ⟨W.heap.size + 2, 0, none⟩ (.int .i64 ((8 + ((pre ++ [x]).map (·.2)).flatten.length : Nat) : Int))) := StpI.setCell (Nat.le_refl _) (Nat.lt_succ_self _) _
  refine ⟨⟨hk _ (by omega) (.inr (by omega)) (by omega), hk _ (by omega) (.inr (by omega)) (by omega)⟩, ⟨by simp; omega, fun k hK hlt => ?_⟩, by simp; omega, hst.cell (.inl (by show W.heap.size < _; omega)) hy, heap_setCell_same _ _ _ _ _ _ ha, ys, hix, hJ _ _ _ hJf (hst.wide (by omega) (by omega))⟩
  rcases hK with hK | rfl | rfl
  · have := hK0 k hK
    exact hk k (by omega) (.inl hK) hlt
  · exact hk _ (by omega) (.inr (by omega)) hlt
  · exact hk _ (by omega) (.inr (by omega)) hlt
theorem InvA.stops {W wa we wf : World} {l0 : List Int} {l : Nat} {J Jx : List (List Value × S36) → World → Prop} {K0 : Nat → Prop} {pre : List (Option Addr × List Int)} {x : Option Addr × List Int} {ys : List (List Value × S36)} {a : Act} {B : Nat} (hB : B = W.heap.size + 5)
    (hs : W.heap.size + 7 ≤ wa.heap.size) (hK0 : ∀ k, K0 k → k < W.heap.size) (hbe : Below wa.heap.size wa we) (hkf : KpK (fun k => K0 k ∨ (W.heap.size ≤ k ∧ k < W.heap.size + 7)) we wf) (hJf : ys.map (·.2) <+: Hand.itemsR S36.mk l0 ∧ Jx ys wf) :
    Hand.postC B (KpK (fun k => K0 k ∨ k = W.heap.size + 3 ∨ k = W.heap.size + 4)) (InvA W l J) (fun c pre A => c = .ret ∧ ∃ ys, ys.map (·.2) <+: Hand.itemsR S36.mk l0 ∧ Jx ys A) (pre ++ [x]) wa .ret a wf := by
  subst hB
  have h1 := hbe.size
  have h2 := hkf.1
  have hk : ∀ k, (K0 k ∨ (W.heap.size ≤ k ∧ k < W.heap.size + 7)) → k < wa.heap.size → wf.heap[k]? = wa.heap[k]? := fun k hk hlt => (hkf.2 k hk (by omega)).trans (hbe.block k hlt)
  refine ⟨⟨hk _ (.inr (by omega)) (by omega), hk _ (.inr (by omega)) (by omega)⟩, ⟨by omega, fun k hK hlt => ?_⟩, rfl, ys, hJf⟩
  rcases hK with hK | rfl | rfl
  · exact hk k (.inl hK) hlt
  · exact hk _ (.inr (by omega)) hlt
  · exact hk _ (.inr (by omega)) hlt
/-- What an item that a loop's body has at hand lies in. -/
theorem KpK.of_stp {K : Nat → Prop} {Bs Be : Nat} {A B : World} (h : StpI Bs Be A B) (hK : ∀ k, K k → ¬ (Bs ≤ k ∧ k < Be)) : KpK K A B := ⟨h.1, fun k hk hlt => h.2.1 k hlt (hK k hk)⟩
attribute [local go_sem] Oper.semAt_some in
set_option maxHeartbeats 8000000 in
set_option maxRecDepth 100000 in
theorem all1_seq (n : Nat) (hn : 6 ≤ n) (W : World) (Bb : Nat) (Ad : Option Addr) (c : Nat) (l0 : List Int) (K0 : Nat → Prop)
    (hb : W.cell? ⟨Bb, 0, none⟩ = some (.slice Ad l0.length c)) (hKb : K0 Bb) (hF0 : Kd.F (Kd.int .u8) W K0 Ad l0.length l0) (hc : l0.length ≤ c) (hl : l0.length ≤ 1000000) (hK0 : ∀ k, K0 k → k < W.heap.size) (nb : Nat) (hnb : nb = if Hand.isHead l0 then 7 else 2) :
    Hand.SeqC Fence.wide n Try.prog 19 #[.pointer (some ⟨Bb, 0, none⟩)] (fun x : List Value × S36 => #[.agg x.1.toArray]) (fun x W' => W.heap.size + nb ≤ W'.heap.size ∧ Kd.FK k36 W' (TypB (W.heap.size + nb) W') x.2 x.1)
      (StpI W.heap.size (W.heap.size + nb)) (KpK (fun k => K0 k ∨ (W.heap.size ≤ k ∧ k < W.heap.size + nb))) (fun xs => xs.map (·.2) = Hand.itemsR S36.mk l0) (fun xs => xs.map (·.2) <+: Hand.itemsR S36.mk l0) W := by
  intro l J Jx hJ hJx hY h0
  have kc := fun (w : World) (C : Array Value) (n c : Nat) => Lib.run_convert_bytes_const (P := Try.prog) w 23 5 C n c Try.underlying23 Try.underlying5
  refine callsIn_of_wp_marks Try.func19 rfl trivial ?_ rfl
  simp only [Try.ntmps19, List.size_toArray, List.length_cons, List.length_nil, Nat.reduceAdd, Nat.reduceSub, Array.replicate_succ, Array.replicate_zero, List.push_toArray, List.append_toArray, List.nil_append, List.cons_append]
  have kc1 : ∀ (o : Obj) (C : Array Value) (n c : Nat), (convert 23 23 (.slice (some ⟨W.heap.size + 1, 0, none⟩) n c)).run Try.prog ((W.alloc o).alloc (.cells C 5)) = .ok (.slice (some ⟨W.heap.size + 1, 0, none⟩) n c) ((W.alloc o).alloc (.cells C 5 (C.size, C.size + 1))) := fun o C n c => by
    have h := kc (W.alloc o) C n c
    rwa [World.size_alloc] at h
  clear kc
  obtain ⟨w2, hw2⟩ : ∃ w2, (W.alloc (.cells #[.func (.yield l) #[] #[]] 48)).alloc (.cells #[.int .u8 99, .int .u8 114, .int .u8 101, .int .u8 101, .int .u8 108, .int .u8 100, .int .u8 109, .int .u8 112] 5 (8, 9)) = w2 := ⟨_, rfl⟩
  have hs2 : w2.heap.size = W.heap.size + 2 := by rw [← hw2]; simp
  have hb2 : Below W.heap.size W w2 := by rw [← hw2]; exact ((Below.refl _ _).alloc (Nat.le_refl _) _).alloc (by simp) _
  have hy2 : w2.heap[W.heap.size]? = some (.cells #[.func (.yield l) #[] #[]] 48) := by rw [← hw2]; exact (Below.heap_alloc _ _ _ (by simp)).trans (heap_alloc_new _ _)
  have hg2 : Kd.C (Kd.int .u8) w2 (some ⟨W.heap.size + 1, 0, none⟩) 8 Hand.headN := by
    rw [← hw2]
    have h := Hand.F_nums (W := (W.alloc (.cells #[.func (.yield l) #[] #[]] 48)).alloc (.cells #[.int .u8 99, .int .u8 114, .int .u8 101, .int .u8 101, .int .u8 108, .int .u8 100, .int .u8 109, .int .u8 112] 5 (8, 9))) (ok := fun _ => True) (k := .u8) (e := 5) (fr := (8, 9)) Hand.headN (heap_alloc_new _ _) rfl (by decide) trivial
    rw [World.size_alloc] at h
    exact Kd.F_now h
  have hF2 := Kd.F_below hF0 hb2
  have HF2 := Aside0.mk hF2
  have HG2 := Aside0.mk hg2
  have HC := Aside0.mk hc
  have HB2 := Aside0.mk hb2
  have HS2 := Aside0.mk hs2
  have HY2 := Aside0.mk hy2
  clear hF2 hg2 hc hb2 hs2 hy2 hF0
  have hbA : ∀ o : Obj, (W.alloc o).cell? ⟨Bb, 0, none⟩ = some (.slice Ad l0.length c) := fun o => (((Below.refl W.heap.size W).alloc (Nat.le_refl _) o).cell (World.block_lt_of_cell? _ _ hb)).trans hb
  by_cases hh : Hand.isHead l0
  · have h7 : nb = 7 := hnb.trans (if_pos hh)
    clear hnb
    subst h7
    have hd : decide (Hand.isHead l0) = true := decide_eq_true hh
    gi_wp2_with fail
    refine ⟨trivial, fun _ => by omega, ?_⟩
    refine (callsIn_wide.2 (cutPrefix_calls Ad c l0 (W.heap.size + 1) _ (Kd.F_now HF2.out) HC.out HG2.out hl)).mono ?_
    rw [hd]
    rintro e w' ⟨⟨v, rfl, hv⟩, hw⟩
    subst hw
    have hv2 := hv hh
    clear hv
    obtain ⟨A2, n2, c2, hn2, hnc2, hcut2, hFd⟩ := Hand.cut_drop (P := Try.prog) 23 .i64 Try.underlying23 (by kernel_rfl) HF2.out HC.out 8 hh.1
    obtain rfl : v = .slice A2 n2 c2 := by
      have h := (hv2 W).symm.trans (hcut2 W)
      injection h
    have hs2 := HS2.out
    clear hcut2 hv2 hd
    obtain ⟨ro, hro⟩ : ∃ ro, l0.drop 8 = ro := ⟨_, rfl⟩
    have hrl : ro.length ≤ 1000000 := by rw [← hro, List.length_drop]; omega
    have hS0 : Hand.itemsR S36.mk l0 = itemsC 8 (chk 8 (ro.length + 1) ro) := by
      unfold Hand.itemsR
      rw [if_pos hh, hro, chk_fuel 8 (by decide) (ro.length + 1) (l0.length + 1) ro (by omega) (by rw [← hro, List.length_drop]; omega), itemsC_chk]
    rw [hro] at hn2 hFd
    subst hn2
    gi_wp2_with fail
    refine ⟨trivial, fun _ => by omega, ?_⟩
    refine (callsIn_wide.2 (chunk0_calls A2 ro.length c2 _)).mono ?_
    rintro e w' ⟨rfl, rfl⟩
    gi_wp2_with fail
    simp only [World.size_alloc, hs2, Nat.add_assoc, Nat.reduceAdd]
    obtain ⟨w5, hw5⟩ : ∃ w5, (((w'.alloc (Obj.cells #[Value.int IntKind.i64 8] 3)).alloc (Obj.cells #[Value.slice A2 ro.length c2] 23)).alloc (Obj.cells #[Value.int IntKind.i64 8] 3)) = w5 := ⟨_, rfl⟩
    rw [hw5]
    have hs5 : w5.heap.size = W.heap.size + 5 := by rw [← hw5]; simp [hs2]
    have hb5 : Below w'.heap.size w' w5 := by rw [← hw5]; exact (((Below.refl _ _).alloc (Nat.le_refl _) _).alloc (by simp) _).alloc (by simp; omega) _
    have hS5 : StpI W.heap.size (W.heap.size + 7) W w5 := .below (HB2.out.trans (hb5.mono (by omega)))
    have hy5 : w5.cell? ⟨W.heap.size, 0, none⟩ = some (.func (.yield l) #[] #[]) := cell_of_row _ _ _ _ _ _ ((hb5.block _ (by omega)).trans HY2.out)
    have ha5 : w5.heap[W.heap.size + 2]? = some (.cells #[.int .i64 8] 3) := by
      rw [← hw5, ← hs2]
      exact (Below.heap_alloc _ _ _ (by simp; omega)).trans ((Below.heap_alloc _ _ _ (by simp)).trans (heap_alloc_new _ _))
    have hn5 : w5.cell? ⟨W.heap.size + 3, 0, none⟩ = some (.slice A2 ro.length c2) := by
      have h : w5.heap[W.heap.size + 3]? = some (.cells #[.slice A2 ro.length c2] 23) := by
        rw [← hw5]
        refine (Below.heap_alloc _ _ _ (by simp; omega)).trans ?_
        have h2 := heap_alloc_new (w'.alloc (.cells #[Value.int .i64 8] 3)) (.cells #[.slice A2 ro.length c2] 23)
        rwa [World.size_alloc, hs2] at h2
      exact cell_of_row _ _ _ _ _ _ h
    have hm5 : w5.cell? ⟨W.heap.size + 4, 0, none⟩ = some (.int .i64 8) := by
      have h : w5.heap[W.heap.size + 4]? = some (.cells #[.int .i64 8] 3) := by
        rw [← hw5]
        have h2 := heap_alloc_new ((w'.alloc (.cells #[Value.int .i64 8] 3)).alloc (.cells #[.slice A2 ro.length c2] 23)) (.cells #[Value.int .i64 8] 3)
        rwa [World.size_alloc, World.size_alloc, hs2] at h2
      exact cell_of_row _ _ _ _ _ _ h
    have hF5 := Kd.F_below hFd hb5
    have hJ5 := hJ _ _ _ h0 hS5
    clear hw5 hw2 hb5
    have h52 : ∀ r : Loop, Below w5.heap.size w5 ((w5.alloc (.deferred (some []))).alloc (.loop r)) := fun r => ((Below.refl _ _).alloc (Nat.le_refl _) _).alloc (by simp) _
    refine Hand.rangeC (w := w5) (gf := 24) (lb := #[.pointer (some ⟨W.heap.size + 3, 0, none⟩), .pointer (some ⟨W.heap.size + 4, 0, none⟩)]) (encs := fun x : Option Addr × List Int => #[.slice x.1 x.2.length x.2.length]) (G := fun x W => Kd.C (Kd.int .u8) W x.1 x.2.length x.2) (Stp := fun A B => ∃ q, B = A.drewN q) (Kp := KpK (fun k => K0 k ∨ k = W.heap.size + 3 ∨ k = W.heap.size + 4)) (S := fun xs => xs.map (·.2) = chk 8 (ro.length + 1) ro) (Sp := fun xs => xs.map (·.2) <+: chk 8 (ro.length + 1) ro)
      rfl (by omega) rfl trivial (fun args w => Hand.run_enter Try.func24 (by kernel_rfl) rfl args w)
      (fun r => chunk1_seq Fence.wide (n - 1) trivial rfl (by omega) _ (W.heap.size + 3) (W.heap.size + 4) A2 c2 ro 8 (by decide) (by decide) (fun k => K0 k ∨ k = W.heap.size + 3 ∨ k = W.heap.size + 4) ?hs ?hn (.inr (.inl rfl)) (.inr (.inr rfl)) ?hF hnc2 hrl)
      (fun _ => rfl) (InvA W l J) (fun c pre A => c = .ret ∧ ∃ ys, ys.map (·.2) <+: Hand.itemsR S36.mk l0 ∧ Jx ys A) ?hIs ?hIxs ?hIp ?hIxp (fun x A r r' h hl => C_loop h hl) ?hSk (fun h k => h.trans k) ?hKp ?h0
      (fun x a' A => a' = { tmps := #[.func (.yield l) #[] #[], .pointer (some ⟨Bb, 0, none⟩), .pointer (some ⟨W.heap.size, 0, none⟩), .slice A2 ro.length c2, .bool true, .pointer (some ⟨W.heap.size + 2, 0, none⟩), .slice x.1 x.2.length x.2.length, undef, .tuple #[.slice A2 ro.length c2, .bool true], .slice Ad l0.length c, .slice (some ⟨W.heap.size + 1, 0, none⟩) 8 8, .slice (some ⟨W.heap.size + 1, 0, none⟩) 8 8, .tuple #[.slice A2 ro.length c2, .bool true], .slice A2 ro.length c2, .bool true, .bool true, .bool false, undef, undef, undef, .slice A2 ro.length c2, .func (.func 24) #[] #[.pointer (some ⟨W.heap.size + 3, 0, none⟩), .pointer (some ⟨W.heap.size + 4, 0, none⟩)], .slice x.1 x.2.length x.2.length, undef, undef, undef, undef, undef, undef, undef, undef, undef, undef, undef, undef, undef, undef, undef, undef, undef, undef, undef, undef], defers := [] } ∧ Kd.C (Kd.int .u8) A x.1 x.2.length x.2)
      (fun x a' A r r' h hl => ⟨h.1, C_loop h.2 hl⟩) ?hassign ?hbody ?hdone ?hstop
    case hs => exact ((h52 r).cell (World.block_lt_of_cell? _ _ hn5)).trans hn5
    case hn => exact ((h52 r).cell (World.block_lt_of_cell? _ _ hm5)).trans hm5
    case hF => exact Kd.F_mono (Kd.F_below hF5 (h52 r)) (fun _ h => .inl h)
    case hIs => rintro s A B h ⟨q, rfl⟩; exact h.stp hJ (StpI.drew _ _)
    case hIxs => rintro c s A B ⟨rfl, ys, hp, h⟩ ⟨q, rfl⟩; exact ⟨rfl, ys, hp, hJx _ _ _ h (StpI.drew _ _)⟩
    case hIp => intro s A r r' h hl; exact h.stp hJ (StpI.putObj (by omega) (by omega) _)
    case hIxp => rintro c s A r r' ⟨rfl, ys, hp, h⟩ hl; exact ⟨rfl, ys, hp, hJx _ _ _ h (StpI.putObj (by omega) (by omega) _)⟩
    case hSk => rintro A B ⟨q, rfl⟩ _; exact ⟨rfl, rfl⟩
    case hKp => intro A r r' hl; exact KpK.of_stp (Bs := W.heap.size + 5) (Be := W.heap.size + 7) (StpI.putObj (by omega) (by omega) _) (fun k hk h => by rcases hk with hk | hk | hk <;> first | (have := hK0 k hk; omega) | omega)
    case h0 =>
      intro r
      exact ⟨by simp; omega, ((h52 r).cell (World.block_lt_of_cell? _ _ hy5)).trans hy5, ((h52 r).block _ (by omega)).trans ha5, [], rfl, hJ _ _ _ hJ5 (.below ((h52 r).mono (by omega)))⟩
    case hassign =>
      intro lq pre x A K hlt hI hG hK
      gi_wp2_with fail
      exact hK _ _ ⟨rfl, rfl⟩ (KpK.refl _ _) hI ⟨rfl, hG⟩
    case hbody =>
      rintro lq pre x a' wa hlt hI ⟨rfl, hCx⟩ hsp
      obtain ⟨hI1, hI2, hI6, ys, hI4, hI5⟩ := hI
      have hfl := Nat.le_trans (prefix_flat hsp) (chk_flat 8 (ro.length + 1) ro)
      rw [List.map_append, List.flatten_append, List.length_append] at hfl
      simp only [List.map_cons, List.map_nil, List.flatten_cons, List.flatten_nil, List.append_nil] at hfl
      obtain ⟨p, hp⟩ : ∃ p, 8 + (pre.map (·.2)).flatten.length = p := ⟨_, rfl⟩
      rw [hp] at hI6
      have hI3 : wa.cell? ⟨W.heap.size + 2, 0, none⟩ = some (.int .i64 p) := cell_of_row _ _ _ _ _ _ hI6
      by_cases hx8 : x.2.length = 8
      · have hFx := Kd.C_F (Kd.heap_int .u8) hCx
        obtain ⟨n1, hn1, -, hcut1, hF1⟩ := Hand.cut_take (P := Try.prog) 23 .i64 Try.underlying23 (by kernel_rfl) hFx (Nat.le_refl _) 4 (by omega)
        obtain ⟨Ay, n2, cy, hn2, hncy, hcut2, hF2⟩ := Hand.cut_drop (P := Try.prog) 23 .i64 Try.underlying23 (by kernel_rfl) hFx (Nat.le_refl _) 4 (by omega)
        have hcs : itemsC 8 ((pre ++ [x]).map (·.2)) = itemsC 8 (pre.map (·.2)) ++ [(⟨true, x.2.take 4, x.2.drop 4, 0, 0⟩ : S36)] := by
          rw [List.map_append]
          exact (itemsC_snoc _ _ 8).trans (by rw [if_pos hx8])
        have hl1 : (x.2.take 4).length = 4 := by rw [List.length_take]; omega
        have hl2 : (x.2.drop 4).length = 4 := by rw [List.length_drop]; omega
        generalize x.2.take 4 = p1 at *
        generalize x.2.drop 4 = p2 at *
        subst hn1
        subst hn2
        rw [hx8] at hcut1 hcut2
        have hk1 : slices_Clone_byte_byte.f p1 = some p1 := by unfold slices_Clone_byte_byte.f; simp [hl1]
        have hk2 : slices_Clone_byte_byte.f p2 = some p2 := by unfold slices_Clone_byte_byte.f; simp [hl2]
        have hE2 : ∀ v : Value, (∀ W : World, (Instr.slice 23 (.slice x.1 8 8) (some (.int .i64 4)) none none).run Try.prog W = .ok v W) → v = .slice Ay p2.length cy := fun v h => by injection (h W).symm.trans (hcut2 W)
        have HE2 := Aside0.mk hE2
        obtain ⟨wb, hwb⟩ : ∃ wb, wa.alloc (Obj.cells #[Value.bool false, Value.slice none 0 0, Value.slice none 0 0, Value.int .i64 5, Value.int .i64 (p : Int)] 36) = wb := ⟨_, rfl⟩
        have hbb : Below wa.heap.size wa wb.drew := by rw [← hwb]; exact ((Below.refl _ _).alloc (Nat.le_refl _) _).drew
        have hwbB : wb.drew.heap[wa.heap.size]? = some (Obj.cells #[Value.bool false, Value.slice none 0 0, Value.slice none 0 0, Value.int .i64 5, Value.int .i64 (p : Int)] 36) := by rw [← hwb]; exact heap_alloc_new _ _
        have hsb : wb.drew.heap.size = wa.heap.size + 1 := by rw [← hwb]; exact World.size_alloc _ _
        have HK1 := Aside0.mk hk1
        have HK2 := Aside0.mk hk2
        have HF1 := Aside0.mk (Kd.F_below hF1 hbb)
        have HF3 := Aside0.mk (Kd.F_below hF2 hbb)
        have HL1 := Aside0.mk hl1
        have HL2 := Aside0.mk hl2
        clear hk1 hk2 hcut1 hcut2 hE2 hF1 hF2 hFx hl1 hl2
        gi_wp2_with fail
        refine Hand.region_round lq rfl (Hand.noDefer_spec (by kernel_rfl)) (by kernel_rfl) ?_
        change wpAnyIn _ _ _ _ _ _ _ _ _ (World.drew _)
        first | rw [hwb] | skip
        refine wpAnyIn_take (i := 0) (v := ?_) rfl rfl (by kernel_rfl) (by kernel_rfl) (by kernel_rfl) (fun _ _ _ h => h) ⟨Or.inl ⟨by rfl, ?_⟩, fun _ => rfl⟩ ?_
        case refine_2 => intro w; go_simp; rfl
        refine wpAnyIn_take (i := 3) (v := ?_) rfl rfl (by kernel_rfl) (by kernel_rfl) (by kernel_rfl) (fun _ _ _ h => h) ⟨Or.inl ⟨by rfl, ?_⟩, fun _ => rfl⟩ ?_
        case refine_2 => intro w; go_simp; rfl
        refine wpAnyIn_take (i := 1) (v := .slice x.1 p1.length 8) rfl rfl (by kernel_rfl) (by kernel_rfl) (by kernel_rfl) (fun _ _ _ h => h) ⟨Or.inl ⟨by rfl, ?_⟩, fun _ => rfl⟩ ?_
        · intro w; go_simp; exact HL1.out.symm
        refine wpAnyIn_take (i := 4) (v := .slice Ay p2.length cy) rfl rfl (by kernel_rfl) (by kernel_rfl) (by kernel_rfl) (fun _ _ _ h => h) ⟨Or.inl ⟨by rfl, ?_⟩, fun _ => rfl⟩ ?_
        · intro w
          go_simp
          have h := HE2.out _ (fun W => by go_simp; rfl)
          injection h with h1 h2 h3
          exact ⟨h1, h2, h3⟩
        refine wpAnyIn_ready (rs := [2]) (by kernel_rfl) (by simp) ?_
        refine AllReadyIn.cons rfl (fun K hK => ?_) AllReadyIn.nil
        go_simp
        refine ⟨trivial, fun _ => by omega, ?_⟩
        refine (callsIn_wide.2 (slices_Clone_byte_byte.calls x.1 8 p1 p1 _ (Kd.F_now HF1.out) (by rw [HL1.out]; decide) HK1.out)).mono ?_
        rintro e wc ⟨v1, rfl, hv1, hbc⟩
        obtain ⟨B1, d1, rfl, hd1, hG1⟩ := R_typ (M := W.heap.size + 7) hv1 (by omega)
        clear hv1
        refine hK _ _ ?_
        clear hK K
        refine wpAnyIn_ready (rs := [5]) (by kernel_rfl) (by simp) ?_
        refine AllReadyIn.cons rfl (fun K hK => ?_) AllReadyIn.nil
        go_simp
        refine ⟨trivial, fun _ => by omega, ?_⟩
        refine (callsIn_wide.2 (slices_Clone_byte_byte.calls Ay cy p2 p2 _ (Kd.F_now (Kd.F_below HF3.out hbc)) hncy HK2.out)).mono ?_
        rintro e wd ⟨v2, rfl, hv2, hbd⟩
        have hsc := hbc.size
        obtain ⟨B2, d2, rfl, hd2, hG2⟩ := R_typ (M := W.heap.size + 7) hv2 (by omega)
        clear hv2
        have hG3 := F_typb hG1 hbd
        have hwbD := (hbd.block _ (Nat.lt_of_lt_of_le (by omega : wa.heap.size < wb.drew.heap.size) hsc)).trans ((hbc.block _ (by omega)).trans hwbB)
        refine hK _ _ ?_
        clear hK K
        refine wpAnyIn_ready (rs := [6]) (by kernel_rfl) (by simp) ?_
        refine AllReadyIn.cons rfl (fun K hK => ?_) AllReadyIn.nil
        go_simp
        refine hK _ _ ?_
        clear hK K
        have q0 : wd.cell? ⟨wa.heap.size, 0, none⟩ = some (.bool false) := cell_of_row _ _ _ _ _ _ hwbD
        have q1 : wd.cell? ⟨wa.heap.size, 1, none⟩ = some (.slice none 0 0) := cell_of_row _ _ _ _ _ _ hwbD
        have q2 : wd.cell? ⟨wa.heap.size, 2, none⟩ = some (.slice none 0 0) := cell_of_row _ _ _ _ _ _ hwbD
        have q3 : wd.cell? ⟨wa.heap.size, 3, none⟩ = some (.int .i64 5) := cell_of_row _ _ _ _ _ _ hwbD
        have q4 : wd.cell? ⟨wa.heap.size, 4, none⟩ = some (.int .i64 p) := cell_of_row _ _ _ _ _ _ hwbD
        have qf : ∀ j, wd.frozen? ⟨wa.heap.size, j, none⟩ = false := fun j => by simp [World.frozen?, hwbD]
        refine wpAnyIn_ready (rs := [7]) (by kernel_rfl) (by simp) ?_
        refine AllReadyIn.cons rfl (fun K hK => ?_) AllReadyIn.nil
        go_simp
        refine hK _ _ ?_
        clear hK K
        refine wpAnyIn_done (by kernel_rfl) ?_ _
        obtain ⟨we, hwe, ⟨e0, e1, e2, e3, e4⟩, hoth, hse, hoe, hte, hue⟩ := set5 wd wa.heap.size (.bool true) (.slice B1 p1.length d1) (.slice B2 p2.length d2) (.int .i64 0) (.int .i64 0) _ _ _ _ _ q0 q1 q2 q3 q4
        have hbad : Below wa.heap.size wa wd := (hbb.trans (hbc.mono (by omega))).trans (hbd.mono (by omega))
        have hbe : Below wa.heap.size wa we := by
          exact ⟨hoe.trans hbad.os, hte.trans hbad.tape, hue.trans hbad.output, by rw [hse]; exact hbad.size, fun k hk => (hoth k (by omega)).trans (hbad.block k hk)⟩
        have hty : ∀ k, W.heap.size + 7 ≤ k → (∃ C fr, wd.heap[k]? = some (.cells C 5 fr)) → we.heap[k]? = wd.heap[k]? := fun k _ ⟨C, fr, hk⟩ => hoth k (fun e => by subst e; rw [hwbD] at hk; simp at hk)
        have HFK := Aside0.mk (k36_mkF we (TypB (W.heap.size + 7) we) ⟨true, p1, p2, 0, 0⟩ hd1 (F_typ hG3 hty) hd2 (F_typ hG2 hty))
        clear q0 q1 q2 q3 q4 qf hoth hty hbad hG1 hG2 hG3 hbc hbd hbb hwbD hwbB hwb
        rw [hwe]
        clear hwe
        have hye := hbe.cell (World.block_lt_of_cell? _ _ hI2) |>.trans hI2
        have hae := (hbe.block (W.heap.size + 2) (by omega)).trans hI6
        have hJe := hJ _ _ _ hI5 (StpI.below hbe)
        have hix : (ys ++ [(([.bool true, .slice B1 p1.length d1, .slice B2 p2.length d2, .int .i64 0, .int .i64 0] : List Value), (⟨true, p1, p2, 0, 0⟩ : S36))]).map (·.2) = itemsC 8 ((pre ++ [x]).map (·.2)) := by
          rw [hcs, List.map_append, hI4]
          rfl
        have hspx : (ys ++ [(([.bool true, .slice B1 p1.length d1, .slice B2 p2.length d2, .int .i64 0, .int .i64 0] : List Value), (⟨true, p1, p2, 0, 0⟩ : S36))]).map (·.2) <+: Hand.itemsR S36.mk l0 := by
          rw [hix, hS0]
          exact itemsC_prefix hsp 8
        obtain ⟨yf, ytmps, yassign, ybody, hyy, hR⟩ := hY ys _ we hJe ⟨by have := hbe.size; omega, HFK.out⟩ hspx
        have hyy' : (Instr.yield l #[.agg #[.bool true, .slice B1 p1.length d1, .slice B2 p2.length d2, .int .i64 0, .int .i64 0]]).run Try.prog we = .ok (.round l yf ytmps yassign ybody) we := hyy
        have HIX := Aside0.mk hix
        have HSPX := Aside0.mk hspx
        have HHY := Aside0.mk hye
        have HHA := Aside0.mk hae
        clear hix hspx hcs hae
        simp only [Exit.then]
        go_at_K
        gi_wp2_with fail
        refine ⟨fun _ => by omega, ?_⟩
        refine (Hand.roundIn_wide hR).mono ?_
        rintro e wf (⟨rfl, hJf, hkf⟩ | ⟨rfl, hJf, hkf⟩)
        · have haf0 := (hkf.2 (W.heap.size + 2) (.inr (by omega)) (by have := hbe.size; omega)).trans HHA.out
          have haf : wf.cell? ⟨W.heap.size + 2, 0, none⟩ = some (.int .i64 p) := cell_of_row _ _ _ _ _ _ haf0
          have hff : wf.frozen? ⟨W.heap.size + 2, 0, none⟩ = false := by simp [World.frozen?, haf0]
          have hyf := hkf.cell (a := ⟨W.heap.size, 0, none⟩) (.inr ⟨Nat.le_refl _, by show W.heap.size < _; omega⟩) HHY.out
          have HAF := Aside0.mk haf0
          clear haf0
          gi_wp2_with fail
          exact InvA.goesOn (p := (p : Int)) hs5 hI1 hK0 hbe hkf hJ HIX.out hJf hyf HAF.out (by
            have hone : ([x].map (·.2)).flatten.length = 8 := by simp [hx8]
            rw [List.map_append, List.flatten_append, List.length_append, hone]
            omega)
        · gi_wp2_with fail
          exact InvA.stops hs5 hI1 hK0 hbe hkf ⟨HSPX.out, hJf⟩
      · have hpi : (8 : Int) + ((pre.map (·.2)).flatten.length : Int) = (p : Int) := by omega
        have hcs : itemsC 8 ((pre ++ [x]).map (·.2)) = itemsC 8 (pre.map (·.2)) ++ [(⟨false, [], [], 5, p⟩ : S36)] := by
          rw [List.map_append]
          exact (itemsC_snoc _ _ 8).trans (by rw [if_neg hx8, hpi])
        have hix : (ys ++ [(([.bool false, .slice none 0 0, .slice none 0 0, .int .i64 5, .int .i64 p] : List Value), (⟨false, [], [], 5, p⟩ : S36))]).map (·.2) = itemsC 8 ((pre ++ [x]).map (·.2)) := by
          rw [hcs, List.map_append, hI4]
          rfl
        have hspx : (ys ++ [(([.bool false, .slice none 0 0, .slice none 0 0, .int .i64 5, .int .i64 p] : List Value), (⟨false, [], [], 5, p⟩ : S36))]).map (·.2) <+: Hand.itemsR S36.mk l0 := by
          rw [hix, hS0]
          exact itemsC_prefix hsp 8
        obtain ⟨we, hwe⟩ : ∃ we, wa.alloc (Obj.cells #[Value.bool false, Value.slice none 0 0, Value.slice none 0 0, Value.int .i64 5, Value.int .i64 (p : Int)] 36) = we := ⟨_, rfl⟩
        have hbe : Below wa.heap.size wa we := by rw [← hwe]; exact (Below.refl _ _).alloc (Nat.le_refl _) _
        have HFK := Aside0.mk (k36_mkF we (TypB (W.heap.size + 7) we) ⟨false, [], [], 5, p⟩ (Nat.le_refl _) (Kd.F_nil _ _ _) (Nat.le_refl _) (Kd.F_nil _ _ _))
        have hye := hbe.cell (World.block_lt_of_cell? _ _ hI2) |>.trans hI2
        have hae := (hbe.block (W.heap.size + 2) (by omega)).trans hI6
        have hJe := hJ _ _ _ hI5 (StpI.below hbe)
        have hd8 : decide (x.2.length = 8) = false := decide_eq_false hx8
        have he8 : decide ((x.2.length : Int) = 8) = false := decide_eq_false (by omega)
        have e0 : we.cell? ⟨wa.heap.size, 0, none⟩ = some (.bool false) := by rw [← hwe]; exact cell_of_row _ _ _ _ _ _ (heap_alloc_new _ _)
        have e1 : we.cell? ⟨wa.heap.size, 1, none⟩ = some (.slice none 0 0) := by rw [← hwe]; exact cell_of_row _ _ _ _ _ _ (heap_alloc_new _ _)
        have e2 : we.cell? ⟨wa.heap.size, 2, none⟩ = some (.slice none 0 0) := by rw [← hwe]; exact cell_of_row _ _ _ _ _ _ (heap_alloc_new _ _)
        have e3 : we.cell? ⟨wa.heap.size, 3, none⟩ = some (.int .i64 5) := by rw [← hwe]; exact cell_of_row _ _ _ _ _ _ (heap_alloc_new _ _)
        have e4 : we.cell? ⟨wa.heap.size, 4, none⟩ = some (.int .i64 p) := by rw [← hwe]; exact cell_of_row _ _ _ _ _ _ (heap_alloc_new _ _)
        obtain ⟨yf, ytmps, yassign, ybody, hyy, hR⟩ := hY ys _ we hJe ⟨by have := hbe.size; omega, HFK.out⟩ hspx
        have hyy' : (Instr.yield l #[.agg #[.bool false, .slice none 0 0, .slice none 0 0, .int .i64 5, .int .i64 p]]).run Try.prog we = .ok (.round l yf ytmps yassign ybody) we := hyy
        have HIX := Aside0.mk hix
        have HSPX := Aside0.mk hspx
        have HHY := Aside0.mk hye
        have HHA := Aside0.mk hae
        clear hix hspx hcs hae
        gi_wp2_with fail
        refine ⟨fun _ => by omega, ?_⟩
        refine (Hand.roundIn_wide hR).mono ?_
        rintro e wf (⟨rfl, hJf, hkf⟩ | ⟨rfl, hJf, hkf⟩)
        · have haf0 := (hkf.2 (W.heap.size + 2) (.inr (by omega)) (by have := hbe.size; omega)).trans HHA.out
          have haf : wf.cell? ⟨W.heap.size + 2, 0, none⟩ = some (.int .i64 p) := cell_of_row _ _ _ _ _ _ haf0
          have hff : wf.frozen? ⟨W.heap.size + 2, 0, none⟩ = false := by simp [World.frozen?, haf0]
          have hyf := hkf.cell (a := ⟨W.heap.size, 0, none⟩) (.inr ⟨Nat.le_refl _, by show W.heap.size < _; omega⟩) HHY.out
          have HAF := Aside0.mk haf0
          clear haf0
          gi_wp2_with fail
          exact InvA.goesOn (p := (p : Int)) hs5 hI1 hK0 hbe hkf hJ HIX.out hJf hyf HAF.out (by
            have hone : ([x].map (·.2)).flatten.length = x.2.length := by simp
            rw [List.map_append, List.flatten_append, List.length_append, hone]
            omega)
        · gi_wp2_with fail
          exact InvA.stops hs5 hI1 hK0 hbe hkf ⟨HSPX.out, hJf⟩
    case hdone =>
      intro xs A hS hI hK
      obtain ⟨hI1, hI2, hI6, ys, hI4, hI5⟩ := hI
      refine ⟨by simp, .inl ⟨_, _, rfl, run_takeDeferred hK, ?_⟩⟩
      exact ⟨_, results_none rfl _ _ _, ⟨_, rfl⟩, .inl ⟨ys, by rw [hI4, hS, hS0], hJ _ _ _ hI5 (StpI.putObj (by omega) (by omega) _)⟩⟩
    case hstop =>
      rintro c pre A hSp ⟨rfl, ys, hp, hj⟩ hK
      gi_wp2
      refine ⟨by simp, .inl ⟨_, _, rfl, run_takeDeferred hK, ?_⟩⟩
      exact ⟨_, results_none rfl _ _ _, ⟨_, rfl⟩, .inr ⟨ys, hp, hJx _ _ _ hj (StpI.putObj (by omega) (by omega) _)⟩⟩
  · have h2 : nb = 2 := hnb.trans (if_neg hh)
    clear hnb
    subst h2
    have hd : decide (Hand.isHead l0) = false := decide_eq_false hh
    have hS0 : Hand.itemsR S36.mk l0 = [⟨false, [], [], 100, 0⟩] := by unfold Hand.itemsR; rw [if_neg hh]
    gi_wp2_with fail
    refine ⟨trivial, fun _ => by omega, ?_⟩
    refine (callsIn_wide.2 (cutPrefix_calls Ad c l0 (W.heap.size + 1) _ (Kd.F_now HF2.out) HC.out HG2.out hl)).mono ?_
    rw [hd]
    rintro e w' ⟨⟨v, rfl, -⟩, hw⟩
    subst hw
    have hyc : w'.cell? ⟨W.heap.size, 0, none⟩ = some (.func (.yield l) #[] #[]) := cell_of_row _ _ _ _ _ _ HY2.out
    have hJe := hJ _ _ _ h0 (StpI.below HB2.out)
    have hspx : (([] : List (List Value × S36)) ++ [(([.bool false, .slice none 0 0, .slice none 0 0, .int .i64 100, .int .i64 0] : List Value), (⟨false, [], [], 100, 0⟩ : S36))]).map (·.2) <+: Hand.itemsR S36.mk l0 := by
      rw [hS0]
      exact List.prefix_refl _
    obtain ⟨yf, ytmps, yassign, ybody, hyy, hR⟩ := hY [] (([.bool false, .slice none 0 0, .slice none 0 0, .int .i64 100, .int .i64 0] : List Value), (⟨false, [], [], 100, 0⟩ : S36)) w' hJe ⟨by rw [HS2.out]; exact Nat.le_refl _, k36_mkF w' (TypB (W.heap.size + 2) w') ⟨false, [], [], 100, 0⟩ (Nat.le_refl _) (Kd.F_nil _ _ _) (Nat.le_refl _) (Kd.F_nil _ _ _)⟩ hspx
    have hyy' : (Instr.yield l #[.agg #[.bool false, .slice none 0 0, .slice none 0 0, .int .i64 100, .int .i64 0]]).run Try.prog w' = .ok (.round l yf ytmps yassign ybody) w' := hyy
    have HS0 := Aside0.mk hS0
    clear hspx hd
    gi_wp2_with fail
    refine ⟨fun _ => by omega, ?_⟩
    refine (Hand.roundIn_wide hR).mono ?_
    rintro e wf (⟨rfl, hJf, hkf⟩ | ⟨rfl, hJf, hkf⟩)
    · gi_wp2_with fail
      refine ⟨_, results_none rfl _ _ _, ⟨_, rfl⟩, .inl ⟨_, ?_, hJf⟩⟩
      exact HS0.out.symm
    · gi_wp2_with fail
      refine ⟨_, results_none rfl _ _ _, ⟨_, rfl⟩, .inr ⟨_, ⟨[], ?_⟩, hJf⟩⟩
      exact HS0.out.symm
def creellaw10_list.f (l0 : List Int) : Option (List (S36) × Bool) := if l0.length ≤ 1000000 then some (Hand.itemsR S36.mk l0, true) else none
theorem creellaw10_list.info : (Try.prog.info? 36).map (fun i => (i.zero, i.size, i.bytes)) = some (some (.agg #[(.bool false), (.slice none 0 0), (.slice none 0 0), (.int .i64 0), (.int .i64 0)]), 5, 72) := by kernel_rfl
theorem creellaw10_list.itemsR_len (b : List Int) : (Hand.itemsR S36.mk b).length ≤ b.length + 1 := by
  unfold Hand.itemsR
  split
  · have := Hand.itemsN_len S36.mk (b.length + 1) (b.drop 8) 8
    rw [List.length_drop] at this
    omega
  · exact Nat.le_add_left _ _
set_option maxHeartbeats 4000000 in
theorem creellaw10_list.all (Ad : Option Addr) (len c : Nat) (w : World) :
    Calls Try.prog 14 #[.slice Ad len c] w fun e w' => e = .returned (.func (.func 19) #[] #[.pointer (some ⟨w.heap.size, 0, none⟩)]) ∧ w' = w.alloc (.cells #[.slice Ad len c] 23) := by
  go_enter Try.func14, Try.ntmps14
  go_wp2
  go_ret
  exact ⟨rfl, rfl⟩
/-- Between two items: what came stands in the box of 'out'. -/
def InvL (w : World) (d : Kd S36) (nb : Nat) (A0 : Option Addr) (c0 : Nat) (l0 : List Int) (pre : List (List Value × S36)) (A : World) : Prop :=
  Below w.heap.size w A ∧ A.heap[w.heap.size]? = some (.cells #[.slice A0 l0.length c0] 23) ∧ A.heap[w.heap.size + 1]? = some (.cells #[.slice none 0 0] 24) ∧ A.heap[w.heap.size + 2]? = some (.cells #[.bool false] 4) ∧
    ∃ v, A.heap[w.heap.size + 3]? = some (.cells #[v] 24) ∧ Kd.N d 36 A (w.heap.size + 7) (fun k => w.heap.size + 7 + nb ≤ k) v (pre.map (·.2))
theorem InvL.keep {w : World} {d : Kd S36} {nb : Nat} {A0 : Option Addr} {c0 : Nat} {l0 : List Int} {pre : List (List Value × S36)} {A B : World} (h : InvL w d nb A0 c0 l0 pre A) (hs : A.heap.size ≤ B.heap.size) (hk : ∀ k, k < A.heap.size → (k < w.heap.size + 5 ∨ w.heap.size + 7 + nb ≤ k) → B.heap[k]? = A.heap[k]?)
    (ho : B.os = A.os) (ht : B.tape = A.tape) (hu : B.output = A.output) : InvL w d nb A0 c0 l0 pre B := by
  obtain ⟨hB, h0, h1, h2, v, h3, hN⟩ := h
  have lt : ∀ {k : Nat} {o : Obj}, A.heap[k]? = some o → k < A.heap.size := fun h => (Array.getElem?_eq_some_iff.1 h).1
  have hsz := hB.size
  exact ⟨⟨ho.trans hB.os, ht.trans hB.tape, hu.trans hB.output, Nat.le_trans hB.size hs, fun k hlt => (hk k (by omega) (.inl (by omega))).trans (hB.block k hlt)⟩,
    (hk _ (lt h0) (.inl (by omega))).trans h0, (hk _ (lt h1) (.inl (by omega))).trans h1, (hk _ (lt h2) (.inl (by omega))).trans h2, v, (hk _ (lt h3) (.inl (by omega))).trans h3, Kd.N_step hN (fun k hk' hlt => hk k hlt (.inr hk'))⟩
theorem N_typed {d : Kd S36} {e base : Nat} {ok : Nat → Prop} {W : World} {v : Value} {xs : List S36} (h : Kd.N d e W base ok v xs) {k : Nat} (hk : v.ownBlock = some k) : ∃ C fr, W.heap[k]? = some (.cells C e fr) := by
  obtain ⟨_, rows, _, hR, _⟩ := h
  obtain ⟨_, _, _, q, hq, C, hC⟩ := (Kd.R_bound hR).1 k hk
  have hq' : q = e := by
    rcases List.mem_cons.1 hq with h | h
    · exact h
    · exact absurd h (List.not_mem_nil)
  subst hq'
  exact ⟨C, _, hC⟩
attribute [local go_sem] Oper.semAt_some in
set_option maxHeartbeats 8000000 in
set_option maxRecDepth 100000 in
theorem creellaw10_list.calls (A0 : Option Addr) (c0 : Nat) (l0 : List Int) (r0 : List (S36)) (r1 : Bool) (w : World) (hr0 : Kd.C (Kd.int .u8) w A0 l0.length l0) (hc0 : l0.length ≤ c0) (h : creellaw10_list.f l0 = some (r0, r1)) :
    Calls Try.prog 7 #[.slice A0 l0.length c0] w fun e w' => ∃ v0_ : Value, e = .returned (.tuple #[v0_, .bool r1]) ∧ Kd.N k36 36 w' w.heap.size (fun k_ => (w.heap.size ≤ k_)) v0_ r0 ∧ Below w.heap.size w w' := by
  unfold creellaw10_list.f at h
  by_cases hl : l0.length ≤ 1000000
  · rw [if_pos hl] at h
    obtain ⟨rfl, rfl⟩ : Hand.itemsR S36.mk l0 = r0 ∧ true = r1 := by
      have h1 := Option.some.inj h
      exact ⟨congrArg Prod.fst h1, congrArg Prod.snd h1⟩
    clear h
    have HF0 := Aside0.mk (Kd.C_F (Kd.heap_int .u8) hr0)
    have HC0 := Aside0.mk hc0
    clear hr0 hc0
    refine (callsIn_wide (n := 10)).1 ?_
    refine callsIn_of_wp_marks Try.func7 rfl trivial ?_ rfl
    simp only [Try.ntmps7, List.size_toArray, List.length_cons, List.length_nil, Nat.reduceAdd, Nat.reduceSub, Array.replicate_succ, Array.replicate_zero, List.push_toArray, List.append_toArray, List.nil_append, List.cons_append]
    gi_wp2_with fail
    refine ⟨trivial, ?_⟩
    refine (callsIn_wide.2 (creellaw10_list.all A0 l0.length c0 _)).mono ?_
    rintro e w' ⟨rfl, rfl⟩
    have hnf : ∀ (b : Nat) (W : World), (binOp BinOp.eql 40 (.func (.func 19) #[] #[.pointer (some ⟨b, 0, none⟩)]) .nilFunc).run Try.prog W = .ok (.bool false) W := fun _ _ => by kernel_rfl
    gi_wp2_with fail
    simp only [World.size_alloc, Nat.add_assoc, Nat.reduceAdd]
    obtain ⟨w5, hw5⟩ : ∃ w5, (((((w.alloc (Obj.cells #[Value.slice A0 l0.length c0] 23)).alloc (Obj.cells #[Value.slice none 0 0] 24)).alloc (Obj.cells #[Value.bool false] 4)).alloc (Obj.cells #[Value.slice none 0 0] 24)).alloc (Obj.cells #[Value.slice A0 l0.length c0] 23)) = w5 := ⟨_, rfl⟩
    rw [hw5]
    have hs5 : w5.heap.size = w.heap.size + 5 := by rw [← hw5]; simp
    have hb5 : Below w.heap.size w w5 := by rw [← hw5]; exact (((((Below.refl _ _).alloc (Nat.le_refl _) _).alloc (by simp) _).alloc (by simp <;> omega) _).alloc (by simp <;> omega) _).alloc (by simp <;> omega) _
    have h50 : w5.heap[w.heap.size]? = some (.cells #[.slice A0 l0.length c0] 23) := by
      rw [← hw5]
      exact (Below.heap_alloc _ _ _ (by simp <;> omega)).trans ((Below.heap_alloc _ _ _ (by simp <;> omega)).trans ((Below.heap_alloc _ _ _ (by simp <;> omega)).trans ((Below.heap_alloc _ _ _ (by simp)).trans (heap_alloc_new _ _))))
    have h51 : w5.heap[w.heap.size + 1]? = some (.cells #[.slice none 0 0] 24) := by
      have h := heap_alloc_new (w.alloc (Obj.cells #[Value.slice A0 l0.length c0] 23)) (Obj.cells #[Value.slice none 0 0] 24)
      rw [World.size_alloc] at h
      rw [← hw5]
      exact (Below.heap_alloc _ _ _ (by simp <;> omega)).trans ((Below.heap_alloc _ _ _ (by simp <;> omega)).trans ((Below.heap_alloc _ _ _ (by simp)).trans h))
    have h52 : w5.heap[w.heap.size + 2]? = some (.cells #[.bool false] 4) := by
      have h := heap_alloc_new ((w.alloc (Obj.cells #[Value.slice A0 l0.length c0] 23)).alloc (Obj.cells #[Value.slice none 0 0] 24)) (Obj.cells #[Value.bool false] 4)
      rw [World.size_alloc, World.size_alloc] at h
      rw [← hw5]
      exact (Below.heap_alloc _ _ _ (by simp <;> omega)).trans ((Below.heap_alloc _ _ _ (by simp)).trans h)
    have h53 : w5.heap[w.heap.size + 3]? = some (.cells #[.slice none 0 0] 24) := by
      have h := heap_alloc_new (((w.alloc (Obj.cells #[Value.slice A0 l0.length c0] 23)).alloc (Obj.cells #[Value.slice none 0 0] 24)).alloc (Obj.cells #[Value.bool false] 4)) (Obj.cells #[Value.slice none 0 0] 24)
      rw [World.size_alloc, World.size_alloc, World.size_alloc] at h
      rw [← hw5]
      exact (Below.heap_alloc _ _ _ (by simp)).trans h
    have h54 : w5.cell? ⟨w.heap.size + 4, 0, none⟩ = some (.slice A0 l0.length c0) := by
      have h := heap_alloc_new ((((w.alloc (Obj.cells #[Value.slice A0 l0.length c0] 23)).alloc (Obj.cells #[Value.slice none 0 0] 24)).alloc (Obj.cells #[Value.bool false] 4)).alloc (Obj.cells #[Value.slice none 0 0] 24)) (Obj.cells #[Value.slice A0 l0.length c0] 23)
      rw [World.size_alloc, World.size_alloc, World.size_alloc, World.size_alloc] at h
      rw [← hw5]
      exact cell_of_row _ _ _ _ _ _ h
    have hF5 := Kd.F_below HF0.out hb5
    clear hw5
    obtain ⟨nb, hnb⟩ : ∃ nb, nb = if Hand.isHead l0 then 7 else 2 := ⟨_, rfl⟩
    have hnb7 : 2 ≤ nb := by rw [hnb]; split <;> omega
    obtain ⟨K0, hK0⟩ : ∃ K0 : Nat → Prop, K0 = fun k => k < w.heap.size ∨ k = w.heap.size + 4 := ⟨_, rfl⟩
    have hW7 : ∀ r : Loop, ((w5.alloc (.deferred (some []))).alloc (.loop r)).heap.size = w.heap.size + 7 := fun r => by simp [hs5]
    have hb7 : ∀ r : Loop, Below w5.heap.size w5 ((w5.alloc (.deferred (some []))).alloc (.loop r)) := fun r => ((Below.refl _ _).alloc (Nat.le_refl _) _).alloc (by simp) _
    refine Hand.rangeC (w := w5) (gf := 19) (lb := #[.pointer (some ⟨w.heap.size + 4, 0, none⟩)]) (encs := fun x : List Value × S36 => #[.agg x.1.toArray]) (G := fun x W' => w.heap.size + 7 + nb ≤ W'.heap.size ∧ Kd.FK k36 W' (TypB (w.heap.size + 7 + nb) W') x.2 x.1) (Stp := StpI (w.heap.size + 7) (w.heap.size + 7 + nb)) (Kp := KpK (fun k => K0 k ∨ (w.heap.size + 7 ≤ k ∧ k < w.heap.size + 7 + nb))) (S := fun xs => xs.map (·.2) = Hand.itemsR S36.mk l0) (Sp := fun xs => xs.map (·.2) <+: Hand.itemsR S36.mk l0)
      rfl (by omega) rfl trivial (fun args w => Hand.run_enter Try.func19 (by kernel_rfl) rfl args w)
      (fun r => by
        have h := all1_seq 9 (by decide) ((w5.alloc (.deferred (some []))).alloc (.loop r)) (w.heap.size + 4) A0 c0 l0 K0 (((hb7 r).cell (World.block_lt_of_cell? _ _ h54)).trans h54) (by rw [hK0]; exact .inr rfl) (Kd.F_mono (Kd.F_below hF5 (hb7 r)) (fun k hk => by rw [hK0]; exact .inl hk)) HC0.out hl (fun k hk => by rw [hK0] at hk; rw [hW7]; omega) nb hnb
        rwa [hW7] at h)
      (fun _ => rfl) (InvL w k36 nb A0 c0 l0) (fun _ _ _ => False) ?hIs (fun _ _ _ _ h _ => h) ?hIp (fun _ _ _ _ _ h _ => h) ?hGp ?hSk (fun h k => h.trans k) ?hKp ?h0
      (fun x a' A => ∃ bx, w.heap.size + 7 + nb ≤ bx ∧ A.heap[bx]? = some (.cells x.1.toArray 36) ∧ Kd.FK k36 A (TypB (w.heap.size + 7 + nb) A) x.2 x.1 ∧ a' = { tmps := #[.slice A0 l0.length c0, .pointer (some ⟨w.heap.size, 0, none⟩), .pointer (some ⟨w.heap.size + 1, 0, none⟩), .pointer (some ⟨w.heap.size + 2, 0, none⟩), .pointer (some ⟨w.heap.size + 3, 0, none⟩), .func (.func 19) #[] #[.pointer (some ⟨w.heap.size + 4, 0, none⟩)], .pointer (some ⟨bx, 0, none⟩), .slice A0 l0.length c0, .func (.func 19) #[] #[.pointer (some ⟨w.heap.size + 4, 0, none⟩)], .func (.func 19) #[] #[.pointer (some ⟨w.heap.size + 4, 0, none⟩)], .bool false, .func (.func 19) #[] #[.pointer (some ⟨w.heap.size + 4, 0, none⟩)], .agg x.1.toArray, undef, undef, undef, undef, undef, undef, undef, undef, undef, undef, undef, undef], defers := [] }) ?hAx ?hassign ?hbody ?hdone (fun _ _ _ _ h _ => h.elim)
    case hIs => intro s A B h hst; exact h.keep hst.1 (fun k hlt hk => hst.2.1 k hlt (by omega)) hst.2.2.1 hst.2.2.2.1 hst.2.2.2.2
    case hIp => intro s A r r' h hl; exact h.keep (by simp) (fun k hlt hk => World.putObj_heap_other (by omega)) rfl rfl rfl
    case hGp => rintro x A r r' ⟨h1, h2⟩ hl; exact ⟨by simpa using h1, FK_typ h2 (fun k hk _ => World.putObj_heap_other (by omega))⟩
    case hSk => intro A B hst hlt; exact ⟨hst.2.1 _ (by omega) (by omega), hst.2.1 _ hlt (by omega)⟩
    case hKp =>
      intro A r r' hl
      refine KpK.of_stp (Bs := w.heap.size + 5) (Be := w.heap.size + 7) (StpI.putObj (by omega) (by omega) _) (fun k hk h => ?_)
      rw [hK0] at hk
      omega
    case h0 =>
      intro r
      have lt : ∀ {k : Nat} {o : Obj}, w5.heap[k]? = some o → k < w5.heap.size := fun h => (Array.getElem?_eq_some_iff.1 h).1
      exact ⟨hb5.trans ((hb7 r).mono (by omega)), ((hb7 r).block _ (lt h50)).trans h50, ((hb7 r).block _ (lt h51)).trans h51, ((hb7 r).block _ (lt h52)).trans h52, _, ((hb7 r).block _ (lt h53)).trans h53, Kd.N_nil _ _ _ _ _⟩
    case hAx =>
      rintro x a' A r r' ⟨bx, h1, h2, h3, h4⟩ hl
      exact ⟨bx, h1, (World.putObj_heap_other (by omega)).trans h2, FK_typ h3 (fun k hk _ => World.putObj_heap_other (by omega)), h4⟩
    case hassign =>
      rintro lq pre ⟨cs, it⟩ A K hlt hI ⟨hsz, hFK⟩ hK
      obtain ⟨X1, d1, X2, d2, hcs, -⟩ := k36_openF hFK
      dsimp only at hcs
      subst hcs
      gi_wp2_with fail
      refine hK _ _ ?_ ?_ ?_ ?_
      · exact ⟨Below.heap_alloc _ _ _ (by omega), Below.heap_alloc _ _ _ hlt⟩
      · exact ⟨by simp, fun k _ hk => Below.heap_alloc _ _ _ hk⟩
      · exact hI.keep (by simp) (fun k hk _ => Below.heap_alloc _ _ _ hk) rfl rfl rfl
      · exact ⟨A.heap.size, hsz, heap_alloc_new _ _, FK_typ hFK (fun k _ ⟨_, _, hk⟩ => Below.heap_alloc _ _ _ (Array.getElem?_eq_some_iff.1 hk).1), rfl⟩
    case hbody =>
      rintro lq pre ⟨cs, it⟩ a' A hlt hI ⟨bx, hbx, hcx, hFK, rfl⟩ hsp
      obtain ⟨X1, d1, X2, d2, hcs, -⟩ := k36_openF hFK
      dsimp only at hcs
      subst hcs
      obtain ⟨hB, hb0, hb1, hb2, v, hb3, hN⟩ := hI
      have lt : ∀ {k : Nat} {o : Obj}, A.heap[k]? = some o → k < A.heap.size := fun h => (Array.getElem?_eq_some_iff.1 h).1
      have hlen : pre.length + 1 ≤ l0.length + 1 := by
        have h1 := hsp.length_le
        rw [List.length_map, List.length_append] at h1
        exact Nat.le_trans h1 (creellaw10_list.itemsR_len l0)
      have hlm : (pre.map (·.2)).length = pre.length := List.length_map _
      have q0 : A.cell? ⟨bx, 0, none⟩ = some (.bool it.f0) := cell_of_row _ _ _ _ _ _ hcx
      have q1 : A.cell? ⟨bx, 1, none⟩ = some (.slice X1 it.f1.length d1) := cell_of_row _ _ _ _ _ _ hcx
      have q2 : A.cell? ⟨bx, 2, none⟩ = some (.slice X2 it.f2.length d2) := cell_of_row _ _ _ _ _ _ hcx
      have q3 : A.cell? ⟨bx, 3, none⟩ = some (.int .i64 it.f3) := cell_of_row _ _ _ _ _ _ hcx
      have q4 : A.cell? ⟨bx, 4, none⟩ = some (.int .i64 it.f4) := cell_of_row _ _ _ _ _ _ hcx
      have o0 : A.cell? ⟨w.heap.size + 3, 0, none⟩ = some v := cell_of_row _ _ _ _ _ _ hb3
      have HFK := Aside0.mk hFK
      have HN := Aside0.mk hN
      have HB0 := Aside0.mk hb0
      have HB3 := Aside0.mk hb3
      have hokp : ∀ k, TypB (w.heap.size + 7 + nb) A k → w.heap.size + 7 + nb ≤ k ∧ some k ≠ v.ownBlock := fun k ⟨h1, C, fr, h2⟩ => ⟨h1, fun e => by
        obtain ⟨C2, fr2, h3⟩ := N_typed hN e.symm
        rw [h2] at h3
        simp at h3⟩
      have HOK := Aside0.mk hokp
      clear hFK hN hb0 hb3 hokp
      gi_wp2_with (refine Hand.stop_list (o := { dst := some 16, op := _, type := _, pos := _, after := _, guard := _ }) ?_)
      refine ⟨?_⟩
      refine Hand.listIn_round (fun c h => by cases h) ?_
      refine Kd.N_append_step k36 (w0 := A) (w.heap.size + 7) (by rfl) (.tmp 13) (.tmp 15) 24 36 (.agg #[(.bool false), (.slice none 0 0), (.slice none 0 0), (.int .i64 0), (.int .i64 0)]) 72 (by rfl) Try.underlying24 creellaw10_list.info rfl (by decide) (by decide) v (pre.map (·.2)) it [.bool it.f0, .slice X1 it.f1.length d1, .slice X2 it.f2.length d2, .int .i64 it.f3, .int .i64 it.f4] (fun k => w.heap.size + 7 + nb ≤ k) _ (by rfl) (by rfl) HFK.out HOK.out (fun k hk => by have := lt hcx; omega) HN.out (Below.refl _ _) (by omega) (by rw [hlm]; omega) ?_
      intro v1 w1 hN1 hB1 hg1 hob1
      obtain ⟨Av, cv, rfl⟩ := Kd.N_slice hN1
      obtain ⟨m, hm⟩ : ∃ m, (pre.map (·.2) ++ [it]).length = m := ⟨_, rfl⟩
      have hm1 : m ≤ l0.length + 1 := by rw [← hm, List.length_append, hlm]; exact hlen
      rw [hm] at hN1 hob1 ⊢
      have hv3 := (hB1.block (w.heap.size + 3) (by omega)).trans HB3.out
      have hv0 := (hB1.block w.heap.size (by omega)).trans HB0.out
      have o1 : w1.cell? ⟨w.heap.size + 3, 0, none⟩ = some v := cell_of_row _ _ _ _ _ _ hv3
      have of1 : w1.frozen? ⟨w.heap.size + 3, 0, none⟩ = false := by simp [World.frozen?, hv3]
      have o2 : w1.cell? ⟨w.heap.size, 0, none⟩ = some (.slice A0 l0.length c0) := cell_of_row _ _ _ _ _ _ hv0
      have o3 : (w1.setCell ⟨w.heap.size + 3, 0, none⟩ (.slice Av m cv)).cell? ⟨w.heap.size, 0, none⟩ = some (.slice A0 l0.length c0) := (World.cell?_of_block (Below.heap_setCell w1 ⟨w.heap.size + 3, 0, none⟩ _ w.heap.size (by show w.heap.size ≠ w.heap.size + 3; omega))).trans o2
      have HN1 := Aside0.mk hN1
      have HV3 := Aside0.mk hv3
      have HV0 := Aside0.mk hv0
      have HOB := Aside0.mk hob1
      have HHM := Aside0.mk hm
      have e1 : decide ((l0.length : Int) + 1 < (m : Int)) = false := decide_eq_false (by omega)
      clear hN1 hv3 hv0 hob1 hm q0 q1 q2 q3 q4 o0
      simp only [Act.put]
      gi_wp2_with fail
      have hsz1 := hB1.size
      have hof : ∀ k, v.ownBlock = some k → w.heap.size + 7 + nb ≤ k := HN.out.1
      have hkp : ∀ k, k < A.heap.size → k < w.heap.size + 7 + nb → k ≠ w.heap.size + 3 → (w1.setCell ⟨w.heap.size + 3, 0, none⟩ (.slice Av m cv)).heap[k]? = A.heap[k]? := fun k hlt h1 h2 =>
        (Below.heap_setCell w1 ⟨w.heap.size + 3, 0, none⟩ _ k h2).trans (hg1.block k hlt (fun e => by have := hof k e.symm; omega))
      have hBw := hB.trans (hB1.mono (by omega))
      refine ⟨⟨hkp _ (by omega) (by omega) (by omega), hkp _ hlt (by omega) (by omega)⟩, ⟨by simpa using hsz1, fun k hk hlt => ?_⟩, ⟨hBw.os, hBw.tape, hBw.output, by simpa using hBw.size, fun k hk => (Below.heap_setCell w1 ⟨w.heap.size + 3, 0, none⟩ _ k (by show k ≠ w.heap.size + 3; omega)).trans (hBw.block k hk)⟩, ?_, ?_, ?_, _, heap_setCell_same _ _ _ _ _ _ HV3.out, ?_⟩
      · rw [hK0] at hk
        exact hkp k hlt (by omega) (by omega)
      · exact (hkp _ (lt HB0.out) (by omega) (by omega)).trans HB0.out
      · exact (hkp _ (lt hb1) (by omega) (by omega)).trans hb1
      · exact (hkp _ (lt hb2) (by omega) (by omega)).trans hb2
      · rw [List.map_append]
        exact Kd.N_far HN1.out (fun k hk => by show k ≠ w.heap.size + 3; omega) _
    case hdone =>
      rintro xs A hS ⟨hB, hb0, hb1, hb2, v, hb3, hN⟩ hK
      rw [hS] at hN
      obtain ⟨Av, cv, rfl⟩ := Kd.N_slice hN
      have o0 : A.cell? ⟨w.heap.size + 3, 0, none⟩ = some (.slice Av (Hand.itemsR S36.mk l0).length cv) := cell_of_row _ _ _ _ _ _ hb3
      have o1 : A.cell? ⟨w.heap.size + 1, 0, none⟩ = some (.slice none 0 0) := cell_of_row _ _ _ _ _ _ hb1
      have o2 : A.cell? ⟨w.heap.size + 2, 0, none⟩ = some (.bool false) := cell_of_row _ _ _ _ _ _ hb2
      have of1 : A.frozen? ⟨w.heap.size + 1, 0, none⟩ = false := by simp [World.frozen?, hb1]
      have of2 : A.frozen? ⟨w.heap.size + 2, 0, none⟩ = false := by simp [World.frozen?, hb2]
      have HNN := Aside0.mk hN
      have HBB := Aside0.mk hB
      have HKK := Aside0.mk hK
      generalize (Hand.itemsR S36.mk l0).length = m at *
      clear hN hB hS
      gi_wp2_with fail
      obtain ⟨B, hBe⟩ : ∃ B, ((A.setCell ⟨w.heap.size + 1, 0, none⟩ (.slice Av m cv)).setCell ⟨w.heap.size + 2, 0, none⟩ (.bool true)) = B := ⟨_, rfl⟩
      rw [hBe]
      have hoth : ∀ k, k ≠ w.heap.size + 1 → k ≠ w.heap.size + 2 → B.heap[k]? = A.heap[k]? := fun k h1 h2 => by
        rw [← hBe]
        exact (Below.heap_setCell _ _ _ k h2).trans (Below.heap_setCell _ _ _ k h1)
      have g1 : B.heap[w.heap.size + 1]? = some (.cells #[.slice Av m cv] 24) := by
        rw [← hBe]
        exact (Below.heap_setCell _ ⟨w.heap.size + 2, 0, none⟩ _ _ (by show w.heap.size + 1 ≠ w.heap.size + 2; omega)).trans (heap_setCell_same _ _ _ _ _ _ hb1)
      have g2 : B.heap[w.heap.size + 2]? = some (.cells #[.bool true] 4) := by
        rw [← hBe]
        exact heap_setCell_same _ _ _ _ _ _ ((Below.heap_setCell _ ⟨w.heap.size + 1, 0, none⟩ _ _ (by show w.heap.size + 2 ≠ w.heap.size + 1; omega)).trans hb2)
      have hrest : B.os = A.os ∧ B.tape = A.tape ∧ B.output = A.output ∧ B.heap.size = A.heap.size := by
        rw [← hBe]
        exact ⟨by simp only [(setCell_rest _ _ _).1], by simp only [(setCell_rest _ _ _).2.1], by simp only [(setCell_rest _ _ _).2.2], by simp⟩
      have hKB := (hoth w5.heap.size (by omega) (by omega)).trans HKK.out
      refine ⟨by simp, .inl ⟨_, _, rfl, run_takeDeferred hKB, ?_⟩⟩
      obtain ⟨C, hCe⟩ : ∃ C, B.putObj w5.heap.size (.deferred none) = C := ⟨_, rfl⟩
      rw [hCe]
      have hc : ∀ k, k ≠ w5.heap.size → C.heap[k]? = B.heap[k]? := fun k hk => by rw [← hCe]; exact World.putObj_heap_other hk
      have c1 : C.cell? ⟨w.heap.size + 1, 0, none⟩ = some (.slice Av m cv) := cell_of_row _ _ _ _ _ _ ((hc _ (by omega)).trans g1)
      have c2 : C.cell? ⟨w.heap.size + 2, 0, none⟩ = some (.bool true) := cell_of_row _ _ _ _ _ _ ((hc _ (by omega)).trans g2)
      have hCB : C.os = B.os ∧ C.tape = B.tape ∧ C.output = B.output ∧ C.heap.size = B.heap.size := by rw [← hCe]; exact ⟨rfl, rfl, rfl, by simp⟩
      refine ⟨.tuple #[.slice Av m cv, .bool true], ?_, _, rfl, ?_, ?_⟩
      · simp [results, Try.f7, go_sem, c1, c2]
      · refine Kd.N_mono (Kd.N_lower (Kd.N_step HNN.out (fun k hk hlt => ?_)) (by omega)) (fun k hk => by omega)
        exact (hc k (by omega)).trans (hoth k (by omega) (by omega))
      · exact ⟨hCB.1.trans (hrest.1.trans HBB.out.os), hCB.2.1.trans (hrest.2.1.trans HBB.out.tape), hCB.2.2.1.trans (hrest.2.2.1.trans HBB.out.output), by rw [hCB.2.2.2, hrest.2.2.2]; exact HBB.out.size, fun k hk => (hc k (by omega)).trans ((hoth k (by omega) (by omega)).trans (HBB.out.block k hk))⟩
  · rw [if_neg hl] at h
    exact absurd h (by simp)

end Go.Proofs.Ythnjeddcnkbebaa.Print
