/- Words of the print, of which only those stand here that this claim names. -/
-- Written by a program of this session (wip/cprint.py), which calls the kit's print and adds contracts proved by hand.
import Derived.Test.YtnkjbgoibmbmoaaPrint0
import Derived.Test.YtnkjbgoibmbmoaaPrint1
namespace Go.Proofs.Ytnkjbgoibmbmoaa.Print
open Go.RowKit Go.Proofs.YtnkjbgoibmbmoaaW.PrintWords Go.Proofs.YtnkjbgoibmbmoaaW.PrintLast Go.Proofs.YtnkjbgoibmbmoaaW.PrintMore
attribute [local go_sem] max2_int min2_int max_two min_two max_three min_three max_four min_four   -- for this text's walks alone
set_option linter.unusedVariables false
set_option linter.unusedSimpArgs false

/-! ### shard_cut: function 26 -/
/-- Pieces of so many. -/
def chk (m : Nat) : Nat → List Int → List (List Int)
 | 0, _ => []
 | f + 1, r => if r.length = 0 then [] else r.take m :: chk m f (r.drop m)
def KpK (K : Nat → Prop) (A B : World) : Prop := A.heap.size ≤ B.heap.size ∧ ∀ k, K k → k < A.heap.size → B.heap[k]? = A.heap[k]?
theorem KpK.refl (K : Nat → Prop) (A : World) : KpK K A A := ⟨Nat.le_refl _, fun _ _ _ => rfl⟩
theorem KpK.trans {K : Nat → Prop} {A B C : World} (h : KpK K A B) (k : KpK K B C) : KpK K A C := ⟨Nat.le_trans h.1 k.1, fun i hi hlt => (k.2 i hi (Nat.lt_of_lt_of_le hlt h.1)).trans (h.2 i hi hlt)⟩
theorem KpK.cell {K : Nat → Prop} {A B : World} (h : KpK K A B) {a : Addr} {v : Value} (hK : K a.block) (hc : A.cell? a = some v) : B.cell? a = some v := by
 have hlt := World.block_lt_of_cell? A a hc
 simp only [World.cell?] at hc ⊢
 rw [h.2 _ hK hlt]; exact hc
theorem KpK.F {K : Nat → Prop} {A B : World} (h : KpK K A B) {k : IntKind} {ad : Option Addr} {xs : List Int} {n : Nat} (hF : Kd.F (Kd.int k) A K ad n xs) : Kd.F (Kd.int k) B K ad n xs := Kd.F_step hF (fun i hi hlt => h.2 i hi hlt)
set_option maxHeartbeats 4000000 in
set_option maxRecDepth 100000 in
theorem chunk1_seq (F : Fence) (n : Nat) (hF : F.fn 53) (hro : F.round = none) (hn : 1 ≤ n) (W : World) (Bs Bn : Nat) (Ad : Option Addr) (c : Nat) (l0 : List Int) (m : Nat) (hm : 0 < m) (hm2 : m ≤ 1000000) (K0 : Nat → Prop)
  (hs : W.cell? ⟨Bs, 0, none⟩ = some (.slice Ad l0.length c)) (hnn : W.cell? ⟨Bn, 0, none⟩ = some (.int .i64 m)) (hKs : K0 Bs) (hKn : K0 Bn) (hF0 : Kd.F (Kd.int .u8) W K0 Ad l0.length l0) (hc : l0.length ≤ c) (hl : l0.length ≤ 1000000) :
  Hand.SeqC F n Try.prog 53 #[.pointer (some ⟨Bs, 0, none⟩), .pointer (some ⟨Bn, 0, none⟩)] (fun x : Option Addr × List Int => #[.slice x.1 x.2.length x.2.length]) (fun x W => Kd.C (Kd.int .u8) W x.1 x.2.length x.2)
   (fun A B => ∃ q, B = A.drewN q) (KpK K0) (fun xs => xs.map (·.2) = chk m (l0.length + 1) l0) (fun xs => xs.map (·.2) <+: chk m (l0.length + 1) l0) W := by
 intro l J Jx hJ hJx hY h0
 generalize hRR : chk m (l0.length + 1) l0 = R
 have HRR := Aside0.mk hRR
 clear hRR
 refine callsIn_of_wp Try.func53 rfl hF ?_ hro
 simp only [Try.ntmps53, List.size_toArray, List.length_cons, List.length_nil, Nat.reduceAdd, Nat.reduceSub, Array.replicate_succ, Array.replicate_zero, List.push_toArray, List.append_toArray, List.nil_append, List.cons_append]
 gi_wp2
 gi_loopw [4] (fun v wr => ∃ (i f : Nat) (pre : List (Option Addr × List Int)), v = .int .i64 i ∧ i ≤ l0.length + m ∧ l0.length ≤ i + f ∧ Aside0 (pre.map (·.2) ++ chk m (f + 1) (l0.drop i) = R) ∧ J pre wr ∧ Aside0 (KpK K0 W wr)) (fun v _ => l0.length + m - (intOf v).toNat)
 case atStart => exact ⟨0, l0.length, [], rfl, Nat.zero_le _, by omega, ⟨by simpa using HRR.out⟩, h0, ⟨KpK.refl _ _⟩⟩
 case round =>
  obtain ⟨i, f, pre, rfl, hi, hf, HE, hJs, HK⟩ := hrel
  have hsr := HK.out.cell (a := ⟨Bs, 0, none⟩) hKs hs
  have hnr := HK.out.cell (a := ⟨Bn, 0, none⟩) hKn hnn
  by_cases hlt : i < l0.length
  ·have he := HE.out
   unfold chk at he
   rw [List.length_drop, if_neg (by omega)] at he
   obtain ⟨g, rfl⟩ : ∃ g, f = g + 1 := ⟨f - 1, by omega⟩
   rw [List.drop_drop] at he
   obtain ⟨e, hee⟩ : ∃ e, min m (l0.length - i) = e := ⟨_, rfl⟩
   have he1 : 0 < e ∧ e ≤ m ∧ i + e ≤ l0.length := by omega
   obtain ⟨A2, n2, c2, hn2, hnc2, hcut2, -⟩ := Hand.cut_drop (P := Try.prog) 26 .i64 Try.underlying26 (by kernel_rfl) (HK.out.F hF0) hc i (by omega)
   obtain ⟨A3, n3, hn3, hcut3, hF3⟩ := Hand.cut_full (P := Try.prog) 26 .i64 .i64 .i64 Try.underlying26 (by kernel_rfl) (HK.out.F hF0) hc i (i + e) (by omega) (by omega)
   have q1 : (l0.take (i + e)).drop i = (l0.drop i).take m := by rw [List.drop_take, List.take_eq_take_iff, List.length_drop]; omega
   rw [q1] at hn3 hF3
   rw [List.length_drop] at hn2
   generalize (l0.drop i).take m = y at *
   subst hn3
   subst hn2
   rw [show ((i + e : Nat) : Int) = (i : Int) + (e : Int) from by omega] at hcut3
   have hcut3' := hcut3
   have HC3 := Aside0.mk hF3
   have hif : (if l0.length - i < m then ((l0.length - i : Nat) : Int) else (m : Int)) = (e : Int) := by split <;> omega
   have HIF := Aside0.mk hif
   have HE1 := Aside0.mk he1
   have HEE := Aside0.mk hee
   have HE2 := Aside0.mk he
   clear hif hee he HE hcut3' hF3
   have p1 : (0 : Int) ≤ (i : Int) := by omega
   have p2 : (i : Int) < (l0.length : Int) := by omega
   gi_wp2
   refine wpIn_region_quiet_lit hro (by kernel_rfl) (by kernel_rfl) ?_
   repeat (gi_big_quiet_step (fail))
   refine wpQuietIn_nil ?_
   rintro _ ⟨nq, rfl⟩
   rw [HIF.out]
   have hJq := hJ _ _ _ hJs ⟨nq, rfl⟩
   have HKq : KpK K0 W (wr.drewN nq) := HK.out.trans ⟨Nat.le_refl _, fun _ _ _ => rfl⟩
   have hsq := HKq.cell (a := ⟨Bs, 0, none⟩) hKs hs
   have hnq := HKq.cell (a := ⟨Bn, 0, none⟩) hKn hnn
   have hsp : (pre ++ [(A3, y)]).map (·.2) <+: chk m (l0.length + 1) l0 := ⟨_, by rw [HRR.out, List.map_append]; exact (List.append_assoc _ _ _).trans HE2.out⟩
   have HSP := Aside0.mk hsp
   obtain ⟨fn, tmps, assign, body, hy, hR⟩ := hY pre (A3, y) _ hJq (Kd.F_now (Kd.F_drewN HC3.out nq)) hsp
   clear hsp
   have HKQ := Aside0.mk HKq
   clear HKq hJs hsr hnr HK
   gi_wp2
   refine hR.mono ?_
   rintro e' W3 (⟨rfl, hJ3, hk3⟩ | ⟨rfl, hJx3, -⟩)
   ·have hn3 := (HKQ.out.trans hk3).cell (a := ⟨Bn, 0, none⟩) hKn hnn
    have HK3 := Aside0.mk (HKQ.out.trans hk3)
    gi_wp2
    go_roundw
    case rel => exact ⟨i + m, g, pre ++ [(A3, y)], by go_num, by omega, by omega, ⟨by rw [List.map_append, List.append_assoc]; exact HE2.out⟩, hJ3, HK3⟩
    case measure => simp [intOf]; omega
   ·gi_wp2
    refine bodyPost_ret (results_none rfl _ _ _) rfl ?_
    exact ⟨⟨_, rfl⟩, .inr ⟨_, (by rw [← HRR.out]; exact HSP.out), hJx3⟩⟩
  ·have he := HE.out
   unfold chk at he
   rw [List.length_drop, if_pos (by omega), List.append_nil] at he
   gi_wp2
   go_end0
   exact ⟨⟨_, rfl⟩, .inl ⟨pre, he, hJs⟩⟩
/-- A body in frames, piece by piece. -/
def shard_cut.l (k : Nat) : List (List Int) → List Int → Option (List Int × Int)
 | [], out => some (out, 0)
 | x :: xs, out => (frame_Put.f k out x).bind fun p => if p.2 = 0 then shard_cut.l k xs p.1 else none
def shard_cut.f (k : Nat) (l0 : List Int) : Option (List Int × Int) := if l0.length ≤ 1000000 then shard_cut.l k (chk 1024 (l0.length + 1) l0) [] else none
theorem shard_cut.mono_l (k : Nat) : ∀ (xs : List (List Int)) (out : List Int), LeO (shard_cut.l k xs out) (shard_cut.l (k + 1) xs out)
 | [], _ => LeO.refl _
 | x :: xs, out => by
  unfold shard_cut.l
  refine LeO.trans (LeO.bind (frame_Put.mono out x k) (fun t => LeO.refl _)) (LeO.bind (LeO.refl _) (fun t => ?_))
  exact LeO.ite (shard_cut.mono_l k xs _) (LeO.refl _)
theorem shard_cut.mono : ∀ (a0 : List Int) (k : Nat), LeO (shard_cut.f k a0) (shard_cut.f (k + 1) a0) := by
 intro a0 k
 unfold shard_cut.f
 exact LeO.ite (shard_cut.mono_l k _ _) (LeO.refl _)
theorem shard_cut.l_append (k : Nat) (x : List Int) : ∀ (xs : List (List Int)) (out : List Int), shard_cut.l k (xs ++ [x]) out = (shard_cut.l k xs out).bind fun p => (frame_Put.f k p.1 x).bind fun q => if q.2 = 0 then some (q.1, 0) else none
 | [], out => by
  show shard_cut.l k [x] out = _
  unfold shard_cut.l
  unfold shard_cut.l
  rfl
 | y :: xs, out => by
  rw [List.cons_append]
  unfold shard_cut.l
  cases frame_Put.f k out y with
  | none => rfl
  | some p =>
   simp only [Option.bind_some]
   split
   ·exact shard_cut.l_append k x xs p.1
   ·rfl
/-- What comes out of a beginning, where all comes out. -/
theorem shard_cut.l_pre (k : Nat) : ∀ (xs ys : List (List Int)) (out : List Int) (r : List Int × Int), shard_cut.l k (xs ++ ys) out = some r → ∃ q, shard_cut.l k xs out = some (q, 0)
 | [], _, out, _, _ => ⟨out, by unfold shard_cut.l; rfl⟩
 | y :: xs, ys, out, r, h => by
  rw [List.cons_append] at h
  unfold shard_cut.l at h ⊢
  obtain ⟨p, hp, h⟩ := Option.bind_eq_some_iff.mp h
  rw [hp]
  by_cases h0 : p.2 = 0
  ·rw [if_pos h0] at h
   simp only [Option.bind_some, if_pos h0]
   exact shard_cut.l_pre k xs ys p.1 r h
  ·rw [if_neg h0] at h; exact absurd h (by simp)
set_option maxHeartbeats 4000000 in
theorem shard_cut.chunk (Ad : Option Addr) (len c : Nat) (w : World) :
  Calls Try.prog 40 #[.slice Ad len c, .int .i64 1024] w fun e w' => e = .returned (.func (.func 53) #[] #[.pointer (some ⟨w.heap.size, 0, none⟩), .pointer (some ⟨w.heap.size + 1, 0, none⟩)]) ∧ w' = (w.alloc (.cells #[.slice Ad len c] 26)).alloc (.cells #[.int .i64 1024] 3) := by
 go_enter Try.func40, Try.ntmps40
 go_wp2
 go_ret
 exact ⟨rfl, rfl⟩
/-- Between two pieces: what came of them stands in the box of 'out'. -/
def shard_cut.Inv (k : Nat) (w : World) (pre : List (Option Addr × List Int)) (W : World) : Prop :=
 Below w.heap.size w W ∧ W.heap[w.heap.size]? = some (.cells #[.slice none 0 0] 26) ∧ W.heap[w.heap.size + 1]? = some (.cells #[.int .i64 0] 27) ∧
  ∃ v q, W.heap[w.heap.size + 2]? = some (.cells #[v] 26) ∧ shard_cut.l k (pre.map (·.2)) [] = some (q, 0) ∧ Kd.R (Kd.int .u8) 5 W (w.heap.size + 7) (fun k_ => w.heap.size + 7 ≤ k_) v q
theorem shard_cut.Inv.keep {k : Nat} {w : World} {pre : List (Option Addr × List Int)} {W B : World} (h : shard_cut.Inv k w pre W) (hs : W.heap.size ≤ B.heap.size) (hk : ∀ k_, k_ < W.heap.size → (k_ < w.heap.size + 3 ∨ w.heap.size + 7 ≤ k_) → B.heap[k_]? = W.heap[k_]?)
  (ho : B.os = W.os) (ht : B.tape = W.tape) (hu : B.output = W.output) : shard_cut.Inv k w pre B := by
 obtain ⟨hB, h0, h1, v, q, h2, hl, hV⟩ := h
 have lt : ∀ {k : Nat} {o : Obj}, W.heap[k]? = some o → k < W.heap.size := fun h => (Array.getElem?_eq_some_iff.1 h).1
 have hsz := hB.size
 exact ⟨⟨ho.trans hB.os, ht.trans hB.tape, hu.trans hB.output, Nat.le_trans hB.size hs, fun k hlt => (hk k (by omega) (.inl (by omega))).trans (hB.block k hlt)⟩,
  (hk _ (lt h0) (.inl (by omega))).trans h0, (hk _ (lt h1) (.inl (by omega))).trans h1, v, q, (hk _ (lt h2) (.inl (by omega))).trans h2, hl, Kd.R_step hV (fun k_ hk' hlt => hk k_ hlt (.inr hk'))⟩
theorem shard_cut.C_loop {A : World} {l : Nat} {r r' : Loop} {ad : Option Addr} {n : Nat} {xs : List Int} (h : Kd.C (Kd.int .u8) A ad n xs) (hl : A.heap[l]? = some (.loop r)) : Kd.C (Kd.int .u8) (A.putObj l (.loop r')) ad n xs := by
 have h1 := Kd.reads_of_C (d := (0 : Int)) h
 refine Kd.C_of_reads (d := (0 : Int)) ⟨h1.1, h1.2.1, fun hn => ?_⟩
 obtain ⟨b, hb, hc⟩ := h1.2.2 hn
 refine ⟨b, hb, fun i hi => ?_⟩
 have h2 := hc i hi
 have hne : (b.add i).block ≠ l := fun e => by
  simp only [World.cell?, e, hl] at h2
  simp at h2
 simp only [World.cell?] at h2 ⊢
 rw [World.putObj_heap_other hne]
 exact h2
attribute [local go_sem] Oper.semAt_some in
set_option maxHeartbeats 8000000 in
set_option maxRecDepth 100000 in
theorem shard_cut.calls (k : Nat) (A0 : Option Addr) (c0 : Nat) (l0 : List Int) (r1 : List Int) (r2 : Int) (w : World) (hr0 : Kd.C (Kd.int .u8) w A0 l0.length l0) (hc0 : l0.length ≤ c0) (h : shard_cut.f k l0 = some (r1, r2)) :
  Calls Try.prog 26 #[.slice A0 l0.length c0] w fun e w' => ∃ v0_ : Value, e = .returned (.tuple #[v0_, .int .i64 r2]) ∧ Kd.R (Kd.int .u8) 5 w' w.heap.size (fun _ => True) v0_ r1 ∧ Below w.heap.size w w' := by
 unfold shard_cut.f at h
 by_cases hl : l0.length ≤ 1000000
 ·rw [if_pos hl] at h
  obtain ⟨qq, hqq⟩ := shard_cut.l_pre k _ [] [] _ (by rw [List.append_nil]; exact h)
  rw [h] at hqq
  obtain ⟨rfl, rfl⟩ : r1 = qq ∧ r2 = 0 := by
   have h1 := Option.some.inj hqq
   exact ⟨congrArg Prod.fst h1, congrArg Prod.snd h1⟩
  clear hqq
  have HH := Aside0.mk h
  have HF0 := Aside0.mk (Kd.C_F (Kd.heap_int .u8) hr0)
  have HC0 := Aside0.mk hc0
  clear hr0 hc0 h
  refine (callsIn_wide (n := 10)).1 ?_
  refine callsIn_of_wp_marks Try.func26 rfl trivial ?_ rfl
  simp only [Try.ntmps26, List.size_toArray, List.length_cons, List.length_nil, Nat.reduceAdd, Nat.reduceSub, Array.replicate_succ, Array.replicate_zero, List.push_toArray, List.append_toArray, List.nil_append, List.cons_append]
  gi_wp2_with fail
  refine ⟨trivial, ?_⟩
  refine (callsIn_wide.2 (shard_cut.chunk A0 l0.length c0 _)).mono ?_
  rintro e w' ⟨rfl, rfl⟩
  gi_wp2_with fail
  simp only [World.size_alloc, Nat.add_assoc, Nat.reduceAdd]
  obtain ⟨w5, hw5⟩ : ∃ w5, (((((w.alloc (Obj.cells #[Value.slice none 0 0] 26)).alloc (Obj.cells #[Value.int .i64 0] 27)).alloc (Obj.cells #[Value.slice none 0 0] 26)).alloc (Obj.cells #[Value.slice A0 l0.length c0] 26)).alloc (Obj.cells #[Value.int .i64 1024] 3)) = w5 := ⟨_, rfl⟩
  rw [hw5]
  have hs5 : w5.heap.size = w.heap.size + 5 := by rw [← hw5]; simp
  have hb5 : Below w.heap.size w w5 := by rw [← hw5]; exact (((((Below.refl _ _).alloc (Nat.le_refl _) _).alloc (by simp) _).alloc (by simp <;> omega) _).alloc (by simp <;> omega) _).alloc (by simp <;> omega) _
  have h50 : w5.heap[w.heap.size]? = some (.cells #[.slice none 0 0] 26) := by
   rw [← hw5]
   exact (Below.heap_alloc _ _ _ (by simp <;> omega)).trans ((Below.heap_alloc _ _ _ (by simp <;> omega)).trans ((Below.heap_alloc _ _ _ (by simp <;> omega)).trans ((Below.heap_alloc _ _ _ (by simp)).trans (heap_alloc_new _ _))))
  have h51 : w5.heap[w.heap.size + 1]? = some (.cells #[.int .i64 0] 27) := by
   have h := heap_alloc_new (w.alloc (Obj.cells #[Value.slice none 0 0] 26)) (Obj.cells #[Value.int .i64 0] 27)
   rw [World.size_alloc] at h
   rw [← hw5]
   exact (Below.heap_alloc _ _ _ (by simp <;> omega)).trans ((Below.heap_alloc _ _ _ (by simp <;> omega)).trans ((Below.heap_alloc _ _ _ (by simp)).trans h))
  have h52 : w5.heap[w.heap.size + 2]? = some (.cells #[.slice none 0 0] 26) := by
   have h := heap_alloc_new ((w.alloc (Obj.cells #[Value.slice none 0 0] 26)).alloc (Obj.cells #[Value.int .i64 0] 27)) (Obj.cells #[Value.slice none 0 0] 26)
   rw [World.size_alloc, World.size_alloc] at h
   rw [← hw5]
   exact (Below.heap_alloc _ _ _ (by simp <;> omega)).trans ((Below.heap_alloc _ _ _ (by simp)).trans h)
  have h53 : w5.cell? ⟨w.heap.size + 3, 0, none⟩ = some (.slice A0 l0.length c0) := by
   have h := heap_alloc_new (((w.alloc (Obj.cells #[Value.slice none 0 0] 26)).alloc (Obj.cells #[Value.int .i64 0] 27)).alloc (Obj.cells #[Value.slice none 0 0] 26)) (Obj.cells #[Value.slice A0 l0.length c0] 26)
   rw [World.size_alloc, World.size_alloc, World.size_alloc] at h
   rw [← hw5]
   exact cell_of_row _ _ _ _ _ _ ((Below.heap_alloc _ _ _ (by simp)).trans h)
  have h54 : w5.cell? ⟨w.heap.size + 4, 0, none⟩ = some (.int .i64 1024) := by
   have h := heap_alloc_new ((((w.alloc (Obj.cells #[Value.slice none 0 0] 26)).alloc (Obj.cells #[Value.int .i64 0] 27)).alloc (Obj.cells #[Value.slice none 0 0] 26)).alloc (Obj.cells #[Value.slice A0 l0.length c0] 26)) (Obj.cells #[Value.int .i64 1024] 3)
   rw [World.size_alloc, World.size_alloc, World.size_alloc, World.size_alloc] at h
   rw [← hw5]
   exact cell_of_row _ _ _ _ _ _ h
  have hF5 := Kd.F_below HF0.out hb5
  clear hw5
  obtain ⟨K0, hK0⟩ : ∃ K0 : Nat → Prop, K0 = fun k => k < w.heap.size ∨ k = w.heap.size + 3 ∨ k = w.heap.size + 4 := ⟨_, rfl⟩
  have hW7 : ∀ r : Loop, ((w5.alloc (.deferred (some []))).alloc (.loop r)).heap.size = w.heap.size + 7 := fun r => by simp [hs5]
  have hb7 : ∀ r : Loop, Below w5.heap.size w5 ((w5.alloc (.deferred (some []))).alloc (.loop r)) := fun r => ((Below.refl _ _).alloc (Nat.le_refl _) _).alloc (by simp) _
  refine Hand.rangeC (w := w5) (gf := 53) (lb := #[.pointer (some ⟨w.heap.size + 3, 0, none⟩), .pointer (some ⟨w.heap.size + 4, 0, none⟩)]) (encs := fun x : Option Addr × List Int => #[.slice x.1 x.2.length x.2.length]) (G := fun x W => Kd.C (Kd.int .u8) W x.1 x.2.length x.2) (Stp := fun A B => ∃ q, B = A.drewN q) (Kp := KpK K0) (S := fun xs => xs.map (·.2) = chk 1024 (l0.length + 1) l0) (Sp := fun xs => xs.map (·.2) <+: chk 1024 (l0.length + 1) l0)
   rfl (by omega) rfl trivial (fun args w => Hand.run_enter Try.func53 (by kernel_rfl) rfl args w)
   (fun r => chunk1_seq Fence.wide 9 trivial rfl (by omega) _ (w.heap.size + 3) (w.heap.size + 4) A0 c0 l0 1024 (by decide) (by decide) K0 (((hb7 r).cell (World.block_lt_of_cell? _ _ h53)).trans h53) (((hb7 r).cell (World.block_lt_of_cell? _ _ h54)).trans h54) (by rw [hK0]; exact .inr (.inl rfl)) (by rw [hK0]; exact .inr (.inr rfl)) (Kd.F_mono (Kd.F_below hF5 (hb7 r)) (fun k hk => by rw [hK0]; exact .inl hk)) HC0.out hl)
   (fun _ => rfl) (shard_cut.Inv k w) (fun _ _ _ => False) ?hIs (fun _ _ _ _ h _ => h) ?hIp (fun _ _ _ _ _ h _ => h) (fun x A r r' h hl => shard_cut.C_loop h hl) ?hSk (fun h k => h.trans k) ?hKp ?h0
   (fun x a' A => Kd.C (Kd.int .u8) A x.1 x.2.length x.2 ∧ a' = { tmps := #[.slice A0 l0.length c0, undef, .pointer (some ⟨w.heap.size, 0, none⟩), .pointer (some ⟨w.heap.size + 1, 0, none⟩), .pointer (some ⟨w.heap.size + 2, 0, none⟩), .slice x.1 x.2.length x.2.length, undef, undef, .slice A0 l0.length c0, .func (.func 53) #[] #[.pointer (some ⟨w.heap.size + 3, 0, none⟩), .pointer (some ⟨w.heap.size + 4, 0, none⟩)], .slice x.1 x.2.length x.2.length, undef, undef, undef, undef, undef, undef, undef, undef, undef, undef, undef], defers := [] }) (fun x a' A r r' h hl => ⟨shard_cut.C_loop h.1 hl, h.2⟩) ?hassign ?hbody ?hdone (fun _ _ _ _ h _ => h.elim)
  case hIs => rintro s A B h ⟨q, rfl⟩; exact h.keep (Nat.le_refl _) (fun _ _ _ => rfl) rfl rfl rfl
  case hIp => intro s A r r' h hl; exact h.keep (by simp) (fun k hlt hk => World.putObj_heap_other (by omega)) rfl rfl rfl
  case hSk => rintro A B ⟨q, rfl⟩ _; exact ⟨rfl, rfl⟩
  case hKp =>
   intro A r r' hl
   refine ⟨by simp, fun k hk hlt => World.putObj_heap_other ?_⟩
   rw [hK0] at hk
   omega
  case h0 =>
   intro r
   have lt : ∀ {k : Nat} {o : Obj}, w5.heap[k]? = some o → k < w5.heap.size := fun h => (Array.getElem?_eq_some_iff.1 h).1
   exact ⟨hb5.trans ((hb7 r).mono (by omega)), ((hb7 r).block _ (lt h50)).trans h50, ((hb7 r).block _ (lt h51)).trans h51, _, [], ((hb7 r).block _ (lt h52)).trans h52, by unfold shard_cut.l; rfl, Kd.R_nil _ _ _ _ _⟩
  case hassign =>
   rintro lq pre x A K hlt hI hG hK
   gi_wp2_with fail
   exact hK _ _ ⟨rfl, rfl⟩ (KpK.refl _ _) hI ⟨hG, rfl⟩
  case hbody =>
   rintro lq pre x a' A hlt hI ⟨hCx, rfl⟩ hsp
   obtain ⟨hB, hb0, hb1, v, q, hb2, hlq, hV⟩ := hI
   obtain ⟨ys, hys⟩ := hsp
   have hall := HH.out
   rw [← hys] at hall
   obtain ⟨q2, hq2⟩ := shard_cut.l_pre k _ _ _ _ hall
   rw [List.map_append] at hq2
   have hq3 := hq2
   rw [show ([x].map (·.2) : List (List Int)) = [x.2] from rfl, shard_cut.l_append, hlq] at hq2
   simp only [Option.bind_some] at hq2
   obtain ⟨⟨p, pe⟩, hp, hq2⟩ := Option.bind_eq_some_iff.mp hq2
   by_cases hpe : pe = 0
   ·subst hpe
    rw [if_pos rfl] at hq2
    obtain rfl : p = q2 := congrArg Prod.fst (Option.some.inj hq2)
    obtain ⟨Av, cv, rfl⟩ := Kd.R_slice hV
    have o2 : A.cell? ⟨w.heap.size + 2, 0, none⟩ = some (.slice Av q.length cv) := cell_of_row _ _ _ _ _ _ hb2
    have HL := Aside0.mk hq3
    have HP := Aside0.mk hp
    have HV := Aside0.mk hV
    have HX := Aside0.mk (Kd.C_F (Kd.heap_int .u8) hCx)
    have HB0 := Aside0.mk hb0
    have HB1 := Aside0.mk hb1
    have HB2 := Aside0.mk hb2
    clear hq2 hq3 hp hV hCx hb0 hb1 hb2 hys hall hlq
    gi_wp2_with fail
    refine ⟨trivial, ?_⟩
    refine (callsIn_wide.2 (frame_Put.calls k (fun k_ => w.heap.size + 7 ≤ k_) Av cv q (fun k_ => k_ < A.heap.size) x.1 x.2.length x.2 p 0 _ (Kd.R_V HV.out) (Kd.V_mk (Nat.le_refl _) HX.out) HP.out)).mono ?_
    rintro e w1 ⟨v1, rfl, hR1, hB1⟩
    obtain ⟨A1, c1, rfl⟩ := Kd.R_slice hR1
    have hv2 := (hB1.block (w.heap.size + 2) (by omega)).trans HB2.out
    have o1 : w1.cell? ⟨w.heap.size + 2, 0, none⟩ = some (.slice Av q.length cv) := cell_of_row _ _ _ _ _ _ hv2
    have of1 : w1.frozen? ⟨w.heap.size + 2, 0, none⟩ = false := by simp [World.frozen?, hv2]
    have HR1 := Aside0.mk hR1
    have HV2 := Aside0.mk hv2
    have HBB := Aside0.mk hB1
    clear hR1 hv2 hB1
    gi_wp2_with fail
    have hsz1 := HBB.out.size
    have hkp : ∀ k, k < A.heap.size → k ≠ w.heap.size + 2 → (w1.setCell ⟨w.heap.size + 2, 0, none⟩ (.slice A1 p.length c1)).heap[k]? = A.heap[k]? := fun k hlt h1 =>
     (Below.heap_setCell w1 ⟨w.heap.size + 2, 0, none⟩ _ k h1).trans (HBB.out.block k hlt)
    have hBw := hB.trans (HBB.out.mono (by omega))
    have lt : ∀ {k : Nat} {o : Obj}, A.heap[k]? = some o → k < A.heap.size := fun h => (Array.getElem?_eq_some_iff.1 h).1
    refine ⟨⟨hkp _ (by omega) (by omega), hkp _ hlt (by omega)⟩, ⟨by simpa using hsz1, fun k hk hlt => ?_⟩, ⟨hBw.os, hBw.tape, hBw.output, by simpa using hBw.size, fun k hk => (Below.heap_setCell w1 ⟨w.heap.size + 2, 0, none⟩ _ k (by show k ≠ w.heap.size + 2; omega)).trans (hBw.block k hk)⟩, ?_, ?_, _, p, heap_setCell_same _ _ _ _ _ _ HV2.out, ?_, ?_⟩
    ·rw [hK0] at hk
     exact hkp k hlt (by omega)
    ·exact (hkp _ (lt HB0.out) (by omega)).trans HB0.out
    ·exact (hkp _ (lt HB1.out) (by omega)).trans HB1.out
    ·rw [List.map_append]; exact HL.out
    ·exact Kd.R_far (Kd.R_mono (Kd.R_lower HR1.out (by omega)) (fun k hk => by omega)) (fun k hk => by show k ≠ w.heap.size + 2; omega) _
   ·rw [if_neg hpe] at hq2
    exact absurd hq2 (by simp)
  case hdone =>
   rintro xs A hS ⟨hB, hb0, hb1, v, q, hb2, hlq, hV⟩ hK
   rw [hS, HH.out] at hlq
   obtain rfl : r1 = q := congrArg Prod.fst (Option.some.inj hlq)
   obtain ⟨Av, cv, rfl⟩ := Kd.R_slice hV
   have o0 : A.cell? ⟨w.heap.size + 2, 0, none⟩ = some (.slice Av r1.length cv) := cell_of_row _ _ _ _ _ _ hb2
   have o1 : A.cell? ⟨w.heap.size, 0, none⟩ = some (.slice none 0 0) := cell_of_row _ _ _ _ _ _ hb0
   have o2 : A.cell? ⟨w.heap.size + 1, 0, none⟩ = some (.int .i64 0) := cell_of_row _ _ _ _ _ _ hb1
   have of1 : A.frozen? ⟨w.heap.size, 0, none⟩ = false := by simp [World.frozen?, hb0]
   have of2 : A.frozen? ⟨w.heap.size + 1, 0, none⟩ = false := by simp [World.frozen?, hb1]
   have HVV := Aside0.mk hV
   have HBB := Aside0.mk hB
   have HKK := Aside0.mk hK
   clear hV hB hS hlq
   gi_wp2_with fail
   obtain ⟨B, hBe⟩ : ∃ B, ((A.setCell ⟨w.heap.size, 0, none⟩ (.slice Av r1.length cv)).setCell ⟨w.heap.size + 1, 0, none⟩ (.int .i64 0)) = B := ⟨_, rfl⟩
   rw [hBe]
   have hoth : ∀ k, k ≠ w.heap.size → k ≠ w.heap.size + 1 → B.heap[k]? = A.heap[k]? := fun k h1 h2 => by
    rw [← hBe]
    exact (Below.heap_setCell _ _ _ k h2).trans (Below.heap_setCell _ _ _ k h1)
   have g1 : B.heap[w.heap.size]? = some (.cells #[.slice Av r1.length cv] 26) := by
    rw [← hBe]
    exact (Below.heap_setCell _ ⟨w.heap.size + 1, 0, none⟩ _ _ (by show w.heap.size ≠ w.heap.size + 1; omega)).trans (heap_setCell_same _ _ _ _ _ _ hb0)
   have g2 : B.heap[w.heap.size + 1]? = some (.cells #[.int .i64 0] 27) := by
    rw [← hBe]
    exact heap_setCell_same _ _ _ _ _ _ ((Below.heap_setCell _ ⟨w.heap.size, 0, none⟩ _ _ (by show w.heap.size + 1 ≠ w.heap.size; omega)).trans hb1)
   have hrest : B.os = A.os ∧ B.tape = A.tape ∧ B.output = A.output ∧ B.heap.size = A.heap.size := by
    rw [← hBe]
    exact ⟨rfl, rfl, rfl, by simp⟩
   have hKB := (hoth w5.heap.size (by omega) (by omega)).trans HKK.out
   refine ⟨by simp, .inl ⟨_, _, rfl, run_takeDeferred hKB, ?_⟩⟩
   obtain ⟨C, hCe⟩ : ∃ C, B.putObj w5.heap.size (.deferred none) = C := ⟨_, rfl⟩
   rw [hCe]
   have hc : ∀ k, k ≠ w5.heap.size → C.heap[k]? = B.heap[k]? := fun k hk => by rw [← hCe]; exact World.putObj_heap_other hk
   have c1 : C.cell? ⟨w.heap.size, 0, none⟩ = some (.slice Av r1.length cv) := cell_of_row _ _ _ _ _ _ ((hc _ (by omega)).trans g1)
   have c2 : C.cell? ⟨w.heap.size + 1, 0, none⟩ = some (.int .i64 0) := cell_of_row _ _ _ _ _ _ ((hc _ (by omega)).trans g2)
   have hCB : C.os = B.os ∧ C.tape = B.tape ∧ C.output = B.output ∧ C.heap.size = B.heap.size := by rw [← hCe]; exact ⟨rfl, rfl, rfl, by simp⟩
   refine ⟨.tuple #[.slice Av r1.length cv, .int .i64 0], ?_, _, rfl, ?_, ?_⟩
   ·simp [results, Try.f26, go_sem, c1, c2]
   ·refine Kd.R_mono (Kd.R_lower (Kd.R_step HVV.out (fun k hk hlt => ?_)) (by omega)) (fun k hk => trivial)
    exact (hc k (by omega)).trans (hoth k (by omega) (by omega))
   ·exact ⟨hCB.1.trans (hrest.1.trans HBB.out.os), hCB.2.1.trans (hrest.2.1.trans HBB.out.tape), hCB.2.2.1.trans (hrest.2.2.1.trans HBB.out.output), by rw [hCB.2.2.2, hrest.2.2.2]; exact HBB.out.size, fun k hk => (hc k (by omega)).trans ((hoth k (by omega) (by omega)).trans (HBB.out.block k hk))⟩
 ·rw [if_neg hl] at h
  exact absurd h (by simp)

/-! ### shard_Build: function 12 -/
mutual
def shard_Build.j0 : Nat → Int → List (List Int) → Bool → Option (List Int × Int)
 | 0, _, _, _ => none
 | k + 1, x0, x1, x19 => if x19 = true then (some (([] : List Int), 1)) else ((vary_Put.f k ([] : List Int) (IntKind.u64.wrap (x0))).bind fun t160 => ((vary_Put.f k t160 (IntKind.u64.wrap ((x1.length : Int)))).bind fun t163 => (shard_Build.l0 k x0 t163 x1 (x1.length : Int) 0)))
def shard_Build.l0 : Nat → Int → List Int → List (List Int) → Int → Int → Option (List Int × Int)
 | 0, _, _, _, _, _ => none
 | k + 1, x0, x6, x27, x28, x29 => if x29 < x28 then (if 0 ≤ x29 then (if x29 < (x27.length : Int) then ((gaps_Put.f k ((wrap64 (x0 + x29)) % 4294967296) (rd_L3 x27 x29)).bind fun bt171 => (if bt171.2 = 0 then ((vary_Put.f k x6 (IntKind.u64.wrap ((bt171.1.length : Int)))).bind fun t175 => (if t175.length + bt171.1.length < 140737488355328 then (shard_Build.l0 k x0 (t175 ++ bt171.1) x27 x28 (wrap64 (x29 + 1))) else (none))) else (some (([] : List Int), 1)))) else (none)) else (none)) else ((shard_cut.f k x6).bind fun bt166 => (some (bt166.1, bt166.2)))
end
def shard_Build.f (k : Nat) (a0 : Int) (l1 : List (List Int)) : Option (List Int × Int) := if a0 < 0 then (shard_Build.j0 k a0 l1 true) else (shard_Build.j0 k a0 l1 (decide (a0 > (wrap64 (4294967296 - (l1.length : Int))))))
theorem shard_Build.mono_l : ∀ k, (∀ y0 y1 y2, LeO (shard_Build.j0 k y0 y1 y2) (shard_Build.j0 (k + 1) y0 y1 y2)) ∧ (∀ y0 y1 y2 y3 y4, LeO (shard_Build.l0 k y0 y1 y2 y3 y4) (shard_Build.l0 (k + 1) y0 y1 y2 y3 y4))
 | 0 => ⟨fun _ _ _ r h => by simp [shard_Build.j0] at h, fun _ _ _ _ _ r h => by simp [shard_Build.l0] at h⟩
 | k + 1 => by
  obtain ⟨ih0, ih1⟩ := shard_Build.mono_l k
  refine ⟨?_, ?_⟩
  ·intro y0 y1 y2
   unfold shard_Build.j0
   repeat' first
   | (with_reducible exact ih0 _ _ _)
   | (with_reducible exact ih1 _ _ _ _ _)
   | (with_reducible exact gaps_Put.mono _ _ _)
   | (with_reducible exact shard_cut.mono _ _)
   | (with_reducible exact vary_Put.mono _ _ _)
   | (with_reducible exact LeO.refl _)
   | (with_reducible exact LeO.none _)
   | (with_reducible refine LeO.ite ?_ ?_)
   | (with_reducible refine LeO.bind ?_ (fun _ => ?_))
   | exact ih0 _ _ _
   | exact ih1 _ _ _ _ _
   | exact gaps_Put.mono _ _ _
   | exact shard_cut.mono _ _
   | exact vary_Put.mono _ _ _
   | exact LeO.none _
   | refine LeO.ite ?_ ?_
   | refine LeO.bind ?_ (fun _ => ?_)
  ·intro y0 y1 y2 y3 y4
   unfold shard_Build.l0
   repeat' first
   | (with_reducible exact ih0 _ _ _)
   | (with_reducible exact ih1 _ _ _ _ _)
   | (with_reducible exact gaps_Put.mono _ _ _)
   | (with_reducible exact shard_cut.mono _ _)
   | (with_reducible exact vary_Put.mono _ _ _)
   | (with_reducible exact LeO.refl _)
   | (with_reducible exact LeO.none _)
   | (with_reducible refine LeO.ite ?_ ?_)
   | (with_reducible refine LeO.bind ?_ (fun _ => ?_))
   | exact ih0 _ _ _
   | exact ih1 _ _ _ _ _
   | exact gaps_Put.mono _ _ _
   | exact shard_cut.mono _ _
   | exact vary_Put.mono _ _ _
   | exact LeO.none _
   | refine LeO.ite ?_ ?_
   | refine LeO.bind ?_ (fun _ => ?_)
theorem shard_Build.mono : ∀ a0 a1 k, LeO (shard_Build.f k a0 a1) (shard_Build.f (k + 1) a0 a1) := by
 intro a0 a1 k
 obtain ⟨ih0, ih1⟩ := shard_Build.mono_l k
 unfold shard_Build.f
 repeat' first
   | (with_reducible exact ih0 _ _ _)
   | (with_reducible exact ih1 _ _ _ _ _)
   | (with_reducible exact gaps_Put.mono _ _ _)
   | (with_reducible exact shard_cut.mono _ _)
   | (with_reducible exact vary_Put.mono _ _ _)
   | (with_reducible exact LeO.refl _)
   | (with_reducible exact LeO.none _)
   | (with_reducible refine LeO.ite ?_ ?_)
   | (with_reducible refine LeO.bind ?_ (fun _ => ?_))
   | exact ih0 _ _ _
   | exact ih1 _ _ _ _ _
   | exact gaps_Put.mono _ _ _
   | exact shard_cut.mono _ _
   | exact vary_Put.mono _ _ _
   | exact LeO.none _
   | refine LeO.ite ?_ ?_
   | refine LeO.bind ?_ (fun _ => ?_)
set_option maxHeartbeats 8000000 in
set_option maxRecDepth 100000 in
theorem shard_Build.calls (k : Nat) (a0 : Int) (A1 : Option Addr) (c1 : Nat) (l1 : List (List Int)) (r1 : List Int) (r2 : Int) (w : World) (hr1 : Kd.C (Kd.slice 31 (Kd.int .u32)) w A1 l1.length l1) (hc1 : l1.length ≤ c1) (h : shard_Build.f k a0 l1 = some (r1, r2)) :
  Calls Try.prog 12 #[.int .i64 a0, .slice A1 l1.length c1] w fun e w' => ∃ v0_ : Value, e = .returned (.tuple #[v0_, .int .i64 r2]) ∧ Kd.R (Kd.int .u8) 5 w' w.heap.size (fun _ => True) v0_ r1 ∧ Below w.heap.size w w' := by
 have HR1 := Aside0.mk hr1
 have HC1 := Aside0.mk hc1
 clear hr1 hc1
 have HB := Aside0.mk (Below.refl w.heap.size w)
 have H : (if a0 < 0 then (shard_Build.j0 k a0 l1 true) else (shard_Build.j0 k a0 l1 (decide (a0 > (wrap64 (4294967296 - (l1.length : Int))))))) = some (r1, r2) := h
 clear h
 have HC3 := Aside0.mk H
 clear H
 go_enter Try.func12, Try.ntmps12
 go_upto_region 1 with (fail)
 go_cut [19] (fun v19 wc => ∃ (kq : Nat) (x19_2 : Bool), v19 = .bool x19_2 ∧ Aside0 (shard_Build.j0 kq a0 l1 x19_2 = some (r1, r2)) ∧ Aside0 (kq ≤ k) ∧ Aside0 (Below w.heap.size w wc))
 case first =>
  have H := HC3.out
  clear HC3
  by_cases c4 : a0 < 0
  ·rw [if_pos c4] at H
   have c4b0 : decide (a0 < 0) = true := decide_eq_true c4
   clear c4
   (first | rw [c4b0] | (simp only [i64_w, i32_w]; rw [c4b0]) | skip)
   have H' := Aside0.mk H
   clear H
   go_wp2
   go_meet
   case rel => exact ⟨_, (true), (by first | rfl | (simp; done) | (simp [*]; done)), H', ⟨by first | omega | exact Nat.le_refl _⟩, ⟨by repeat (first | (with_reducible first | exact HB.out | apply below_alloc | apply pw_below_drewN | apply below_drew1) | exact HB.out)⟩⟩
  ·rw [if_neg c4] at H
   have c4b0 : decide (a0 < 0) = false := decide_eq_false c4
   clear c4
   (first | rw [c4b0] | (simp only [i64_w, i32_w]; rw [c4b0]) | skip)
   have H' := Aside0.mk H
   clear H
   go_wp2
   go_meet
   case rel => exact ⟨_, (decide (a0 > (wrap64 (4294967296 - (l1.length : Int))))), (by first | rfl | (simp; done) | (simp [*]; done)), H', ⟨by first | omega | exact Nat.le_refl _⟩, ⟨by repeat (first | (with_reducible first | exact HB.out | apply below_alloc | apply pw_below_drewN | apply below_drew1) | exact HB.out)⟩⟩
 case rest =>
  clear HC3
  try clear c1
  try clear p2
  try clear c4
  try clear c4b0
  obtain ⟨kq, x19_2, rfl, HA, HJ2, HB⟩ := hcut
  cases kq with
  | zero => exact absurd HA.out (by simp [shard_Build.j0])
  | succ kj2 =>
   have H := HA.out
   clear HA
   simp only [shard_Build.j0] at H
   by_cases c5 : x19_2 = true
   ·subst c5
    have H1 : (some (([] : List Int), 1)) = some (r1, r2) := by rw [if_pos rfl] at H; exact H
    clear H
    have H := H1
    clear H1
    simp only [Option.some.injEq, Prod.mk.injEq] at H
    obtain ⟨rfl, rfl⟩ := H
    go_wp2
    go_ret2
    exact ⟨_, by first | rfl | (simp [errW_none, errW_some] <;> rfl) | (simp [*, errW_none, errW_some] <;> rfl), by first | exact Kd.R_nil _ _ _ _ _ | exact Kd.N_nil _ _ _ _ _ | exact Kd.V_nil _ _ _ _ _ | exact Kd.Q_nil _ _ _ _ _ | exact Kd.S_nil _ _ _ _ _, by repeat (first | (with_reducible first | exact HB.out | apply below_alloc | apply pw_below_drewN | apply below_drew1) | exact HB.out)⟩
   ·replace c5 := Bool.eq_false_iff.mpr c5
    subst c5
    have H1 : ((vary_Put.f kj2 ([] : List Int) (IntKind.u64.wrap (a0))).bind fun t160 => ((vary_Put.f kj2 t160 (IntKind.u64.wrap ((l1.length : Int)))).bind fun t163 => (shard_Build.l0 kj2 a0 t163 l1 (l1.length : Int) 0))) = some (r1, r2) := by rw [if_neg (show ¬ (false = true) by decide)] at H; exact H
    clear H
    have H := H1
    clear H1
    replace H := Option.bind_eq_some_iff.mp H
    obtain ⟨t160, A60, H⟩ := H
    replace H : ((vary_Put.f kj2 t160 (IntKind.u64.wrap ((l1.length : Int)))).bind fun t163 => (shard_Build.l0 kj2 a0 t163 l1 (l1.length : Int) 0)) = some (r1, r2) := H
    have A6 := Aside0.mk A60
    clear A60
    replace H := Option.bind_eq_some_iff.mp H
    obtain ⟨t163, A70, H⟩ := H
    replace H : (shard_Build.l0 kj2 a0 t163 l1 (l1.length : Int) 0) = some (r1, r2) := H
    have A7 := Aside0.mk A70
    clear A70
    have H' := Aside0.mk H
    clear H
    go_wp2_with (first | ((with_reducible refine gate_callee (f := 24) rfl ?_); refine goesL_ (some 22) rfl rfl Try.func24 (by kernel_rfl) rfl #[.slice none 0 0, .int .u64 (IntKind.u64.wrap (a0))] rfl (by (try simp only [List.map_toArray, List.map_cons, List.map_nil]); first | done | rfl | (simp only [List.length_drop, List.length_take]; rfl)) ?_; (refine (vary_Put.calls kj2 _ _ ([] : List Int) (IntKind.u64.wrap (a0)) t160 _ ?side1 ?side2 A6.out).mono ?_); (case side1 => exact Kd.C_nil _ _); (case side2 => exact Nat.le_refl _); rintro e w8 ⟨v161, rfl, ho0, hb⟩; refine ⟨_, rfl, ?_⟩; have n0_ := Aside0.mk (Kd.R_lower ho0 (below_size (by repeat (first | (with_reducible first | exact HB.out | apply below_alloc | apply pw_below_drewN | apply below_drew1) | exact HB.out)))); have n1_ := Aside0.mk (below_step (by repeat (first | (with_reducible first | exact HB.out | apply below_alloc | apply pw_below_drewN | apply below_drew1) | exact HB.out)) hb); clear HB; have HO162 := n0_; have HB := n1_; clear n0_ n1_; (try clear hb); (try clear hb2); (try clear hk); (try clear hi); (try clear ho0); obtain ⟨Ao9, co9, eo9⟩ := Kd.R_slice HO162.out; subst eo9) | ((with_reducible refine gate_callee (f := 24) rfl ?_); refine goesL_ (some 26) rfl rfl Try.func24 (by kernel_rfl) rfl #[.slice Ao9 t160.length co9, .int .u64 (IntKind.u64.wrap ((l1.length : Int)))] rfl (by (try simp only [List.map_toArray, List.map_cons, List.map_nil]); first | done | rfl | (simp only [List.length_drop, List.length_take]; rfl)) ?_; (with_reducible refine (vary_Put.calls kj2 _ _ t160 (IntKind.u64.wrap ((l1.length : Int))) t163 _ ?side1 ?side2 A7.out).mono ?_); (case side1 => repeat (first | exact (Kd.R_reads' HO162.out).2.2 | (with_reducible refine Kd.C_alloc ?_ _) | (with_reducible refine Kd.C_drewN ?_ _) | (with_reducible refine Kd.C_drew ?_))); (case side2 => exact (Kd.R_reads' HO162.out).2.1); rintro e w10 ⟨v164, rfl, ho0, hb⟩; refine ⟨_, rfl, ?_⟩; have n0_ := Aside0.mk (Kd.R_elder' (by (with_reducible repeat (first | apply Kd.R_alloc | apply Kd.R_drewN | apply Kd.R_drew)); exact HO162.out) (Kd.R_base ho0) hb); have n1_ := Aside0.mk (Kd.R_lower (Kd.R_new' ho0 (Kd.R_lt (by (with_reducible repeat (first | apply Kd.R_alloc | apply Kd.R_drewN | apply Kd.R_drew)); exact HO162.out))) (below_size (by repeat (first | (with_reducible first | exact HB.out | apply below_alloc | apply pw_below_drewN | apply below_drew1) | exact HB.out)))); have n2_ := Aside0.mk (below_step (by repeat (first | (with_reducible first | exact HB.out | apply below_alloc | apply pw_below_drewN | apply below_drew1) | exact HB.out)) hb); clear HO162; clear HB; have HO162 := n0_; have HO165 := n1_; have HB := n2_; clear n0_ n1_ n2_; (try clear hb); (try clear hb2); (try clear hk); (try clear hi); (try clear ho0)))
    go_loopg [6, 29] kj2 (fun kq v6 v29 w' => ∃ (x6_2 : List Int) (x29_2 : Int), v29 = .int .i64 x29_2 ∧ Aside0 (shard_Build.l0 kq a0 x6_2 l1 (l1.length : Int) x29_2 = some (r1, r2)) ∧ Aside0 (kq ≤ kj2) ∧ Aside0 (Kd.R (Kd.int .u8) 5 w' w.heap.size (fun _ => True) v6 x6_2) ∧ Aside0 (Below w.heap.size w w'))
    case atStart => exact ⟨(t163), (0), (by first | rfl | (simp; done) | (simp [*]; done)), H', ⟨Nat.le_refl _⟩, ⟨by (with_reducible repeat (first | apply Kd.R_alloc | apply Kd.R_drewN | apply Kd.R_drew)); exact Kd.R_mono HO165.out (fun _ hk => trivial)⟩, ⟨by repeat (first | (with_reducible first | exact HB.out | apply below_alloc | apply pw_below_drewN | apply below_drew1) | exact HB.out)⟩⟩
    case round =>
     clear H'
     try clear c1
     try clear c2
     try clear p2
     try clear c4
     try clear c4b0
     try clear c5
     try clear p6
     try clear p2
     obtain ⟨x6_2, x29_2, rfl, HA, HK2, HO_6, HB⟩ := hrel
     cases gk with
     | zero => exact absurd HA.out (by simp [shard_Build.l0])
     | succ k2 =>
      have H := HA.out
      clear HA
      simp only [shard_Build.l0] at H
      by_cases c11 : x29_2 < (l1.length : Int)
      ·rw [if_pos c11] at H
       have c11b0 : decide (x29_2 < (l1.length : Int)) = true := decide_eq_true c11
       clear c11
       by_cases c12 : 0 ≤ x29_2
       ·rw [if_pos c12] at H
        have c12b0 : decide (0 ≤ x29_2) = true := decide_eq_true c12
        clear c12
        by_cases c13 : x29_2 < (l1.length : Int)
        ·rw [if_pos c13] at H
         have c13b0 : decide (x29_2 < (l1.length : Int)) = true := decide_eq_true c13
         clear c13
         replace H := Option.bind_eq_some_iff.mp H
         obtain ⟨⟨t171, t172⟩, A140, H⟩ := H
         replace H : (if t172 = 0 then ((vary_Put.f k2 x6_2 (IntKind.u64.wrap ((t171.length : Int)))).bind fun t175 => (if t175.length + t171.length < 140737488355328 then (shard_Build.l0 k2 a0 (t175 ++ t171) l1 (l1.length : Int) (wrap64 (x29_2 + 1))) else (none))) else (some (([] : List Int), 1))) = some (r1, r2) := H
         have A14 := Aside0.mk A140
         clear A140
         by_cases c15 : t172 = 0
         ·rw [if_pos c15] at H
          have c15b0 : (t172 == 0) = true := beq_iff_eq.mpr c15
          have c15b1 : (t172 != 0) = false := bne_eq_false_iff_eq.mpr c15
          clear c15
          replace H := Option.bind_eq_some_iff.mp H
          obtain ⟨t175, A160, H⟩ := H
          replace H : (if t175.length + t171.length < 140737488355328 then (shard_Build.l0 k2 a0 (t175 ++ t171) l1 (l1.length : Int) (wrap64 (x29_2 + 1))) else (none)) = some (r1, r2) := H
          have A16 := Aside0.mk A160
          clear A160
          by_cases c17 : t175.length + t171.length < 140737488355328
          ·rw [if_pos c17] at H
           have LMc17 := Aside0.mk c17
           clear c17
           obtain ⟨y178, hy178⟩ : ∃ y_ : List Int, y_ = (t175 ++ t171) := ⟨_, rfl⟩
           replace H : (shard_Build.l0 k2 a0 y178 l1 (l1.length : Int) (wrap64 (x29_2 + 1))) = some (r1, r2) := by first | (rw [hy178]; with_reducible exact H) | (have H2_ := (Option.bind_some _ _).symm.trans H; rw [hy178]; with_reducible exact H2_) | (have H2_ := (Option.bind_some _ _).symm.trans H; with_reducible exact H2_) | with_reducible exact H | (rw [hy178]; exact H) | exact H
           have Ny178 := Aside0.mk hy178
           clear hy178
           have H' := Aside0.mk H
           clear H
           have p170 : 0 ≤ (x29_2 : Int) := of_decide_eq_true (by first | (with_reducible assumption) | assumption)
           have q170 : x29_2 < (l1.length : Int) := of_decide_eq_true (by first | (with_reducible assumption) | assumption)
           obtain ⟨ad170, A170_0, c170_0, e170, hx170_0, hl170_0, hi170_0⟩ := at_L3 HR1.out x29_2 p170 q170
           cases e170
           try replace hx170_0 := (HB.out.cell (World.block_lt_of_cell? w _ hx170_0)).trans hx170_0
           have HR170_0 := Aside0.mk hi170_0
           have HC170_0 := Aside0.mk hl170_0
           clear hi170_0 hl170_0
           replace p170 := eq_true p170
           replace q170 := eq_true q170
           go_wp2_with (first | ((with_reducible refine gate_callee (f := 25) rfl ?_); refine goesL_ (some 40) rfl rfl Try.func25 (by kernel_rfl) rfl #[.int .u32 ((wrap64 (a0 + x29_2)) % 4294967296), .slice A170_0 (rd_L3 l1 x29_2).length c170_0] rfl (by (try simp only [List.map_toArray, List.map_cons, List.map_nil]); first | done | rfl | (simp only [List.length_drop, List.length_take]; rfl)) ?_; (with_reducible refine (gaps_Put.calls k2 ((wrap64 (a0 + x29_2)) % 4294967296) _ _ (rd_L3 l1 x29_2) t171 t172 _ ?side1 ?side2 A14.out).mono ?_); (case side1 => repeat (first | exact (Kd.C_below HR170_0.out HB.out) | (with_reducible refine Kd.C_alloc ?_ _) | (with_reducible refine Kd.C_drewN ?_ _) | (with_reducible refine Kd.C_drew ?_))); (case side2 => exact HC170_0.out); rintro e w18 ⟨v173, rfl, ho0, hb⟩; refine ⟨_, rfl, ?_⟩; have n0_ := Aside0.mk (Kd.R_elder' (by (with_reducible repeat (first | apply Kd.R_alloc | apply Kd.R_drewN | apply Kd.R_drew)); exact HO_6.out) (Kd.R_base ho0) hb); have n1_ := Aside0.mk (Kd.R_lower (Kd.R_new' ho0 (Kd.R_lt (by (with_reducible repeat (first | apply Kd.R_alloc | apply Kd.R_drewN | apply Kd.R_drew)); exact HO_6.out))) (below_size (by repeat (first | (with_reducible first | exact HB.out | apply below_alloc | apply pw_below_drewN | apply below_drew1) | exact HB.out)))); have n2_ := Aside0.mk (below_step (by repeat (first | (with_reducible first | exact HB.out | apply below_alloc | apply pw_below_drewN | apply below_drew1) | exact HB.out)) hb); clear HO_6; clear HB; have HO_6 := n0_; have HO174 := n1_; have HB := n2_; clear n0_ n1_ n2_; (try clear hb); (try clear hb2); (try clear hk); (try clear hi); (try clear ho0); obtain ⟨Ao19, co19, eo19⟩ := Kd.R_slice HO174.out; subst eo19; obtain ⟨Ao20, co20, eo20⟩ := Kd.R_slice HO_6.out; subst eo20) | ((with_reducible refine gate_callee (f := 24) rfl ?_); refine goesL_ (some 49) rfl rfl Try.func24 (by kernel_rfl) rfl #[.slice Ao20 x6_2.length co20, .int .u64 (IntKind.u64.wrap ((t171.length : Int)))] rfl (by (try simp only [List.map_toArray, List.map_cons, List.map_nil]); first | done | rfl | (simp only [List.length_drop, List.length_take]; rfl)) ?_; (with_reducible refine (vary_Put.calls k2 _ _ x6_2 (IntKind.u64.wrap ((t171.length : Int))) t175 _ ?side1 ?side2 A16.out).mono ?_); (case side1 => repeat (first | exact (Kd.R_reads' HO_6.out).2.2 | (with_reducible refine Kd.C_alloc ?_ _) | (with_reducible refine Kd.C_drewN ?_ _) | (with_reducible refine Kd.C_drew ?_))); (case side2 => exact (Kd.R_reads' HO_6.out).2.1); rintro e w21 ⟨v176, rfl, ho0, hb⟩; refine ⟨_, rfl, ?_⟩; have n0_ := Aside0.mk (Kd.R_elder' (by (with_reducible repeat (first | apply Kd.R_alloc | apply Kd.R_drewN | apply Kd.R_drew)); exact HO_6.out) (Kd.R_base ho0) hb); have n1_ := Aside0.mk (Kd.R_elder' (by (with_reducible repeat (first | apply Kd.R_alloc | apply Kd.R_drewN | apply Kd.R_drew)); exact HO174.out) (Kd.R_base ho0) hb); have n2_ := Aside0.mk (Kd.R_lower (Kd.R_new' (Kd.R_new' ho0 (Kd.R_lt (by (with_reducible repeat (first | apply Kd.R_alloc | apply Kd.R_drewN | apply Kd.R_drew)); exact HO_6.out))) (Kd.R_lt (by (with_reducible repeat (first | apply Kd.R_alloc | apply Kd.R_drewN | apply Kd.R_drew)); exact HO174.out))) (below_size (by repeat (first | (with_reducible first | exact HB.out | apply below_alloc | apply pw_below_drewN | apply below_drew1) | exact HB.out)))); have n3_ := Aside0.mk (below_step (by repeat (first | (with_reducible first | exact HB.out | apply below_alloc | apply pw_below_drewN | apply below_drew1) | exact HB.out)) hb); clear HO_6; clear HO174; clear HB; have HO_6 := n0_; have HO174 := n1_; have HO177 := n2_; have HB := n3_; clear n0_ n1_ n2_ n3_; (try clear hb); (try clear hb2); (try clear hk); (try clear hi); (try clear ho0)) | ((with_reducible refine gate_builtin (b := .append) (xs := #[.tmp 49, .tmp 50]) rfl ?_); (try (refine gate_guard (by rfl) ?_; dsimp only)); at_builtin; refine Kd.R_append_rows (Kd.int .u8) (w0 := w) w.heap.size rfl (.tmp 49) (.tmp 50) 26 5 (.int .u8 0) 1 rfl Try.underlying26 info5 rfl (by decide) (by omega) v176 t175 t171 _ _ _ (fun k_ => some k_ ≠ (.slice Ao20 x6_2.length co20 : Value).ownBlock ∧ some k_ ≠ (.slice Ao19 t171.length co19 : Value).ownBlock) (fun _ => False) rfl rfl ?aO ?aR (fun _ _ h => h) (fun _ h => h.elim) ?aF ?aB ?aS ?aL ?_; (case aR => repeat (first | exact (Kd.R_reads' HO174.out).2.2 | (with_reducible refine Kd.C_alloc ?_ _) | (with_reducible refine Kd.C_drewN ?_ _) | (with_reducible refine Kd.C_drew ?_))); (case aB => exact (by repeat (first | (with_reducible first | exact HB.out | apply below_alloc | apply pw_below_drewN | apply below_drew1) | exact HB.out))); (case aF => exact (fun k_ hk => ⟨Kd.fresh' (Kd.R_lt (by (with_reducible repeat (first | apply Kd.R_alloc | apply Kd.R_drewN | apply Kd.R_drew)); exact HO_6.out)) k_ hk, Kd.fresh' (Kd.R_lt (by (with_reducible repeat (first | apply Kd.R_alloc | apply Kd.R_drewN | apply Kd.R_drew)); exact HO174.out)) k_ hk⟩)); (case aO => exact (by (with_reducible repeat (first | apply Kd.R_alloc | apply Kd.R_drewN | apply Kd.R_drew)); exact Kd.R_mono HO177.out (fun _ hk => ⟨hk.1.2, hk.2⟩))); (case aS => exact (below_size (by repeat (first | (with_reducible first | exact HB.out | apply below_alloc | apply pw_below_drewN | apply below_drew1) | exact HB.out)))); (case aL => have := LMc17.out; omega); intro v179 w22 ho hb hg hat; rw [← Ny178.out] at ho; have n0_ := Aside0.mk (Kd.R_after (ok := (fun k_ => some k_ ≠ (.slice Ao19 t171.length co19 : Value).ownBlock)) (by (with_reducible repeat (first | apply Kd.R_alloc | apply Kd.R_drewN | apply Kd.R_drew)); exact Kd.R_mono HO_6.out (fun _ hk => ⟨hk.1.2, hk.2⟩)) hg hat); have n1_ := Aside0.mk (Kd.R_after (ok := (fun k_ => some k_ ≠ (.slice Ao20 x6_2.length co20 : Value).ownBlock)) (by (with_reducible repeat (first | apply Kd.R_alloc | apply Kd.R_drewN | apply Kd.R_drew)); exact Kd.R_mono HO174.out (fun _ hk => ⟨hk.1.2, hk.2⟩)) hg hat); have n2_ := Aside0.mk (hb); have n3_ := Aside0.mk (ho); clear HO_6; clear HO174; clear HB; clear HO177; have HO_6 := n0_; have HO174 := n1_; have HB := n2_; have HO180 := n3_; clear n0_ n1_ n2_ n3_; clear ho hb hg hat))
           go_roundg k2
           case measure => have := HJ2.out; have := HK2.out; omega
           case rel => exact ⟨(y178), (wrap64 (x29_2 + 1)), (by first | rfl | (simp; done) | (simp [*]; done)), H', ⟨by have := HJ2.out; have := HK2.out; omega⟩, ⟨by (with_reducible repeat (first | apply Kd.R_alloc | apply Kd.R_drewN | apply Kd.R_drew)); exact Kd.R_mono HO180.out (fun _ hk => trivial)⟩, ⟨by repeat (first | (with_reducible first | exact HB.out | apply below_alloc | apply pw_below_drewN | apply below_drew1) | exact HB.out)⟩⟩
          ·rw [if_neg c17] at H
           exact absurd H (by simp)
         ·rw [if_neg c15] at H
          have c15b0 : (t172 == 0) = false := beq_eq_false_iff_ne.mpr c15
          have c15b1 : (t172 != 0) = true := bne_iff_ne.mpr c15
          simp only [Option.some.injEq, Prod.mk.injEq] at H
          obtain ⟨rfl, rfl⟩ := H
          have p170 : 0 ≤ (x29_2 : Int) := of_decide_eq_true (by first | (with_reducible assumption) | assumption)
          have q170 : x29_2 < (l1.length : Int) := of_decide_eq_true (by first | (with_reducible assumption) | assumption)
          obtain ⟨ad170, A170_0, c170_0, e170, hx170_0, hl170_0, hi170_0⟩ := at_L3 HR1.out x29_2 p170 q170
          cases e170
          try replace hx170_0 := (HB.out.cell (World.block_lt_of_cell? w _ hx170_0)).trans hx170_0
          have HR170_0 := Aside0.mk hi170_0
          have HC170_0 := Aside0.mk hl170_0
          clear hi170_0 hl170_0
          replace p170 := eq_true p170
          replace q170 := eq_true q170
          go_wp2_with (first | ((with_reducible refine gate_callee (f := 25) rfl ?_); refine goesL_ (some 40) rfl rfl Try.func25 (by kernel_rfl) rfl #[.int .u32 ((wrap64 (a0 + x29_2)) % 4294967296), .slice A170_0 (rd_L3 l1 x29_2).length c170_0] rfl (by (try simp only [List.map_toArray, List.map_cons, List.map_nil]); first | done | rfl | (simp only [List.length_drop, List.length_take]; rfl)) ?_; (with_reducible refine (gaps_Put.calls k2 ((wrap64 (a0 + x29_2)) % 4294967296) _ _ (rd_L3 l1 x29_2) t171 t172 _ ?side1 ?side2 A14.out).mono ?_); (case side1 => repeat (first | exact (Kd.C_below HR170_0.out HB.out) | (with_reducible refine Kd.C_alloc ?_ _) | (with_reducible refine Kd.C_drewN ?_ _) | (with_reducible refine Kd.C_drew ?_))); (case side2 => exact HC170_0.out); rintro e w23 ⟨v173, rfl, ho0, hb⟩; refine ⟨_, rfl, ?_⟩; have n0_ := Aside0.mk (Kd.R_elder' (by (with_reducible repeat (first | apply Kd.R_alloc | apply Kd.R_drewN | apply Kd.R_drew)); exact HO_6.out) (Kd.R_base ho0) hb); have n1_ := Aside0.mk (Kd.R_lower (Kd.R_new' ho0 (Kd.R_lt (by (with_reducible repeat (first | apply Kd.R_alloc | apply Kd.R_drewN | apply Kd.R_drew)); exact HO_6.out))) (below_size (by repeat (first | (with_reducible first | exact HB.out | apply below_alloc | apply pw_below_drewN | apply below_drew1) | exact HB.out)))); have n2_ := Aside0.mk (below_step (by repeat (first | (with_reducible first | exact HB.out | apply below_alloc | apply pw_below_drewN | apply below_drew1) | exact HB.out)) hb); clear HO_6; clear HB; have HO_6 := n0_; have HO174 := n1_; have HB := n2_; clear n0_ n1_ n2_; (try clear hb); (try clear hb2); (try clear hk); (try clear hi); (try clear ho0)))
          go_ret2
          exact ⟨_, by first | rfl | (simp [errW_none, errW_some] <;> rfl) | (simp [*, errW_none, errW_some] <;> rfl), by first | exact Kd.R_nil _ _ _ _ _ | exact Kd.N_nil _ _ _ _ _ | exact Kd.V_nil _ _ _ _ _ | exact Kd.Q_nil _ _ _ _ _ | exact Kd.S_nil _ _ _ _ _, by repeat (first | (with_reducible first | exact HB.out | apply below_alloc | apply pw_below_drewN | apply below_drew1) | exact HB.out)⟩
        ·rw [if_neg c13] at H
         exact absurd H (by simp)
       ·rw [if_neg c12] at H
        exact absurd H (by simp)
      ·rw [if_neg c11] at H
       have c11b0 : decide (x29_2 < (l1.length : Int)) = false := decide_eq_false c11
       clear c11
       replace H := Option.bind_eq_some_iff.mp H
       obtain ⟨⟨t166, t169⟩, A240, H⟩ := H
       replace H : (some (t166, t169)) = some (r1, r2) := H
       have A24 := Aside0.mk A240
       clear A240
       simp only [Option.some.injEq, Prod.mk.injEq] at H
       obtain ⟨rfl, rfl⟩ := H
       obtain ⟨Ao25, co25, eo25⟩ := Kd.R_slice HO_6.out
       subst eo25
       go_wp2_with (first | ((with_reducible refine gate_callee (f := 26) rfl ?_); refine goesL_ (some 54) rfl rfl Try.func26 (by kernel_rfl) rfl #[.slice Ao25 x6_2.length co25] rfl (by (try simp only [List.map_toArray, List.map_cons, List.map_nil]); first | done | rfl | (simp only [List.length_drop, List.length_take]; rfl)) ?_; (with_reducible refine (shard_cut.calls k2 _ _ x6_2 t166 t169 _ ?side1 ?side2 A24.out).mono ?_); (case side1 => repeat (first | exact (Kd.R_reads' HO_6.out).2.2 | (with_reducible refine Kd.C_alloc ?_ _) | (with_reducible refine Kd.C_drewN ?_ _) | (with_reducible refine Kd.C_drew ?_))); (case side2 => exact (Kd.R_reads' HO_6.out).2.1); rintro e w26 ⟨v167, rfl, ho0, hb⟩; refine ⟨_, rfl, ?_⟩; have n0_ := Aside0.mk (Kd.R_elder' (by (with_reducible repeat (first | apply Kd.R_alloc | apply Kd.R_drewN | apply Kd.R_drew)); exact HO_6.out) (Kd.R_base ho0) hb); have n1_ := Aside0.mk (Kd.R_lower (Kd.R_new' (Kd.R_mono (ok' := fun k_ => True) ho0 (fun _ hk_ => trivial)) (Kd.R_lt (by (with_reducible repeat (first | apply Kd.R_alloc | apply Kd.R_drewN | apply Kd.R_drew)); exact HO_6.out))) (below_size (by repeat (first | (with_reducible first | exact HB.out | apply below_alloc | apply pw_below_drewN | apply below_drew1) | exact HB.out)))); have n2_ := Aside0.mk (below_step (by repeat (first | (with_reducible first | exact HB.out | apply below_alloc | apply pw_below_drewN | apply below_drew1) | exact HB.out)) hb); clear HO_6; clear HB; have HO_6 := n0_; have HO168 := n1_; have HB := n2_; clear n0_ n1_ n2_; (try clear hb); (try clear hb2); (try clear hk); (try clear hi); (try clear ho0)))
       go_ret2
       exact ⟨_, by first | rfl | (simp [errW_none, errW_some] <;> rfl) | (simp [*, errW_none, errW_some] <;> rfl), by (with_reducible repeat (first | apply Kd.R_alloc | apply Kd.R_drewN | apply Kd.R_drew)); exact Kd.R_mono HO168.out (fun _ hk => trivial), by repeat (first | (with_reducible first | exact HB.out | apply below_alloc | apply pw_below_drewN | apply below_drew1) | exact HB.out)⟩

/-! ### vary_Unfix: function 70 -/
mutual
def vary_Unfix.j0 : Nat → List Int → Int → Bool → Option (Int × List Int × Int)
 | 0, _, _, _ => none
 | k + 1, x0, x1, x10 => if x10 = true then (some (0, ([] : List Int), 1)) else (if (x0.length : Int) < x1 then (some (0, ([] : List Int), 5)) else (if 0 ≤ x1 then (if x1 ≤ (x0.length : Int) then (vary_Unfix.l0 k x0 x1 0 (x0.take (x1 : Int).toNat) ((x0.take (x1 : Int).toNat).length : Int) 0) else (none)) else (none)))
def vary_Unfix.l0 : Nat → List Int → Int → Int → List Int → Int → Int → Option (Int × List Int × Int)
 | 0, _, _, _, _, _, _ => none
 | k + 1, x0, x1, x7, x24, x25, x26 => if x26 < x25 then (if 0 ≤ x26 then (if x26 < (x24.length : Int) then (vary_Unfix.l0 k x0 x1 (Go.bits .or .u64 (IntKind.u64.wrap (x7 * 256)) (IntKind.u64.wrap (rd x24 x26))) x24 x25 (wrap64 (x26 + 1))) else (none)) else (none)) else (if 0 ≤ x1 then (if x1 ≤ (x0.length : Int) then ((slices_Clone_byte_byte.f (x0.drop (x1 : Int).toNat)).bind fun t184 => (some (x7, t184, 0))) else (none)) else (none))
end
def vary_Unfix.f (k : Nat) (l0 : List Int) (a1 : Int) : Option (Int × List Int × Int) := if a1 < 1 then (vary_Unfix.j0 k l0 a1 true) else (vary_Unfix.j0 k l0 a1 (decide (a1 > 8)))
theorem vary_Unfix.mono_l : ∀ k, (∀ y0 y1 y2, LeO (vary_Unfix.j0 k y0 y1 y2) (vary_Unfix.j0 (k + 1) y0 y1 y2)) ∧ (∀ y0 y1 y2 y3 y4 y5, LeO (vary_Unfix.l0 k y0 y1 y2 y3 y4 y5) (vary_Unfix.l0 (k + 1) y0 y1 y2 y3 y4 y5))
 | 0 => ⟨fun _ _ _ r h => by simp [vary_Unfix.j0] at h, fun _ _ _ _ _ _ r h => by simp [vary_Unfix.l0] at h⟩
 | k + 1 => by
  obtain ⟨ih0, ih1⟩ := vary_Unfix.mono_l k
  refine ⟨?_, ?_⟩
  ·intro y0 y1 y2
   unfold vary_Unfix.j0
   repeat' first
   | (with_reducible exact ih0 _ _ _)
   | (with_reducible exact ih1 _ _ _ _ _ _)
   | (with_reducible exact LeO.refl _)
   | (with_reducible exact LeO.none _)
   | (with_reducible refine LeO.ite ?_ ?_)
   | (with_reducible refine LeO.bind ?_ (fun _ => ?_))
   | exact ih0 _ _ _
   | exact ih1 _ _ _ _ _ _
   | exact LeO.none _
   | refine LeO.ite ?_ ?_
   | refine LeO.bind ?_ (fun _ => ?_)
  ·intro y0 y1 y2 y3 y4 y5
   unfold vary_Unfix.l0
   repeat' first
   | (with_reducible exact ih0 _ _ _)
   | (with_reducible exact ih1 _ _ _ _ _ _)
   | (with_reducible exact LeO.refl _)
   | (with_reducible exact LeO.none _)
   | (with_reducible refine LeO.ite ?_ ?_)
   | (with_reducible refine LeO.bind ?_ (fun _ => ?_))
   | exact ih0 _ _ _
   | exact ih1 _ _ _ _ _ _
   | exact LeO.none _
   | refine LeO.ite ?_ ?_
   | refine LeO.bind ?_ (fun _ => ?_)
theorem vary_Unfix.mono : ∀ a0 a1 k, LeO (vary_Unfix.f k a0 a1) (vary_Unfix.f (k + 1) a0 a1) := by
 intro a0 a1 k
 obtain ⟨ih0, ih1⟩ := vary_Unfix.mono_l k
 unfold vary_Unfix.f
 repeat' first
   | (with_reducible exact ih0 _ _ _)
   | (with_reducible exact ih1 _ _ _ _ _ _)
   | (with_reducible exact LeO.refl _)
   | (with_reducible exact LeO.none _)
   | (with_reducible refine LeO.ite ?_ ?_)
   | (with_reducible refine LeO.bind ?_ (fun _ => ?_))
   | exact ih0 _ _ _
   | exact ih1 _ _ _ _ _ _
   | exact LeO.none _
   | refine LeO.ite ?_ ?_
   | refine LeO.bind ?_ (fun _ => ?_)
set_option maxHeartbeats 8000000 in
set_option maxRecDepth 100000 in
theorem vary_Unfix.calls (k : Nat) (A0 : Option Addr) (c0 : Nat) (l0 : List Int) (a1 : Int) (r1 : Int) (r2 : List Int) (r3 : Int) (w : World) (hr0 : Kd.C (Kd.int .u8) w A0 l0.length l0) (hc0 : l0.length ≤ c0) (h : vary_Unfix.f k l0 a1 = some (r1, r2, r3)) :
  Calls Try.prog 70 #[.slice A0 l0.length c0, .int .i64 a1] w fun e w' => ∃ v1_ : Value, e = .returned (.tuple #[.int .u64 r1, v1_, .int .i64 r3]) ∧ Kd.R (Kd.int .u8) 5 w' w.heap.size (fun _ => True) v1_ r2 ∧ Below w.heap.size w w' := by
 have HR0 := Aside0.mk hr0
 have HC0 := Aside0.mk hc0
 clear hr0 hc0
 have HB := Aside0.mk (Below.refl w.heap.size w)
 have H : (if a1 < 1 then (vary_Unfix.j0 k l0 a1 true) else (vary_Unfix.j0 k l0 a1 (decide (a1 > 8)))) = some (r1, r2, r3) := h
 clear h
 have HC3 := Aside0.mk H
 clear H
 go_enter Try.func70, Try.ntmps70
 go_upto_region 1 with (fail)
 go_cut [10] (fun v10 wc => ∃ (kq : Nat) (x10_2 : Bool), v10 = .bool x10_2 ∧ Aside0 (vary_Unfix.j0 kq l0 a1 x10_2 = some (r1, r2, r3)) ∧ Aside0 (kq ≤ k) ∧ Aside0 (Below w.heap.size w wc))
 case first =>
  have H := HC3.out
  clear HC3
  by_cases c4 : a1 < 1
  ·rw [if_pos c4] at H
   have c4b0 : decide (a1 < 1) = true := decide_eq_true c4
   clear c4
   (first | rw [c4b0] | (simp only [i64_w, i32_w]; rw [c4b0]) | skip)
   have H' := Aside0.mk H
   clear H
   go_wp2
   go_meet
   case rel => exact ⟨_, (true), (by first | rfl | (simp; done) | (simp [*]; done)), H', ⟨by first | omega | exact Nat.le_refl _⟩, ⟨by repeat (first | (with_reducible first | exact HB.out | apply below_alloc | apply pw_below_drewN | apply below_drew1) | exact HB.out)⟩⟩
  ·rw [if_neg c4] at H
   have c4b0 : decide (a1 < 1) = false := decide_eq_false c4
   clear c4
   (first | rw [c4b0] | (simp only [i64_w, i32_w]; rw [c4b0]) | skip)
   have H' := Aside0.mk H
   clear H
   go_wp2
   go_meet
   case rel => exact ⟨_, (decide (a1 > 8)), (by first | rfl | (simp; done) | (simp [*]; done)), H', ⟨by first | omega | exact Nat.le_refl _⟩, ⟨by repeat (first | (with_reducible first | exact HB.out | apply below_alloc | apply pw_below_drewN | apply below_drew1) | exact HB.out)⟩⟩
 case rest =>
  clear HC3
  try clear p2
  try clear c4
  try clear c4b0
  obtain ⟨kq, x10_2, rfl, HA, HJ2, HB⟩ := hcut
  cases kq with
  | zero => exact absurd HA.out (by simp [vary_Unfix.j0])
  | succ kj2 =>
   have H := HA.out
   clear HA
   simp only [vary_Unfix.j0] at H
   by_cases c5 : x10_2 = true
   ·subst c5
    have H1 : (some (0, ([] : List Int), 1)) = some (r1, r2, r3) := by rw [if_pos rfl] at H; exact H
    clear H
    have H := H1
    clear H1
    simp only [Option.some.injEq, Prod.mk.injEq] at H
    obtain ⟨rfl, rfl, rfl⟩ := H
    go_wp2
    go_ret3
    exact ⟨_, by first | rfl | (simp [errW_none, errW_some] <;> rfl) | (simp [*, errW_none, errW_some] <;> rfl), by first | exact Kd.R_nil _ _ _ _ _ | exact Kd.N_nil _ _ _ _ _ | exact Kd.V_nil _ _ _ _ _ | exact Kd.Q_nil _ _ _ _ _ | exact Kd.S_nil _ _ _ _ _, by repeat (first | (with_reducible first | exact HB.out | apply below_alloc | apply pw_below_drewN | apply below_drew1) | exact HB.out)⟩
   ·replace c5 := Bool.eq_false_iff.mpr c5
    subst c5
    have H1 : (if (l0.length : Int) < a1 then (some (0, ([] : List Int), 5)) else (if 0 ≤ a1 then (if a1 ≤ (l0.length : Int) then (vary_Unfix.l0 kj2 l0 a1 0 (l0.take (a1 : Int).toNat) ((l0.take (a1 : Int).toNat).length : Int) 0) else (none)) else (none))) = some (r1, r2, r3) := by rw [if_neg (show ¬ (false = true) by decide)] at H; exact H
    clear H
    have H := H1
    clear H1
    by_cases c6 : (l0.length : Int) < a1
    ·rw [if_pos c6] at H
     have c6b0 : decide ((l0.length : Int) < a1) = true := decide_eq_true c6
     clear c6
     simp only [Option.some.injEq, Prod.mk.injEq] at H
     obtain ⟨rfl, rfl, rfl⟩ := H
     go_wp2
     go_ret3
     exact ⟨_, by first | rfl | (simp [errW_none, errW_some] <;> rfl) | (simp [*, errW_none, errW_some] <;> rfl), by first | exact Kd.R_nil _ _ _ _ _ | exact Kd.N_nil _ _ _ _ _ | exact Kd.V_nil _ _ _ _ _ | exact Kd.Q_nil _ _ _ _ _ | exact Kd.S_nil _ _ _ _ _, by repeat (first | (with_reducible first | exact HB.out | apply below_alloc | apply pw_below_drewN | apply below_drew1) | exact HB.out)⟩
    ·rw [if_neg c6] at H
     have c6b0 : decide ((l0.length : Int) < a1) = false := decide_eq_false c6
     clear c6
     by_cases c7 : 0 ≤ a1
     ·rw [if_pos c7] at H
      have c7b0 := eq_true c7
      have c7b1 : decide (0 ≤ a1) = true := decide_eq_true c7
      clear c7
      by_cases c8 : a1 ≤ (l0.length : Int)
      ·rw [if_pos c8] at H
       have c8b0 := eq_true c8
       have c8b1 : decide (a1 ≤ (l0.length : Int)) = true := decide_eq_true c8
       clear c8
       have H' := Aside0.mk H
       clear H
       obtain ⟨i09, hi09, _, hsz9, _⟩ := info_parts info5
       obtain ⟨hcut9, hA9, hC9⟩ := print_take_of (P := Try.prog) (Value.int .u8) 0 26 5 .i64 Try.underlying26 hi09 hsz9 A0 c0 l0 a1 (of_decide_eq_true (by first | (with_reducible assumption) | assumption)) (of_decide_eq_true (by first | (with_reducible assumption) | assumption)) HC0.out
       have HR181 := Aside0.mk (Kd.C_of_reads (h1 := fun _ => rfl) (hA9 _ (Kd.reads_of_C HR0.out)))
       have HC181 := Aside0.mk hC9
       clear hA9 hC9 hi09 hsz9
       obtain ⟨T9_, hT9_⟩ : ∃ t_, t_ = (l0.take (a1 : Int).toNat) := ⟨_, rfl⟩
       try rw [← hT9_] at H'
       rw [← hT9_] at hcut9 HR181 HC181
       have hNT9_ := Aside0.mk hT9_
       clear hT9_
       go_wp2
       go_loopg [7, 26] kj2 (fun kq v7 v26 w' => ∃ (x7_2 : Int) (x26_2 : Int), v7 = .int .u64 x7_2 ∧ v26 = .int .i64 x26_2 ∧ Aside0 (vary_Unfix.l0 kq l0 a1 x7_2 T9_ (T9_.length : Int) x26_2 = some (r1, r2, r3)) ∧ Aside0 (kq ≤ kj2) ∧ Aside0 (Below w.heap.size w w'))
       case atStart => exact ⟨(0), (0), (by first | rfl | (simp; done) | (simp [*]; done)), (by first | rfl | (simp; done) | (simp [*]; done)), H', ⟨Nat.le_refl _⟩, ⟨by repeat (first | (with_reducible first | exact HB.out | apply below_alloc | apply pw_below_drewN | apply below_drew1) | exact HB.out)⟩⟩
       case round =>
        clear H'
        try clear p2
        try clear c4
        try clear c4b0
        try clear c5
        try clear c6
        try clear c6b0
        try clear c7
        try clear c7b0
        try clear c7b1
        try clear c8
        try clear c8b0
        try clear c8b1
        try clear p2
        obtain ⟨x7_2, x26_2, rfl, rfl, HA, HK2, HB⟩ := hrel
        cases gk with
        | zero => exact absurd HA.out (by simp [vary_Unfix.l0])
        | succ k2 =>
         have H := HA.out
         clear HA
         simp only [vary_Unfix.l0] at H
         by_cases c10 : x26_2 < (T9_.length : Int)
         ·rw [if_pos c10] at H
          have c10b0 : decide (x26_2 < (T9_.length : Int)) = true := decide_eq_true c10
          clear c10
          by_cases c11 : 0 ≤ x26_2
          ·rw [if_pos c11] at H
           have c11b0 : decide (0 ≤ x26_2) = true := decide_eq_true c11
           clear c11
           by_cases c12 : x26_2 < (T9_.length : Int)
           ·rw [if_pos c12] at H
            have c12b0 : decide (x26_2 < (T9_.length : Int)) = true := decide_eq_true c12
            clear c12
            have H' := Aside0.mk H
            clear H
            have p182 : 0 ≤ (x26_2 : Int) := of_decide_eq_true (by first | (with_reducible assumption) | assumption)
            have q182 : x26_2 < (T9_.length : Int) := of_decide_eq_true (by first | (with_reducible assumption) | assumption)
            obtain ⟨ad182, e182, hx182_0⟩ := Kd.at_int HR181.out x26_2 p182 q182
            cases e182
            try replace hx182_0 := (HB.out.cell (World.block_lt_of_cell? w _ hx182_0)).trans hx182_0
            replace p182 := eq_true p182
            replace q182 := eq_true q182
            go_wp2
            go_roundg k2
            case measure => have := HJ2.out; have := HK2.out; omega
            case rel => exact ⟨(Go.bits .or .u64 (IntKind.u64.wrap (x7_2 * 256)) (IntKind.u64.wrap (rd T9_ x26_2))), (wrap64 (x26_2 + 1)), (by first | rfl | (simp; done) | (simp [*]; done)), (by first | rfl | (simp; done) | (simp [*]; done)), H', ⟨by have := HJ2.out; have := HK2.out; omega⟩, ⟨by repeat (first | (with_reducible first | exact HB.out | apply below_alloc | apply pw_below_drewN | apply below_drew1) | exact HB.out)⟩⟩
           ·rw [if_neg c12] at H
            exact absurd H (by simp)
          ·rw [if_neg c11] at H
           exact absurd H (by simp)
         ·rw [if_neg c10] at H
          have c10b0 : decide (x26_2 < (T9_.length : Int)) = false := decide_eq_false c10
          clear c10
          by_cases c13 : 0 ≤ a1
          ·rw [if_pos c13] at H
           have c13b0 := eq_true c13
           have c13b1 : decide (0 ≤ a1) = true := decide_eq_true c13
           clear c13
           by_cases c14 : a1 ≤ (l0.length : Int)
           ·rw [if_pos c14] at H
            have c14b0 := eq_true c14
            have c14b1 : decide (a1 ≤ (l0.length : Int)) = true := decide_eq_true c14
            clear c14
            replace H := Option.bind_eq_some_iff.mp H
            obtain ⟨t184, A150, H⟩ := H
            replace H : (some (x7_2, t184, 0)) = some (r1, r2, r3) := H
            have A15 := Aside0.mk A150
            clear A150
            simp only [Option.some.injEq, Prod.mk.injEq] at H
            obtain ⟨rfl, rfl, rfl⟩ := H
            obtain ⟨i016, hi016, _, hsz16, _⟩ := info_parts info5
            obtain ⟨A16, hcut16, hA16, hC16⟩ := print_drop_of (P := Try.prog) (Value.int .u8) 0 26 5 .i64 Try.underlying26 hi016 hsz16 A0 c0 l0 a1 (of_decide_eq_true (by first | (with_reducible assumption) | assumption)) (of_decide_eq_true (by first | (with_reducible assumption) | assumption)) HC0.out
            have HR183 := Aside0.mk (Kd.C_of_reads (h1 := fun _ => rfl) (hA16 _ (Kd.reads_of_C HR0.out)))
            have HC183 := Aside0.mk hC16
            clear hA16 hC16 hi016 hsz16
            go_wp2_with (first | ((with_reducible refine gate_callee (f := 38) rfl ?_); refine goesL_ (some 40) rfl rfl Try.func38 (by kernel_rfl) rfl #[.slice A16 (l0.drop (a1 : Int).toNat).length (c0 - a1.toNat)] rfl (by (try simp only [List.map_toArray, List.map_cons, List.map_nil]); first | done | (rw [show (l0.drop (a1 : Int).toNat).length = (l0.length - a1.toNat) from List.length_drop] <;> rfl) | rfl | (simp only [List.length_drop, List.length_take]; rfl)) ?_; (with_reducible refine (slices_Clone_byte_byte.calls _ _ (l0.drop (a1 : Int).toNat) t184 _ ?side1 ?side2 A15.out).mono ?_); (case side1 => repeat (first | exact (Kd.C_below HR183.out HB.out) | (with_reducible refine Kd.C_alloc ?_ _) | (with_reducible refine Kd.C_drewN ?_ _) | (with_reducible refine Kd.C_drew ?_))); (case side2 => exact HC183.out); rintro e w17 ⟨v185, rfl, ho0, hb⟩; refine ⟨_, rfl, ?_⟩; have n0_ := Aside0.mk (Kd.R_lower ho0 (below_size (by repeat (first | (with_reducible first | exact HB.out | apply below_alloc | apply pw_below_drewN | apply below_drew1) | exact HB.out)))); have n1_ := Aside0.mk (below_step (by repeat (first | (with_reducible first | exact HB.out | apply below_alloc | apply pw_below_drewN | apply below_drew1) | exact HB.out)) hb); clear HB; have HO186 := n0_; have HB := n1_; clear n0_ n1_; (try clear hb); (try clear hb2); (try clear hk); (try clear hi); (try clear ho0)))
            go_ret3
            exact ⟨_, by first | rfl | (simp [errW_none, errW_some] <;> rfl) | (simp [*, errW_none, errW_some] <;> rfl), by (with_reducible repeat (first | apply Kd.R_alloc | apply Kd.R_drewN | apply Kd.R_drew)); exact HO186.out, by repeat (first | (with_reducible first | exact HB.out | apply below_alloc | apply pw_below_drewN | apply below_drew1) | exact HB.out)⟩
           ·rw [if_neg c14] at H
            exact absurd H (by simp)
          ·rw [if_neg c13] at H
           exact absurd H (by simp)
      ·rw [if_neg c8] at H
       exact absurd H (by simp)
     ·rw [if_neg c7] at H
      exact absurd H (by simp)

/-! ### frame_span: function 66 -/
def frame_span.f (k : Nat) (l0 : List Int) : Option (Int × Int) := if 0 ≤ (mn (l0.length : Int) 4) then (if (mn (l0.length : Int) 4) ≤ (l0.length : Int) then ((vary_Unfix.f k (l0.take ((mn (l0.length : Int) 4) : Int).toNat) 4).bind fun bt188 => (if bt188.2.2 = 0 then (if bt188.1 > 4096 then (some (0, 6)) else (if (l0.length : Int) < (wrap64 (8 + (wrap64 (bt188.1)))) then (some (0, 5)) else (some (wrap64 (4 + (wrap64 (bt188.1))), 0)))) else (some (0, 5)))) else (none)) else (none)
theorem frame_span.mono : ∀ a0 k, LeO (frame_span.f k a0) (frame_span.f (k + 1) a0) := by
 intro a0 k
 unfold frame_span.f
 repeat' first
   | (with_reducible exact vary_Unfix.mono _ _ _)
   | (with_reducible exact LeO.refl _)
   | (with_reducible exact LeO.none _)
   | (with_reducible refine LeO.ite ?_ ?_)
   | (with_reducible refine LeO.bind ?_ (fun _ => ?_))
   | exact vary_Unfix.mono _ _ _
   | exact LeO.none _
   | refine LeO.ite ?_ ?_
   | refine LeO.bind ?_ (fun _ => ?_)
set_option maxHeartbeats 8000000 in
set_option maxRecDepth 100000 in
theorem frame_span.calls (k : Nat) (A0 : Option Addr) (c0 : Nat) (l0 : List Int) (r1 : Int) (r2 : Int) (w : World) (hr0 : Kd.C (Kd.int .u8) w A0 l0.length l0) (hc0 : l0.length ≤ c0) (h : frame_span.f k l0 = some (r1, r2)) :
  Calls Try.prog 66 #[.slice A0 l0.length c0] w fun e w' => e = .returned (.tuple #[.int .i64 r1, .int .i64 r2]) ∧ Below w.heap.size w w' := by
 have HR0 := Aside0.mk hr0
 have HC0 := Aside0.mk hc0
 clear hr0 hc0
 have HB := Aside0.mk (Below.refl w.heap.size w)
 have H : (if 0 ≤ (mn (l0.length : Int) 4) then (if (mn (l0.length : Int) 4) ≤ (l0.length : Int) then ((vary_Unfix.f k (l0.take ((mn (l0.length : Int) 4) : Int).toNat) 4).bind fun bt188 => (if bt188.2.2 = 0 then (if bt188.1 > 4096 then (some (0, 6)) else (if (l0.length : Int) < (wrap64 (8 + (wrap64 (bt188.1)))) then (some (0, 5)) else (some (wrap64 (4 + (wrap64 (bt188.1))), 0)))) else (some (0, 5)))) else (none)) else (none)) = some (r1, r2) := h
 clear h
 obtain ⟨ji2, hji2⟩ : ∃ j_ : Int, (mn (l0.length : Int) 4) = j_ := ⟨_, rfl⟩
 replace H : (if 0 ≤ (ji2) then (if (ji2) ≤ (l0.length : Int) then ((vary_Unfix.f k (l0.take ((ji2) : Int).toNat) 4).bind fun bt188 => (if bt188.2.2 = 0 then (if bt188.1 > 4096 then (some (0, 6)) else (if (l0.length : Int) < (wrap64 (8 + (wrap64 (bt188.1)))) then (some (0, 5)) else (some (wrap64 (4 + (wrap64 (bt188.1))), 0)))) else (some (0, 5)))) else (none)) else (none)) = some (r1, r2) := by first | (rw [hji2] at H; exact H) | (simp only [hji2] at H ⊢; exact H)
 (try (have hji2h : ji2 ≤ 4 := by (rw [← hji2]; unfold mn; (repeat' split) <;> omega)))
 (try (have hji2g : ji2 ≤ 64 := by omega))
 (try (have hji2l : 0 ≤ ji2 := by (rw [← hji2]; unfold mn; (repeat' split) <;> omega)))
 (try (have hji2m : 0 ≤ ji2 := by omega))
 have hji2_ : (if 4 < (l0.length : Int) then 4 else (l0.length : Int)) = ji2 := hji2
 by_cases c3 : 0 ≤ (ji2)
 ·rw [if_pos c3] at H
  have c3b0 := eq_true c3
  have c3b1 : decide (0 ≤ (ji2)) = true := decide_eq_true c3
  clear c3
  by_cases c4 : (ji2) ≤ (l0.length : Int)
  ·rw [if_pos c4] at H
   have c4b0 := eq_true c4
   have c4b1 : decide ((ji2) ≤ (l0.length : Int)) = true := decide_eq_true c4
   clear c4
   replace H := Option.bind_eq_some_iff.mp H
   obtain ⟨⟨t188, t189, t190⟩, A50, H⟩ := H
   replace H : (if t190 = 0 then (if t188 > 4096 then (some (0, 6)) else (if (l0.length : Int) < (wrap64 (8 + (wrap64 (t188)))) then (some (0, 5)) else (some (wrap64 (4 + (wrap64 (t188))), 0)))) else (some (0, 5))) = some (r1, r2) := H
   have A5 := Aside0.mk A50
   clear A50
   by_cases c6 : t190 = 0
   ·rw [if_pos c6] at H
    have c6b0 : (t190 == 0) = true := beq_iff_eq.mpr c6
    have c6b1 : (t190 != 0) = false := bne_eq_false_iff_eq.mpr c6
    clear c6
    by_cases c7 : t188 > 4096
    ·rw [if_pos c7] at H
     have c7b0 : decide (4096 < t188) = true := decide_eq_true c7
     clear c7
     simp only [Option.some.injEq, Prod.mk.injEq] at H
     obtain ⟨rfl, rfl⟩ := H
     obtain ⟨i08, hi08, _, hsz8, _⟩ := info_parts info5
     obtain ⟨hcut8, hA8, hC8⟩ := print_take_of (P := Try.prog) (Value.int .u8) 0 26 5 .i64 Try.underlying26 hi08 hsz8 A0 c0 l0 (ji2) (of_decide_eq_true (by first | (with_reducible assumption) | assumption)) (of_decide_eq_true (by first | (with_reducible assumption) | assumption)) HC0.out
     have HR187 := Aside0.mk (Kd.C_of_reads (h1 := fun _ => rfl) (hA8 _ (Kd.reads_of_C HR0.out)))
     have HC187 := Aside0.mk hC8
     clear hA8 hC8 hi08 hsz8
     go_enter Try.func66, Try.ntmps66
     go_wp2_with (first | ((with_reducible refine gate_callee (f := 70) rfl ?_); refine goesL_ (some 13) rfl rfl Try.func70 (by kernel_rfl) rfl #[.slice A0 (l0.take ((ji2) : Int).toNat).length c0, .int .i64 4] rfl (by (try simp only [List.map_toArray, List.map_cons, List.map_nil]); first | done | (rw [show (l0.take ((ji2) : Int).toNat).length = (ji2).toNat from (by rw [List.length_take]; have h_ : ((ji2) : Int) ≤ (l0.length : Int) := of_decide_eq_true (by first | (with_reducible assumption) | assumption); omega)] <;> rfl) | (simp only [hji2]; rfl) | rfl | (simp only [List.length_drop, List.length_take]; rfl)) ?_; (with_reducible refine (vary_Unfix.calls k _ _ (l0.take ((ji2) : Int).toNat) 4 t188 t189 t190 _ ?side1 ?side2 A5.out).mono ?_); (case side1 => repeat (first | exact HR187.out | (with_reducible refine Kd.C_alloc ?_ _) | (with_reducible refine Kd.C_drewN ?_ _) | (with_reducible refine Kd.C_drew ?_))); (case side2 => exact HC187.out); rintro e w9 ⟨v191, rfl, ho0, hb⟩; refine ⟨_, rfl, ?_⟩; have n0_ := Aside0.mk (Kd.R_lower ho0 (below_size (by repeat (first | (with_reducible first | exact HB.out | apply below_alloc | apply pw_below_drewN | apply below_drew1) | exact HB.out)))); have n1_ := Aside0.mk (below_step (by repeat (first | (with_reducible first | exact HB.out | apply below_alloc | apply pw_below_drewN | apply below_drew1) | exact HB.out)) hb); clear HB; have HO192 := n0_; have HB := n1_; clear n0_ n1_; (try clear hb); (try clear hb2); (try clear hk); (try clear hi); (try clear ho0)))
     go_ret2
     exact ⟨by first | rfl | (simp [errW_none, errW_some] <;> rfl) | (simp only [← hji2]; first | rfl | (simp [errW_none, errW_some] <;> rfl)) | (simp [*, errW_none, errW_some] <;> rfl), by repeat (first | (with_reducible first | exact HB.out | apply below_alloc | apply pw_below_drewN | apply below_drew1) | exact HB.out)⟩
    ·rw [if_neg c7] at H
     have c7b0 : decide (4096 < t188) = false := decide_eq_false c7
     clear c7
     by_cases c10 : (l0.length : Int) < (wrap64 (8 + (wrap64 (t188))))
     ·rw [if_pos c10] at H
      have c10b0 : decide ((l0.length : Int) < (wrap64 (8 + (wrap64 (t188))))) = true := decide_eq_true c10
      clear c10
      simp only [Option.some.injEq, Prod.mk.injEq] at H
      obtain ⟨rfl, rfl⟩ := H
      obtain ⟨i011, hi011, _, hsz11, _⟩ := info_parts info5
      obtain ⟨hcut11, hA11, hC11⟩ := print_take_of (P := Try.prog) (Value.int .u8) 0 26 5 .i64 Try.underlying26 hi011 hsz11 A0 c0 l0 (ji2) (of_decide_eq_true (by first | (with_reducible assumption) | assumption)) (of_decide_eq_true (by first | (with_reducible assumption) | assumption)) HC0.out
      have HR187 := Aside0.mk (Kd.C_of_reads (h1 := fun _ => rfl) (hA11 _ (Kd.reads_of_C HR0.out)))
      have HC187 := Aside0.mk hC11
      clear hA11 hC11 hi011 hsz11
      go_enter Try.func66, Try.ntmps66
      go_wp2_with (first | ((with_reducible refine gate_callee (f := 70) rfl ?_); refine goesL_ (some 13) rfl rfl Try.func70 (by kernel_rfl) rfl #[.slice A0 (l0.take ((ji2) : Int).toNat).length c0, .int .i64 4] rfl (by (try simp only [List.map_toArray, List.map_cons, List.map_nil]); first | done | (rw [show (l0.take ((ji2) : Int).toNat).length = (ji2).toNat from (by rw [List.length_take]; have h_ : ((ji2) : Int) ≤ (l0.length : Int) := of_decide_eq_true (by first | (with_reducible assumption) | assumption); omega)] <;> rfl) | (simp only [hji2]; rfl) | rfl | (simp only [List.length_drop, List.length_take]; rfl)) ?_; (with_reducible refine (vary_Unfix.calls k _ _ (l0.take ((ji2) : Int).toNat) 4 t188 t189 t190 _ ?side1 ?side2 A5.out).mono ?_); (case side1 => repeat (first | exact HR187.out | (with_reducible refine Kd.C_alloc ?_ _) | (with_reducible refine Kd.C_drewN ?_ _) | (with_reducible refine Kd.C_drew ?_))); (case side2 => exact HC187.out); rintro e w12 ⟨v191, rfl, ho0, hb⟩; refine ⟨_, rfl, ?_⟩; have n0_ := Aside0.mk (Kd.R_lower ho0 (below_size (by repeat (first | (with_reducible first | exact HB.out | apply below_alloc | apply pw_below_drewN | apply below_drew1) | exact HB.out)))); have n1_ := Aside0.mk (below_step (by repeat (first | (with_reducible first | exact HB.out | apply below_alloc | apply pw_below_drewN | apply below_drew1) | exact HB.out)) hb); clear HB; have HO192 := n0_; have HB := n1_; clear n0_ n1_; (try clear hb); (try clear hb2); (try clear hk); (try clear hi); (try clear ho0)))
      go_ret2
      exact ⟨by first | rfl | (simp [errW_none, errW_some] <;> rfl) | (simp only [← hji2]; first | rfl | (simp [errW_none, errW_some] <;> rfl)) | (simp [*, errW_none, errW_some] <;> rfl), by repeat (first | (with_reducible first | exact HB.out | apply below_alloc | apply pw_below_drewN | apply below_drew1) | exact HB.out)⟩
     ·rw [if_neg c10] at H
      have c10b0 : decide ((l0.length : Int) < (wrap64 (8 + (wrap64 (t188))))) = false := decide_eq_false c10
      clear c10
      simp only [Option.some.injEq, Prod.mk.injEq] at H
      obtain ⟨rfl, rfl⟩ := H
      obtain ⟨i013, hi013, _, hsz13, _⟩ := info_parts info5
      obtain ⟨hcut13, hA13, hC13⟩ := print_take_of (P := Try.prog) (Value.int .u8) 0 26 5 .i64 Try.underlying26 hi013 hsz13 A0 c0 l0 (ji2) (of_decide_eq_true (by first | (with_reducible assumption) | assumption)) (of_decide_eq_true (by first | (with_reducible assumption) | assumption)) HC0.out
      have HR187 := Aside0.mk (Kd.C_of_reads (h1 := fun _ => rfl) (hA13 _ (Kd.reads_of_C HR0.out)))
      have HC187 := Aside0.mk hC13
      clear hA13 hC13 hi013 hsz13
      go_enter Try.func66, Try.ntmps66
      go_wp2_with (first | ((with_reducible refine gate_callee (f := 70) rfl ?_); refine goesL_ (some 13) rfl rfl Try.func70 (by kernel_rfl) rfl #[.slice A0 (l0.take ((ji2) : Int).toNat).length c0, .int .i64 4] rfl (by (try simp only [List.map_toArray, List.map_cons, List.map_nil]); first | done | (rw [show (l0.take ((ji2) : Int).toNat).length = (ji2).toNat from (by rw [List.length_take]; have h_ : ((ji2) : Int) ≤ (l0.length : Int) := of_decide_eq_true (by first | (with_reducible assumption) | assumption); omega)] <;> rfl) | (simp only [hji2]; rfl) | rfl | (simp only [List.length_drop, List.length_take]; rfl)) ?_; (with_reducible refine (vary_Unfix.calls k _ _ (l0.take ((ji2) : Int).toNat) 4 t188 t189 t190 _ ?side1 ?side2 A5.out).mono ?_); (case side1 => repeat (first | exact HR187.out | (with_reducible refine Kd.C_alloc ?_ _) | (with_reducible refine Kd.C_drewN ?_ _) | (with_reducible refine Kd.C_drew ?_))); (case side2 => exact HC187.out); rintro e w14 ⟨v191, rfl, ho0, hb⟩; refine ⟨_, rfl, ?_⟩; have n0_ := Aside0.mk (Kd.R_lower ho0 (below_size (by repeat (first | (with_reducible first | exact HB.out | apply below_alloc | apply pw_below_drewN | apply below_drew1) | exact HB.out)))); have n1_ := Aside0.mk (below_step (by repeat (first | (with_reducible first | exact HB.out | apply below_alloc | apply pw_below_drewN | apply below_drew1) | exact HB.out)) hb); clear HB; have HO192 := n0_; have HB := n1_; clear n0_ n1_; (try clear hb); (try clear hb2); (try clear hk); (try clear hi); (try clear ho0)))
      go_ret2
      exact ⟨by first | rfl | (simp [errW_none, errW_some] <;> rfl) | (simp only [← hji2]; first | rfl | (simp [errW_none, errW_some] <;> rfl)) | (simp [*, errW_none, errW_some] <;> rfl), by repeat (first | (with_reducible first | exact HB.out | apply below_alloc | apply pw_below_drewN | apply below_drew1) | exact HB.out)⟩
   ·rw [if_neg c6] at H
    have c6b0 : (t190 == 0) = false := beq_eq_false_iff_ne.mpr c6
    have c6b1 : (t190 != 0) = true := bne_iff_ne.mpr c6
    simp only [Option.some.injEq, Prod.mk.injEq] at H
    obtain ⟨rfl, rfl⟩ := H
    obtain ⟨i015, hi015, _, hsz15, _⟩ := info_parts info5
    obtain ⟨hcut15, hA15, hC15⟩ := print_take_of (P := Try.prog) (Value.int .u8) 0 26 5 .i64 Try.underlying26 hi015 hsz15 A0 c0 l0 (ji2) (of_decide_eq_true (by first | (with_reducible assumption) | assumption)) (of_decide_eq_true (by first | (with_reducible assumption) | assumption)) HC0.out
    have HR187 := Aside0.mk (Kd.C_of_reads (h1 := fun _ => rfl) (hA15 _ (Kd.reads_of_C HR0.out)))
    have HC187 := Aside0.mk hC15
    clear hA15 hC15 hi015 hsz15
    go_enter Try.func66, Try.ntmps66
    go_wp2_with (first | ((with_reducible refine gate_callee (f := 70) rfl ?_); refine goesL_ (some 13) rfl rfl Try.func70 (by kernel_rfl) rfl #[.slice A0 (l0.take ((ji2) : Int).toNat).length c0, .int .i64 4] rfl (by (try simp only [List.map_toArray, List.map_cons, List.map_nil]); first | done | (rw [show (l0.take ((ji2) : Int).toNat).length = (ji2).toNat from (by rw [List.length_take]; have h_ : ((ji2) : Int) ≤ (l0.length : Int) := of_decide_eq_true (by first | (with_reducible assumption) | assumption); omega)] <;> rfl) | (simp only [hji2]; rfl) | rfl | (simp only [List.length_drop, List.length_take]; rfl)) ?_; (with_reducible refine (vary_Unfix.calls k _ _ (l0.take ((ji2) : Int).toNat) 4 t188 t189 t190 _ ?side1 ?side2 A5.out).mono ?_); (case side1 => repeat (first | exact HR187.out | (with_reducible refine Kd.C_alloc ?_ _) | (with_reducible refine Kd.C_drewN ?_ _) | (with_reducible refine Kd.C_drew ?_))); (case side2 => exact HC187.out); rintro e w16 ⟨v191, rfl, ho0, hb⟩; refine ⟨_, rfl, ?_⟩; have n0_ := Aside0.mk (Kd.R_lower ho0 (below_size (by repeat (first | (with_reducible first | exact HB.out | apply below_alloc | apply pw_below_drewN | apply below_drew1) | exact HB.out)))); have n1_ := Aside0.mk (below_step (by repeat (first | (with_reducible first | exact HB.out | apply below_alloc | apply pw_below_drewN | apply below_drew1) | exact HB.out)) hb); clear HB; have HO192 := n0_; have HB := n1_; clear n0_ n1_; (try clear hb); (try clear hb2); (try clear hk); (try clear hi); (try clear ho0)))
    go_ret2
    exact ⟨by first | rfl | (simp [errW_none, errW_some] <;> rfl) | (simp only [← hji2]; first | rfl | (simp [errW_none, errW_some] <;> rfl)) | (simp [*, errW_none, errW_some] <;> rfl), by repeat (first | (with_reducible first | exact HB.out | apply below_alloc | apply pw_below_drewN | apply below_drew1) | exact HB.out)⟩
  ·rw [if_neg c4] at H
   exact absurd H (by simp)
 ·rw [if_neg c3] at H
  exact absurd H (by simp)

end Go.Proofs.Ytnkjbgoibmbmoaa.Print
