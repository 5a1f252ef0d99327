/- Words for walks by hand over rows: cuts under a footprint, literals in blocks of their own. -/
import Derived.Test.YtnkjbgoibmbmoaaHandWords
import Derived.Test.YtnkjbgoibmbmoaaWNEv
set_option linter.unusedVariables false
set_option linter.unusedSimpArgs false
namespace Go.Proofs.Ytnkjbgoibmbmoaa.Hand
open Go.RowKit Go.Proofs.YtnkjbgoibmbmoaaW.PrintWords Go.Proofs.YtnkjbgoibmbmoaaW.PrintLast Go.Proofs.YtnkjbgoibmbmoaaW.PrintMore
section
variable {α : Type} {P : Program} {d : Kd α} {e : Nat} {base : Nat} {ok okp : Nat → Prop} {w W W1 : World} {A : Option Addr} {xs : List α} {v : Value}
/-- 'xs[m:]': its value, whatever the world; what it reads. -/
theorem cut_drop (t : TypeId) (kl : IntKind) (ht : P.underlying t = some (.slice e)) (hinfo : (P.info? e).map (·.size) = some d.sz) {c : Nat} (h : Kd.F d W ok A xs.length xs) (hc : xs.length ≤ c) (m : Nat) (hm : m ≤ xs.length) :
    ∃ (A2 : Option Addr) (n2 c2 : Nat), n2 = (xs.drop m).length ∧ n2 ≤ c2 ∧ (∀ W : World, (Instr.slice t (.slice A xs.length c) (some (.int kl m)) none none).run P W = .ok (.slice A2 n2 c2) W) ∧ Kd.F d W ok A2 n2 (xs.drop m) := by
  obtain ⟨i, hi, hs⟩ := Option.map_eq_some_iff.1 hinfo
  have h1 := cut_from (P := P) t e kl ht hi d.sz hs A xs.length c (m : Int) (by omega) (by omega)
  simp only [Int.toNat_natCast] at h1
  exact ⟨_, xs.length - m, c - m, by rw [List.length_drop], by omega, h1, by have h2 := Kd.F_cut h hm hc; rwa [List.length_drop] at h2⟩
theorem cut_take (t : TypeId) (kl : IntKind) (ht : P.underlying t = some (.slice e)) (hinfo : (P.info? e).map (·.size) = some d.sz) {c : Nat} (h : Kd.F d W ok A xs.length xs) (hc : xs.length ≤ c) (m : Nat) (hm : m ≤ xs.length) :
    ∃ (n2 : Nat), n2 = (xs.take m).length ∧ n2 ≤ c ∧ (∀ W : World, (Instr.slice t (.slice A xs.length c) none (some (.int kl m)) none).run P W = .ok (.slice A n2 c) W) ∧ Kd.F d W ok A n2 (xs.take m) := by
  obtain ⟨i, hi, hs⟩ := Option.map_eq_some_iff.1 hinfo
  have h1 := cut_to (P := P) t e kl ht hi A xs.length c (m : Int) (by omega) (by omega) hc
  simp only [Int.toNat_natCast] at h1
  exact ⟨m, by rw [List.length_take]; omega, by omega, h1, by have h2 := Kd.F_take h hm; rwa [List.length_take, Nat.min_eq_left hm] at h2⟩
theorem cut_mid (t : TypeId) (kl kh : IntKind) (ht : P.underlying t = some (.slice e)) (hinfo : (P.info? e).map (·.size) = some d.sz) {c : Nat} (h : Kd.F d W ok A xs.length xs) (hc : xs.length ≤ c) (lo hi : Nat) (h1 : lo ≤ hi) (h2 : hi ≤ xs.length) :
    ∃ (A2 : Option Addr) (n2 c2 : Nat), n2 = ((xs.take hi).drop lo).length ∧ n2 ≤ c2 ∧ (∀ W : World, (Instr.slice t (.slice A xs.length c) (some (.int kl lo)) (some (.int kh hi)) none).run P W = .ok (.slice A2 n2 c2) W) ∧ Kd.F d W ok A2 n2 ((xs.take hi).drop lo) := by
  obtain ⟨i, hi', hs⟩ := Option.map_eq_some_iff.1 hinfo
  have hr := Go.Proofs.YtnkjbgoibmbmoaaW.PrintWords.cut_mid (P := P) t e kl kh ht hi' d.sz hs A xs.length c (lo : Int) (hi : Int) (by omega) (by omega) (by omega) hc
  simp only [Int.toNat_natCast] at hr
  exact ⟨_, hi - lo, c - lo, by rw [List.length_drop, List.length_take, Nat.min_eq_left h2], by omega, hr, by have h3 := Kd.F_mid h h1 h2 hc; rwa [List.length_drop, List.length_take, Nat.min_eq_left h2] at h3⟩
/-- 'xs[lo:hi:hi]'. -/
theorem cut_full (t : TypeId) (kl kh km : IntKind) (ht : P.underlying t = some (.slice e)) (hinfo : (P.info? e).map (·.size) = some d.sz) {c : Nat} (h : Kd.F d W ok A xs.length xs) (hc : xs.length ≤ c) (lo hi : Nat) (h1 : lo < hi) (h2 : hi ≤ xs.length) :
    ∃ (A2 : Option Addr) (n2 : Nat), n2 = ((xs.take hi).drop lo).length ∧ (∀ W : World, (Instr.slice t (.slice A xs.length c) (some (.int kl lo)) (some (.int kh hi)) (some (.int km hi))).run P W = .ok (.slice A2 n2 n2) W) ∧ Kd.F d W ok A2 n2 ((xs.take hi).drop lo) := by
  obtain ⟨i, hi', hs⟩ := Option.map_eq_some_iff.1 hinfo
  have hel : P.elem t = e := by simp [Program.elem, ht]
  have hu : P.underlying t = some (.slice (P.elem t)) := by rw [hel]; exact ht
  refine ⟨A.map (·.add (lo * d.sz)), hi - lo, by rw [List.length_drop, List.length_take, Nat.min_eq_left h2], fun W => ?_, ?_⟩
  · rw [run_slice_lhm W t A xs.length c hu kl kh km (lo : Int) (hi : Int) (hi : Int) (by omega) (by omega) (by omega) (by omega), hel]
    simp [sizeOf, typeInfo, hi', hs, sliced, Result.andThen]
    omega
  · have h3 := Kd.F_mid (c := hi + c) h (Nat.le_of_lt h1) h2 (by omega)
    rwa [if_neg (by omega), List.length_drop, List.length_take, Nat.min_eq_left h2] at h3
/-- A row that stays as it is, told as a footprint below the heap's end. -/
theorem N_view {n c : Nat} (h : Kd.N d e W base ok (.slice A n c) xs) : n = xs.length ∧ n ≤ c ∧ Kd.F d W (fun k => ok k ∧ k < W.heap.size) A xs.length xs := by
  have h1 := Kd.N_reads' h
  have h2 := Kd.N_F (Kd.N_bound h)
  obtain ⟨hn, hc, _⟩ := h1
  exact ⟨hn, hc, by rw [← hn]; exact h2⟩
/-- An empty literal. -/
theorem R_lit0 (d : Kd α) (e : Nat) (H : Nat) (hH : W.heap.size = H) (hb : base ≤ H) (hok : ok H) : Kd.R d e (W.alloc (.cells #[] e)) base ok (.slice (some ⟨H, 0, none⟩) 0 0) [] := by
  subst hH
  refine ⟨fun k hk => ?_, [], ?_, ⟨by simp, fun j p h => by simp at h⟩⟩
  · have : W.heap.size = k := by simpa [Value.ownBlock] using hk
    subst this; exact hok
  · have h2 := World.ownsRow_lit (base := base) (e := e) (size := d.sz) W #[] 0 hb (by simp [maxLen]) (by simp)
    simpa using h2
theorem N_lit0 (d : Kd α) (e : Nat) (hb : base ≤ W.heap.size) (hok : ok W.heap.size) : Kd.N d e (W.alloc (.cells #[] e)) base ok (.slice (some ⟨W.heap.size, 0, none⟩) 0 0) [] := Kd.R_N (R_lit0 d e _ rfl hb hok)
theorem N_lit0' (d : Kd α) (e : Nat) (H : Nat) (hH : W.heap.size = H) (hb : base ≤ H) (hok : ok H) : Kd.N d e (W.alloc (.cells #[] e)) base ok (.slice (some ⟨H, 0, none⟩) 0 0) [] := by
  subst hH; exact N_lit0 d e hb hok
/-- A literal of one element. -/
theorem N_lit1 {p : α} {cs : List Value} (e : Nat) (hp : Kd.FK d W okp p cs) (hok : ∀ k, okp k → ok k ∧ k < W.heap.size) (hb : base ≤ W.heap.size) (hfresh : ok W.heap.size) :
    Kd.N d e (W.alloc (.cells cs.toArray e)) base ok (.slice (some ⟨W.heap.size, 0, none⟩) 1 1) [p] := by
  have hl := d.K_len (Kd.FK_now hp)
  refine ⟨fun k hk => ?_, [cs], rfl, ⟨fun k hk => hk.symm, cs, ?_, ?_⟩, fun j x c hx hc => ?_⟩
  · have : W.heap.size = k := by simpa [Value.ownBlock] using hk
    subst this; exact hfresh
  · have h2 := World.ownsRow_lit (base := base) (e := e) (size := d.sz) W cs.toArray 1 hb (by simp [maxLen]) (by simp [hl])
    exact h2
  · have h3 := (Reps.none ((Kd.raw d.sz).M (W.alloc (.cells cs.toArray e)) base (fun k => some k = (Value.slice (some ⟨W.heap.size, 0, none⟩) 1 1).ownBlock ∧ some k ≠ (Value.slice (some ⟨W.heap.size, 0, none⟩) 1 1).ownBlock)) d.sz).snoc (show (Kd.raw d.sz).M _ _ _ cs cs from ⟨rfl, hl, d.K_one (Kd.FK_now hp)⟩) hl
    exact h3
  · obtain rfl : j = 0 := by
      rcases j with _ | j
      · rfl
      · simp at hx
    obtain rfl : p = x := by simpa using hx
    obtain rfl : cs = c := by simpa using hc
    exact Kd.FK_mono (Kd.FK_below hp (below_alloc (Below.refl _ _) _)) (fun k hk => ⟨(hok k hk).1, fun h => by have := (hok k hk).2; simp [Value.ownBlock] at h; omega⟩)
/-- A literal of one row: what it reads. -/
theorem F_lit1 {d : Kd α} {e : Nat} {x : List α} {Ax : Option Addr} {cx : Nat} (hx : Kd.F d W ok Ax x.length x) (hc : x.length ≤ cx) (t : Nat) (hok : ∀ k, ok k → k < W.heap.size) :
    Kd.F (Kd.slice e d) (W.alloc (.cells #[.slice Ax x.length cx] t)) (fun k => ok k ∨ k = W.heap.size) (some ⟨W.heap.size, 0, none⟩) 1 [x] := by
  intro W' hW
  have h1 : W'.heap[W.heap.size]? = some (.cells #[.slice Ax x.length cx] t (0, 0)) := (hW _ (.inr rfl) (by simp)).trans (heap_alloc_new W _)
  refine ⟨rfl, by decide, fun _ => ⟨_, rfl, fun j p hj => ?_⟩⟩
  obtain rfl : j = 0 := by
    rcases j with _ | j
    · rfl
    · simp at hj
  obtain rfl : x = p := by simpa using hj
  refine ⟨[.slice Ax x.length cx], rfl, ⟨Ax, cx, rfl, hc, ?_⟩, fun j u hu => ?_⟩
  · refine Kd.F_now (Kd.F_step hx (fun k hk hlt => ?_))
    exact (hW k (.inl hk) (by simp; omega)).trans (Below.heap_alloc W _ k hlt)
  · obtain rfl : j = 0 := by
      rcases j with _ | j
      · rfl
      · simp at hu
    have ha : (⟨W.heap.size, 0, none⟩ : Addr).add (0 * (Kd.slice e d).sz + 0) = ⟨W.heap.size, 0, none⟩ := by simp [Addr.add]
    rw [ha, cell_of_row _ _ _ _ _ _ h1]
    simpa using hu
theorem F_lit1' {d : Kd α} {e : Nat} {x : List α} {Ax : Option Addr} {cx : Nat} (H : Nat) (hH : W.heap.size = H) (hx : Kd.F d W ok Ax x.length x) (hc : x.length ≤ cx) (t : Nat) (hok : ∀ k, ok k → k < H) :
    Kd.F (Kd.slice e d) (W.alloc (.cells #[.slice Ax x.length cx] t)) (fun k => ok k ∨ k = H) (some ⟨H, 0, none⟩) 1 [x] := by
  subst hH; exact F_lit1 hx hc t hok
/-- A row among rows: where it stands, what it is. -/
theorem F_row_at {d : Kd α} {n : Nat} {xs : List (List α)} (h : Kd.F (Kd.slice e d) W ok A n xs) (i : Nat) (hi : i < n) :
    ∃ ad A0 c0, A = some ad ∧ W.cell? (ad.add i) = some (.slice A0 (xs.getD i []).length c0) ∧ (xs.getD i []).length ≤ c0 ∧ Kd.F d W ok A0 (xs.getD i []).length (xs.getD i []) := by
  obtain ⟨ad, c, rfl, hcl, hK, hcc, _⟩ := Kd.F_get h [] (i : Int) (by omega) (by omega)
  simp only [Int.toNat_natCast] at hK hcc
  obtain ⟨A0, c0, rfl, hl, hF⟩ := Kd.FK_slice_open hK
  have h0 := hcc 0 _ rfl
  rw [Nat.add_zero, show (Kd.slice e d).sz = 1 from rfl, Nat.mul_one] at h0
  exact ⟨ad, A0, c0, rfl, h0, hl, hF⟩
end
section
variable {P : Program} {ops : Array Oper} {rest : List Oper} {o : Oper} {a : Act} {Q : Exit → Act → World → Prop} {Kc : Act → World → Prop} {ok : Nat → Prop}
/-- append(v, ys...) of numbers, in a region that draws. -/
theorem R_row_step (k : IntKind) {w0 W : World} (base : Nat) (hw : Region.wanted o (yielded ops a.tmps) = true) (s x : Operand) (t e : TypeId) (z : Value) (bytes : Nat)
    (ho : o.op = .call { callee := .builtin .append, args := #[s, x], argTypes := #[t, t] })
    (ht : P.underlying t = some (.slice e)) (hinfo : (P.info? e).map (fun i => (i.zero, i.size, i.bytes)) = some (some z, 1, bytes)) (hz : z.cells.size = 1) (hb0 : 0 < bytes)
    (v : Value) (xs ys : List Int) (A : Option Addr) (m c : Nat) (ok : Nat → Prop) (hs : a.eval s = v) (hx : a.eval x = .slice A m c)
    (HO : (Kd.int k).R e W base ok v xs) (HR : (Kd.int k).C W A m ys) (hfresh : ∀ k, W.heap.size ≤ k → ok k)
    (HB : Below base w0 W) (hbase : base ≤ W.heap.size) (hl : (xs.length + m) * bytes ≤ 140737488355328)
    (h : ∀ v1 w1, (Kd.int k).R e w1 base ok v1 (xs ++ ys) → Below base w0 w1 → W.grownBy w1 v.ownBlock → (v1.ownBlock = v.ownBlock ∨ ∃ b, v1.ownBlock = some b ∧ W.heap.size ≤ b) → Kc (a.put o.dst v1) w1) :
    if Region.wanted o (yielded ops a.tmps) = true then Oper.wp P o a W Kc Q else Kc (a.put o.dst undef) W :=
  Kd.R_append_rows_step (Kd.int k) base hw s x t e z bytes ho ht hinfo hz (show 0 < (Kd.int k).sz from Nat.one_pos) hb0 v xs ys A m c ok (fun _ => False) hs hx HO HR (fun _ _ hk => hk) (fun _ hk => hk.elim) hfresh HB hbase hl h
/-- A literal's row of numbers, whatever its mark. -/
theorem F_nums {W : World} {k : IntKind} {g : Nat} {e : TypeId} {fr : Nat × Nat} {C : Array Value} (l : List Int) (hg : W.heap[g]? = some (.cells C e fr)) (hC : C = (l.map (Value.int k)).toArray) (hl : l.length ≤ 1000) (hok : ok g) : Kd.F (Kd.int k) W ok (some ⟨g, 0, none⟩) l.length l := by
  intro W' hW'
  have hlt : g < W.heap.size := by
    rcases Nat.lt_or_ge g W.heap.size with h | h
    · exact h
    · rw [Array.getElem?_eq_none h] at hg; cases hg
  have hg' := (hW' g hok hlt).trans hg
  refine Kd.C_of_reads (d := (0 : Int)) (h1 := fun _ => rfl) ⟨rfl, by omega, fun _ => ⟨_, rfl, fun j hj => ?_⟩⟩
  have ha : (⟨g, 0, none⟩ : Addr).add j = ⟨g, j, none⟩ := by unfold Addr.add; split <;> simp_all
  rw [ha, cell_of_row _ _ _ _ _ _ hg', hC]
  simp [List.getElem?_eq_getElem hj, List.getD_eq_getElem?_getD]
/-- Bytes that go on: a row of the call's own, or a constant's (a full row that is only read). -/
def OutRow (e : TypeId) (W : World) (base : Nat) (v : Value) (xs : List Int) : Prop :=
  Kd.R (Kd.int .u8) e W base (fun _ => True) v xs ∨ ∃ A, v = .slice A xs.length xs.length ∧ 0 < xs.length ∧ Kd.F (Kd.int .u8) W (fun k => base ≤ k) A xs.length xs
theorem OutRow.slice {e base : Nat} {W : World} {v : Value} {xs : List Int} (h : OutRow e W base v xs) : ∃ A c, v = .slice A xs.length c := by
  rcases h with h | ⟨A, rfl, _⟩
  · exact Kd.R_slice h
  · exact ⟨A, _, rfl⟩
theorem OutRow.reads {e base : Nat} {W : World} {A : Option Addr} {n c : Nat} {xs : List Int} (h : OutRow e W base (.slice A n c) xs) : n = xs.length ∧ n ≤ c ∧ Kd.C (Kd.int .u8) W A xs.length xs := by
  rcases h with h | ⟨A', he, _, hC⟩
  · exact Kd.R_reads' h
  · injection he with h1 h2 h3
    subst h1 h2 h3
    exact ⟨rfl, Nat.le_refl _, Kd.F_now hC⟩
theorem OutRow.below {e base : Nat} {W W1 : World} {v : Value} {xs : List Int} (h : OutRow e W base v xs) (hb : Below W.heap.size W W1) : OutRow e W1 base v xs := by
  rcases h with h | ⟨A, he, h0, hC⟩
  · exact .inl (Kd.R_below h hb)
  · exact .inr ⟨A, he, h0, Kd.F_below hC hb⟩
theorem OutRow.V {e base base' : Nat} {W : World} {v : Value} {xs : List Int} (h : OutRow e W base v xs) : Kd.V (Kd.int .u8) e W base' (fun k => base ≤ k) v xs := by
  rcases h with h | ⟨A, rfl, _, hF⟩
  · exact Kd.R_V (Kd.R_mono (Kd.R_bound h) (fun k hk => hk.2.1))
  · exact Kd.V_mk (Nat.le_refl _) hF
/-- append(out, ys...), whichever out is. -/
theorem out_append {w0 W : World} (base : Nat) (hgd : o.guard = none) (s x : Operand) (t e : TypeId) (ho : o.op = .call { callee := .builtin .append, args := #[s, x], argTypes := #[t, t] })
    (ht : P.underlying t = some (.slice e)) (hinfo : (P.info? e).map (fun i => (i.zero, i.size, i.bytes)) = some (some (.int .u8 0), 1, 1))
    (v : Value) (xs ys : List Int) (A : Option Addr) (m c : Nat) (hs : a.eval s = v) (hx : a.eval x = .slice A m c)
    (HO : OutRow e W base v xs) (HR : (Kd.int .u8).C W A m ys) (hm : 0 < m) (HB : Below base w0 W) (hbase : base ≤ W.heap.size) (hl : xs.length + m ≤ 140737488355328)
    (h : ∀ v1 w1, Kd.R (Kd.int .u8) e w1 base (fun _ => True) v1 (xs ++ ys) → Below base w0 w1 → wpList P ops Q rest (a.put o.dst v1) w1) :
    wpList P ops Q (o :: rest) a W := by
  have hyl := Kd.C_len HR
  rcases HO with HO | ⟨A0, rfl, h0, HC⟩
  · exact Kd.R_append_row (w0 := w0) (Value.int .u8) (0 : Int) base hgd s x t e (.int .u8 0) 1 ho ht hinfo rfl (by decide) v xs ys A m c (fun _ => True) hs hx (fun _ _ => trivial) HO HR HB hbase (by omega) (fun v1 w1 h1 h2 _ _ => h v1 w1 h1 h2)
  · obtain ⟨i0, hi, hz0, hz1, hz2⟩ := info_parts hinfo
    obtain ⟨b0, hb0, hc0⟩ := (Kd.reads_of_C (d := (0 : Int)) (Kd.F_now HC)).2.2 h0
    obtain ⟨b1, hb1, hc1⟩ := (Kd.reads_of_C (d := (0 : Int)) HR).2.2 hm
    subst hb0 hb1
    have hcell : ∀ (zs : List Int) (b : Addr), (∀ i, i < zs.length → W.cell? (b.add i) = some (Value.int .u8 (zs.getD i 0))) → ∀ j u, (zs.map (Value.int .u8))[j]? = some u → W.cell? (b.add j) = some u := by
      intro zs b hb j u hj
      obtain ⟨hlt, hu⟩ := List.getElem?_eq_some_iff.1 hj
      rw [List.length_map] at hlt
      rw [hb j hlt, ← hu]
      simp [List.getD_eq_getElem?_getD, List.getElem?_eq_getElem hlt]
    refine wpList_append_grows W hgd s x t ho e i0 (.int .u8 0) 1 1 ht hi hz0 hz1 hz2 rfl (by decide) (some b0) xs.length xs.length (xs.map (Value.int .u8)) hs (fun h => by cases h) (by simp) (fun b hb j u hj => by cases hb; exact hcell xs b0 hc0 j u hj) b1 m c (ys.map (Value.int .u8)) hx (by simp [hyl]) (fun j u hj => hcell ys b1 (fun i hi => hc1 i (by omega)) j u hj) (fun u hu => by obtain ⟨x_, _, rfl⟩ := List.mem_map.1 hu; rfl) (by omega) (by unfold maxLen; omega) (by omega) ?_
    intro v' w' hown hg
    refine h v' w' (Kd.R_lower (Kd.R_of_own (enc := Value.int .u8) (h1 := fun _ => rfl) (base := W.heap.size) ?_ (fun _ _ => trivial)) hbase) (HB.grown hg hbase (fun k e => by cases e))
    have : (xs ++ ys).length = xs.length + m := by rw [List.length_append, hyl]
    rw [this]
    simpa [encs] using hown
/-- A row of numbers leads to its own block alone. -/
theorem R_own {k : IntKind} {e base : Nat} {ok : Nat → Prop} {W : World} {v : Value} {xs : List Int} (h : (Kd.int k).R e W base ok v xs) : (Kd.int k).R e W base (fun q => some q = v.ownBlock) v xs := Kd.R_tight rfl h
end
end Go.Proofs.Ytnkjbgoibmbmoaa.Hand
