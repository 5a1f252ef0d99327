/- Words for walks by hand over rows: cuts under a footprint, literals in blocks of their own. -/
import Derived.Test.YtaiechbdcddalaaHandWords
import Derived.Test.YtaiechbdcddalaaWNEv
set_option linter.unusedVariables false
set_option linter.unusedSimpArgs false
namespace Go.Proofs.Ytaiechbdcddalaa.Hand
open Go.RowKit Go.Proofs.YtaiechbdcddalaaW.PrintWords Go.Proofs.YtaiechbdcddalaaW.PrintLast Go.Proofs.YtaiechbdcddalaaW.PrintMore
section
variable {α : Type} {P : Program} {d : Kd α} {e : Nat} {base : Nat} {ok okp : Nat → Prop} {w W W1 : World} {A : Option Addr} {xs : List α} {v : Value}
/-- 'xs[m:]': its value, whatever the world; what it reads. -/
theorem cut_drop (t : TypeId) (kl : IntKind) (ht : P.underlying t = some (.slice e)) (hinfo : (P.info? e).map (·.size) = some d.sz) {c : Nat} (h : Kd.F d W ok A xs.length xs) (hc : xs.length ≤ c) (m : Nat) (hm : m ≤ xs.length) :
    ∃ (A2 : Option Addr) (n2 c2 : Nat), n2 = (xs.drop m).length ∧ n2 ≤ c2 ∧ (∀ W : World, (Instr.slice t (.slice A xs.length c) (some (.int kl m)) none none).run P W = .ok (.slice A2 n2 c2) W) ∧ Kd.F d W ok A2 n2 (xs.drop m) := by
  obtain ⟨i, hi, hs⟩ := Option.map_eq_some_iff.1 hinfo
  have h1 := cut_from (P := P) t e kl ht hi d.sz hs A xs.length c (m : Int) (by omega) (by omega)
  simp only [Int.toNat_natCast] at h1
  exact ⟨_, xs.length - m, c - m, by rw [List.length_drop], by omega, h1, by have h2 := Kd.F_cut h hm hc; rwa [List.length_drop] at h2⟩
theorem cut_take (t : TypeId) (kl : IntKind) (ht : P.underlying t = some (.slice e)) (hinfo : (P.info? e).map (·.size) = some d.sz) {c : Nat} (h : Kd.F d W ok A xs.length xs) (hc : xs.length ≤ c) (m : Nat) (hm : m ≤ xs.length) :
    ∃ (n2 : Nat), n2 = (xs.take m).length ∧ n2 ≤ c ∧ (∀ W : World, (Instr.slice t (.slice A xs.length c) none (some (.int kl m)) none).run P W = .ok (.slice A n2 c) W) ∧ Kd.F d W ok A n2 (xs.take m) := by
  obtain ⟨i, hi, hs⟩ := Option.map_eq_some_iff.1 hinfo
  have h1 := cut_to (P := P) t e kl ht hi A xs.length c (m : Int) (by omega) (by omega) hc
  simp only [Int.toNat_natCast] at h1
  exact ⟨m, by rw [List.length_take]; omega, by omega, h1, by have h2 := Kd.F_take h hm; rwa [List.length_take, Nat.min_eq_left hm] at h2⟩
theorem cut_mid (t : TypeId) (kl kh : IntKind) (ht : P.underlying t = some (.slice e)) (hinfo : (P.info? e).map (·.size) = some d.sz) {c : Nat} (h : Kd.F d W ok A xs.length xs) (hc : xs.length ≤ c) (lo hi : Nat) (h1 : lo ≤ hi) (h2 : hi ≤ xs.length) :
    ∃ (A2 : Option Addr) (n2 c2 : Nat), n2 = ((xs.take hi).drop lo).length ∧ n2 ≤ c2 ∧ (∀ W : World, (Instr.slice t (.slice A xs.length c) (some (.int kl lo)) (some (.int kh hi)) none).run P W = .ok (.slice A2 n2 c2) W) ∧ Kd.F d W ok A2 n2 ((xs.take hi).drop lo) := by
  obtain ⟨i, hi', hs⟩ := Option.map_eq_some_iff.1 hinfo
  have hr := Go.Proofs.YtaiechbdcddalaaW.PrintWords.cut_mid (P := P) t e kl kh ht hi' d.sz hs A xs.length c (lo : Int) (hi : Int) (by omega) (by omega) (by omega) hc
  simp only [Int.toNat_natCast] at hr
  exact ⟨_, hi - lo, c - lo, by rw [List.length_drop, List.length_take, Nat.min_eq_left h2], by omega, hr, by have h3 := Kd.F_mid h h1 h2 hc; rwa [List.length_drop, List.length_take, Nat.min_eq_left h2] at h3⟩
/-- An empty literal. -/
theorem R_lit0 (d : Kd α) (e : Nat) (H : Nat) (hH : W.heap.size = H) (hb : base ≤ H) (hok : ok H) : Kd.R d e (W.alloc (.cells #[] e)) base ok (.slice (some ⟨H, 0, none⟩) 0 0) [] := by
  subst hH
  refine ⟨fun k hk => ?_, [], ?_, ⟨by simp, fun j p h => by simp at h⟩⟩
  · have : W.heap.size = k := by simpa [Value.ownBlock] using hk
    subst this; exact hok
  · have h2 := World.ownsRow_lit (base := base) (e := e) (size := d.sz) W #[] 0 hb (by simp [maxLen]) (by simp)
    simpa using h2
/-- A row among rows: where it stands, what it is. -/
theorem F_row_at {d : Kd α} {n : Nat} {xs : List (List α)} (h : Kd.F (Kd.slice e d) W ok A n xs) (i : Nat) (hi : i < n) :
    ∃ ad A0 c0, A = some ad ∧ W.cell? (ad.add i) = some (.slice A0 (xs.getD i []).length c0) ∧ (xs.getD i []).length ≤ c0 ∧ Kd.F d W ok A0 (xs.getD i []).length (xs.getD i []) := by
  obtain ⟨ad, c, rfl, hcl, hK, hcc, _⟩ := Kd.F_get h [] (i : Int) (by omega) (by omega)
  simp only [Int.toNat_natCast] at hK hcc
  obtain ⟨A0, c0, rfl, hl, hF⟩ := Kd.FK_slice_open hK
  have h0 := hcc 0 _ rfl
  rw [Nat.add_zero, show (Kd.slice e d).sz = 1 from rfl, Nat.mul_one] at h0
  exact ⟨ad, A0, c0, rfl, h0, hl, hF⟩
end
section
variable {P : Program} {ops : Array Oper} {rest : List Oper} {o : Oper} {a : Act} {Q : Exit → Act → World → Prop} {Kc : Act → World → Prop} {ok : Nat → Prop}
/-- append(v, ys...) of numbers, in a region that draws. -/
theorem R_row_step (k : IntKind) {w0 W : World} (base : Nat) (hw : Region.wanted o (yielded ops a.tmps) = true) (s x : Operand) (t e : TypeId) (z : Value) (bytes : Nat)
    (ho : o.op = .call { callee := .builtin .append, args := #[s, x], argTypes := #[t, t] })
    (ht : P.underlying t = some (.slice e)) (hinfo : (P.info? e).map (fun i => (i.zero, i.size, i.bytes)) = some (some z, 1, bytes)) (hz : z.cells.size = 1) (hb0 : 0 < bytes)
    (v : Value) (xs ys : List Int) (A : Option Addr) (m c : Nat) (ok : Nat → Prop) (hs : a.eval s = v) (hx : a.eval x = .slice A m c)
    (HO : (Kd.int k).R e W base ok v xs) (HR : (Kd.int k).C W A m ys) (hfresh : ∀ k, W.heap.size ≤ k → ok k)
    (HB : Below base w0 W) (hbase : base ≤ W.heap.size) (hl : (xs.length + m) * bytes ≤ 140737488355328)
    (h : ∀ v1 w1, (Kd.int k).R e w1 base ok v1 (xs ++ ys) → Below base w0 w1 → W.grownBy w1 v.ownBlock → (v1.ownBlock = v.ownBlock ∨ ∃ b, v1.ownBlock = some b ∧ W.heap.size ≤ b) → Kc (a.put o.dst v1) w1) :
    if Region.wanted o (yielded ops a.tmps) = true then Oper.wp P o a W Kc Q else Kc (a.put o.dst undef) W :=
  Kd.R_append_rows_step (Kd.int k) base hw s x t e z bytes ho ht hinfo hz (show 0 < (Kd.int k).sz from Nat.one_pos) hb0 v xs ys A m c ok (fun _ => False) hs hx HO HR (fun _ _ hk => hk) (fun _ hk => hk.elim) hfresh HB hbase hl h
/-- A literal's row of numbers, whatever its mark. -/
theorem F_nums {W : World} {k : IntKind} {g : Nat} {e : TypeId} {fr : Nat × Nat} {C : Array Value} (l : List Int) (hg : W.heap[g]? = some (.cells C e fr)) (hC : C = (l.map (Value.int k)).toArray) (hl : l.length ≤ 1000) (hok : ok g) : Kd.F (Kd.int k) W ok (some ⟨g, 0, none⟩) l.length l := by
  intro W' hW'
  have hlt : g < W.heap.size := by
    rcases Nat.lt_or_ge g W.heap.size with h | h
    · exact h
    · rw [Array.getElem?_eq_none h] at hg; cases hg
  have hg' := (hW' g hok hlt).trans hg
  refine Kd.C_of_reads (d := (0 : Int)) (h1 := fun _ => rfl) ⟨rfl, by omega, fun _ => ⟨_, rfl, fun j hj => ?_⟩⟩
  have ha : (⟨g, 0, none⟩ : Addr).add j = ⟨g, j, none⟩ := by unfold Addr.add; split <;> simp_all
  rw [ha, cell_of_row _ _ _ _ _ _ hg', hC]
  simp [List.getElem?_eq_getElem hj, List.getD_eq_getElem?_getD]
/-- Bytes that go on: a row of the call's own, or a constant's (a full row that is only read). -/
def OutRow (e : TypeId) (W : World) (base : Nat) (v : Value) (xs : List Int) : Prop :=
  Kd.R (Kd.int .u8) e W base (fun _ => True) v xs ∨ ∃ A, v = .slice A xs.length xs.length ∧ 0 < xs.length ∧ Kd.F (Kd.int .u8) W (fun k => base ≤ k) A xs.length xs
theorem OutRow.slice {e base : Nat} {W : World} {v : Value} {xs : List Int} (h : OutRow e W base v xs) : ∃ A c, v = .slice A xs.length c := by
  rcases h with h | ⟨A, rfl, _⟩
  · exact Kd.R_slice h
  · exact ⟨A, _, rfl⟩
theorem OutRow.reads {e base : Nat} {W : World} {A : Option Addr} {n c : Nat} {xs : List Int} (h : OutRow e W base (.slice A n c) xs) : n = xs.length ∧ n ≤ c ∧ Kd.C (Kd.int .u8) W A xs.length xs := by
  rcases h with h | ⟨A', he, _, hC⟩
  · exact Kd.R_reads' h
  · injection he with h1 h2 h3
    subst h1 h2 h3
    exact ⟨rfl, Nat.le_refl _, Kd.F_now hC⟩
theorem OutRow.below {e base : Nat} {W W1 : World} {v : Value} {xs : List Int} (h : OutRow e W base v xs) (hb : Below W.heap.size W W1) : OutRow e W1 base v xs := by
  rcases h with h | ⟨A, he, h0, hC⟩
  · exact .inl (Kd.R_below h hb)
  · exact .inr ⟨A, he, h0, Kd.F_below hC hb⟩
theorem OutRow.V {e base base' : Nat} {W : World} {v : Value} {xs : List Int} (h : OutRow e W base v xs) : Kd.V (Kd.int .u8) e W base' (fun k => base ≤ k) v xs := by
  rcases h with h | ⟨A, rfl, _, hF⟩
  · exact Kd.R_V (Kd.R_mono (Kd.R_bound h) (fun k hk => hk.2.1))
  · exact Kd.V_mk (Nat.le_refl _) hF
/-- A row of numbers leads to its own block alone. -/
theorem R_own {k : IntKind} {e base : Nat} {ok : Nat → Prop} {W : World} {v : Value} {xs : List Int} (h : (Kd.int k).R e W base ok v xs) : (Kd.int k).R e W base (fun q => some q = v.ownBlock) v xs := Kd.R_tight rfl h
end
end Go.Proofs.Ytaiechbdcddalaa.Hand
