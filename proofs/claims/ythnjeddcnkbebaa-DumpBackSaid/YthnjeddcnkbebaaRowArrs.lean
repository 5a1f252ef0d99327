/- What a law's arguments are, opened: slices of arrays of two whole numbers. -/
import Derived.Test.YthnjeddcnkbebaaRowTools
set_option linter.unusedVariables false
namespace Go.Proofs.Ythnjeddcnkbebaa.Hand
open Go.ChangeShapes Go.WideShapes Go.RowKit Go.Deep Go.Proofs.YthnjeddcnkbebaaW.PrintWords Go.Proofs.YthnjeddcnkbebaaW.PrintLast Go.Proofs.YthnjeddcnkbebaaW.PrintMore
theorem open_elems {H : Type} {enc : TypeId × Value → H} {P : Program} {W : World} {α : Type} (d : Kd α) (ok : α → Prop) {t e : TypeId} {a : Option Addr} {len cap : Nat} {dt : DataW H} {ps : List MemPlace} (ht : P.underlying t = some (.slice e)) (ce : P.cellsOf e = d.sz)
    (dec : ∀ n cs y, DataW.trod enc P W 0 (fun _ => true) true n e cs = some y → ∃ x : α, d.K W x cs ∧ ok x)
    (h : DataW.Trod enc P W 0 (fun _ => true) true t (.slice a len cap) dt ps) : ∃ zs : List α, IsSl d ok W a len cap zs := by
  obtain ⟨fuel, hf⟩ := h
  rcases open_slice ht hf with ⟨hcs, _⟩ | ⟨ad, l, c, m, n, D, Pl, hcs, _, hl, hm, hmm, _, hr⟩
  · simp [Value.cells] at hcs
    obtain ⟨rfl, rfl, rfl⟩ := hcs
    exact ⟨[], rfl, Nat.le_refl _, Nat.zero_le _, Kd.C_nil _ _, by simp⟩
  · simp [Value.cells] at hcs
    obtain ⟨rfl, rfl, rfl⟩ := hcs
    simp only [if_true] at hmm
    subst hmm
    have hx : ∀ i, i < len → ∃ (x : α) (cs : List Value), d.K W x cs ∧ ok x ∧ ∀ j, j < d.sz → W.cell? (ad.add (i * d.sz + j)) = cs[j]? := fun i hi => by
      obtain ⟨cs, hc, hd⟩ := hr i (by omega)
      obtain ⟨x, hK, hok⟩ := dec _ _ _ hd
      obtain ⟨_, hlen, hcell⟩ := World.cells?_some hc
      rw [ce] at hcell
      exact ⟨x, cs, hK, hok, fun j hj => by rw [← hcell j hj, Addr.add_add]⟩
    by_cases h0 : len = 0
    · subst h0
      exact ⟨[], rfl, hl, Nat.zero_le _, ⟨rfl, by decide, fun h => absurd h (by omega)⟩, by simp⟩
    · obtain ⟨x0, _⟩ := hx 0 (by omega)
      have : Nonempty α := ⟨x0⟩
      obtain ⟨f, hf⟩ : ∃ f : Nat → α, ∀ i, i < len → ∃ cs : List Value, d.K W (f i) cs ∧ ok (f i) ∧ ∀ j, j < d.sz → W.cell? (ad.add (i * d.sz + j)) = cs[j]? := by
        classical
        exact ⟨fun i => if hi : i < len then (hx i hi).choose else x0, fun i hi => by simp only [hi, dif_pos]; exact (hx i hi).choose_spec⟩
      refine ⟨(List.range len).map f, by simp, hl, Nat.le_trans hl hm, ⟨by simp, by have := hm; simp only [maxLen] at this; omega, fun _ => ⟨ad, rfl, fun j p hj => ?_⟩⟩, ?_⟩
      · have hjl : j < len := by simpa using (List.getElem?_eq_some_iff.1 hj).1
        rw [List.getElem?_map, List.getElem?_range hjl] at hj
        obtain rfl : f j = p := by simpa using hj
        obtain ⟨cs, hK, _, hc⟩ := hf j hjl
        refine ⟨cs, d.K_len hK, hK, fun i u hu => ?_⟩
        have hi : i < d.sz := by rw [← d.K_len hK]; exact (List.getElem?_eq_some_iff.1 hu).1
        rw [hc i hi]; exact hu
      · intro x hx'
        obtain ⟨j, hj, rfl⟩ := List.mem_map.1 hx'
        exact (hf j (List.mem_range.1 hj)).elim fun _ h => h.2.1
theorem open_arr2 {H : Type} {enc : TypeId × Value → H} {P : Program} {W : World} {base : Nat} {spare : Nat → Bool} {held : Bool} {e q : TypeId} {k : IntKind} {fuel : Nat} {cs : List Value} {y : DataW H × List MemPlace} (he : P.underlying e = some (.array 2 q)) (hq : P.underlying q = some (.int k)) (cq : P.cellsOf q = 1) (ce : P.cellsOf e = 2)
    (h : DataW.trod enc P W base spare held fuel e cs = some y) : ∃ a b, cs = [.int k a, .int k b] ∧ (Lit.int k a).wf = true ∧ (Lit.int k b).wf = true := by
  obtain ⟨xs, m, _, _, hl, hx, hg⟩ := DataW.trod_array he h
  rw [ce] at hl
  obtain _ | ⟨c0, _ | ⟨c1, _ | ⟨c2, cs⟩⟩⟩ := cs
  · simp at hl
  · simp at hl
  · have h0 := hg 0 (by omega)
    have h1 := hg 1 (by omega)
    rw [cq] at h0 h1
    simp only [Nat.zero_mul, Nat.one_mul, List.drop_zero, List.drop_succ_cons, List.take_succ_cons, List.take_zero] at h0 h1
    rw [List.getElem?_eq_getElem (by omega)] at h0 h1
    obtain ⟨a, e0, _, w0⟩ := DataW.trod_int hq h0
    obtain ⟨b, e1, _, w1⟩ := DataW.trod_int hq h1
    obtain rfl := (List.cons.inj e0).1
    obtain rfl := (List.cons.inj e1).1
    exact ⟨a, b, rfl, w0, w1⟩
  · simp at hl
end Go.Proofs.Ythnjeddcnkbebaa.Hand
