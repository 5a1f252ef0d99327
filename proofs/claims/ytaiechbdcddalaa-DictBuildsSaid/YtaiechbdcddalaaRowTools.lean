/- What a law's arguments are, opened: slices of slices of whole numbers, structs of one-cell fields by value. -/
import Derived.Deep.Matrix
import Derived.Deep.Fields
import Derived.OpenShut
import Derived.Test.YtaiechbdcddalaaWMore
set_option linter.unusedVariables false
set_option linter.unusedSimpArgs false
namespace Go.Proofs.Ytaiechbdcddalaa.Hand
open Go.ChangeShapes Go.WideShapes Go.RowKit Go.Deep Go.Proofs.YtaiechbdcddalaaW.PrintWords Go.Proofs.YtaiechbdcddalaaW.PrintLast Go.Proofs.YtaiechbdcddalaaW.PrintMore

/-- A slice, as the list of what its elements are. -/
def IsSl {α : Type} (d : Kd α) (ok : α → Prop) (w : World) (a : Option Addr) (len cap : Nat) (zs : List α) : Prop := zs.length = len ∧ len ≤ cap ∧ len ≤ maxLen ∧ d.C w a len zs ∧ ∀ x ∈ zs, ok x
theorem open_rows {H : Type} {enc : TypeId × Value → H} {P : Program} {W : World} {t e q q' : TypeId} {k : IntKind} {a : Option Addr} {len cap : Nat} {d : DataW H} {ps : List MemPlace} (ht : P.underlying t = some (.slice e)) (he : P.underlying e = some (.slice q)) (hq : P.underlying q = some (.int k))
    (ce : P.cellsOf e = 1) (cq : P.cellsOf q = 1) (h : DataW.Trod enc P W 0 (fun _ => true) true t (.slice a len cap) d ps) :
    ∃ zs : List (List Int), IsSl (Kd.slice q' (Kd.int k)) (fun x => x.length ≤ maxLen ∧ ∀ y ∈ x, (Lit.int k y).wf = true) W a len cap zs := by
  obtain ⟨fuel, hf⟩ := h
  rcases open_int_rows ht he hq ce cq hf with ⟨hcs, _⟩ | ⟨ad, l, c, A, L, C, Z, hcs, _, hl, hm, _, hr⟩
  · simp [Value.cells] at hcs
    obtain ⟨rfl, rfl, rfl⟩ := hcs
    exact ⟨[], rfl, Nat.le_refl _, Nat.zero_le _, Kd.C_nil _ _, by simp⟩
  · simp [Value.cells] at hcs
    obtain ⟨rfl, rfl, rfl⟩ := hcs
    have hlen : ∀ j, j < len → ((Z j).take (L j)).length = L j := fun j hj => by
      obtain ⟨_, h1, h2, h3, _⟩ := hr j (by omega)
      rw [List.length_take]; omega
    refine ⟨(List.range len).map fun j => (Z j).take (L j), by simp, hl, Nat.le_trans hl hm, ⟨by simp, by have := hm; simp only [maxLen] at this; omega, fun hp => ⟨ad, rfl, fun j p hj => ?_⟩⟩, ?_⟩
    · have hjl : j < len := by simpa using (List.getElem?_eq_some_iff.1 hj).1
      have hp' : (Z j).take (L j) = p := by
        rw [List.getElem?_map, List.getElem?_range hjl] at hj
        simpa using hj
      subst hp'
      obtain ⟨h0, h1, h2, h3, h4, h5, h6⟩ := hr j (by omega)
      refine ⟨[.slice (A j) ((Z j).take (L j)).length (C j)], rfl, ⟨A j, C j, rfl, by rw [hlen j hjl]; exact h1, ?_⟩, ?_⟩
      · refine Kd.C_of_reads (d := (0 : Int)) (h1 := fun _ => rfl) ⟨rfl, by rw [hlen j hjl]; have := h2; simp only [maxLen] at this; omega, fun hp2 => ?_⟩
        rw [hlen j hjl] at hp2
        cases hA : A j with
        | none => exact absurd (h5 hA) (by omega)
        | some a' =>
          refine ⟨a', rfl, fun i hi => ?_⟩
          rw [hlen j hjl] at hi
          rw [(h6 a' hA).2 i (by omega)]
          congr 2
          simp [List.getD_eq_getElem?_getD, List.getElem?_take, hi]
      · intro i u hi
        cases i with
        | zero =>
          have hi2 : some (Value.slice (A j) ((Z j).take (L j)).length (C j)) = some u := hi
          cases hi2
          rw [show j * (Kd.slice q' (Kd.int k)).sz + 0 = j from by show j * 1 + 0 = j; omega, hlen j hjl]
          exact h0
        | succ i => simp at hi
    · intro x hx
      obtain ⟨j, hj, rfl⟩ := List.mem_map.1 hx
      have hjl := List.mem_range.1 hj
      obtain ⟨h0, h1, h2, h3, h4, h5, h6⟩ := hr j (by omega)
      exact ⟨by rw [hlen j hjl]; omega, fun y hy => h4 y (List.mem_of_mem_take hy)⟩
end Go.Proofs.Ytaiechbdcddalaa.Hand
