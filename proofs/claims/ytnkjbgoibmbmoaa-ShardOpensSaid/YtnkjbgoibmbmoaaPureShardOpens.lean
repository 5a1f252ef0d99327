/- What a file tells is the document's. -/
import Derived.Test.YtnkjbgoibmbmoaaSpecRef18
import Derived.Test.YtnkjbgoibmbmoaaSpecFind18
import Derived.Test.YtnkjbgoibmbmoaaPrint11
import Derived.Test.YtnkjbgoibmbmoaaPrint5
set_option linter.unusedVariables false
set_option linter.unusedSimpArgs false
namespace Go.Proofs.Ytnkjbgoibmbmoaa.Pure
open Go.RowKit Go.Proofs.Ytnkjbgoibmbmoaa.Print Go.Proofs.YtnkjbgoibmbmoaaW.PrintWords Go.Proofs.YtnkjbgoibmbmoaaW.PrintLast Go.Proofs.YtnkjbgoibmbmoaaW.PrintMore Go.Proofs.Ytnkjbgoibmbmoaa.Plain

theorem ev_all {α : Type} {P : α → Nat → Prop} : ∀ (l : List α), (∀ a ∈ l, ∃ K, ∀ k, K ≤ k → P a k) → ∃ K, ∀ k, K ≤ k → ∀ a ∈ l, P a k
  | [], _ => ⟨0, fun _ _ _ h => absurd h List.not_mem_nil⟩
  | a :: l, h => by
    obtain ⟨K1, h1⟩ := h a (by simp)
    obtain ⟨K2, h2⟩ := ev_all l (fun b hb => h b (by simp [hb]))
    refine ⟨K1 + K2, fun k hk b hb => ?_⟩
    rcases List.mem_cons.1 hb with rfl | hb
    · exact h1 k (by omega)
    · exact h2 k (by omega) b hb

theorem same_k (x : List Int) (h : x.length ≤ 1000000) : ∃ K, ∀ k, K ≤ k → creelref17_Same.f k x x = some true := by
  obtain ⟨K, e⟩ := same17_ev x x (by omega)
  rw [decide_eq_true rfl] at e
  exact ⟨K, e⟩
theorem ShardOpens : creellaw18_ShardOpens.Pure := by
  intro l0 v t hl hw hv ht
  have hb0 : Bs l0 := fun n hn => wf_u8 (hw n hn)
  have hxl : (l0.take (min l0.length 4000)).length ≤ 4000 := by rw [List.length_take]; omega
  have hb := hb0.take (min l0.length 4000)
  obtain ⟨x, hx⟩ : ∃ x, l0.take (min l0.length 4000) = x := ⟨_, rfl⟩
  rw [hx] at hb hxl ⊢
  obtain ⟨K1, e1⟩ := shown18_ev
  obtain ⟨K2, e2⟩ := Open_ev x hb (by omega)
  obtain ⟨K3, e3⟩ := ref_Open_ev x hb (by omega)
  cases ho : openS x with
  | none =>
    rw [ho] at e2 e3
    exact ⟨K1 + K2 + K3, none, e1 _ (by omega), e2 _ (by omega), e3 _ (by omega), trivial⟩
  | some s =>
    obtain ⟨a, L⟩ := s
    rw [ho] at e2 e3
    obtain ⟨_, _, h5, h6, h7, h8, h9, h10, _⟩ := openS_inv hb (by omega) ho
    have hlen : ∀ y ∈ L, y.length ≤ 1000000 := fun y hy => by have := (h7 y hy).2; omega
    have hN : Rise (shNext (some (a, L)) v).1 ∧ (shNext (some (a, L)) v).1.length ≤ 1000000 := by
      by_cases hout : v < a ∨ a + L.length ≤ v
      · rw [shNext_out a L v hout]
        exact ⟨fun i j _ h => absurd h (Nat.not_lt_zero _), Nat.zero_le _⟩
      · obtain ⟨i, hi⟩ := Int.eq_ofNat_of_zero_le (show 0 ≤ v - a by omega)
        have hi2 : i < L.length := by omega
        obtain rfl : v = a + (i : Int) := by omega
        rw [shNext_in a L i hi2]
        have hm := rdL_mem hi2
        exact ⟨(rises_iff _).1 (List.all_eq_true.1 h8 _ hm), hlen _ hm⟩
    obtain ⟨K4, e4⟩ := ev_all (P := fun y k => creelref17_Same.f k y y = some true) L (fun y hy => same_k y (hlen y hy))
    obtain ⟨K5, e5⟩ := same_k _ hN.2
    obtain ⟨K6, e6⟩ := has_ev (some (a, L)) v t hN.1 (by have := hN.2; omega)
    have hsum : sumLen L ≤ x.length := h9
    exact ⟨K1 + K2 + K3 + K4 + K5 + K6, some (a, L), e1 _ (by omega), e2 _ (by omega), e3 _ (by omega), h5, by show a ≤ 4294967296; omega, by show L.length ≤ 100000; omega, by show sumLen L ≤ 1000000; omega, fun y hy => ⟨hlen y hy, e4 _ (by omega) y hy⟩, e5 _ (by omega), hN.2, e6 _ (by omega)⟩

end Go.Proofs.Ytnkjbgoibmbmoaa.Pure
