/- Few lists; each of them in order (the statements of layer 18). -/
import Derived.Test.YtnkjbgoibmbmoaaSpecShard
import Derived.Test.YtnkjbgoibmbmoaaPrint6
set_option linter.unusedVariables false
set_option linter.unusedSimpArgs false
namespace Go.Proofs.Ytnkjbgoibmbmoaa.Plain
open Go.RowKit Go.Proofs.YtnkjbgoibmbmoaaW.PrintWords Go.Proofs.YtnkjbgoibmbmoaaW.PrintLast Go.Proofs.YtnkjbgoibmbmoaaW.PrintMore Go.Proofs.Ytnkjbgoibmbmoaa.Print

def few60 (l : List (List Int)) : List (List Int) := (l.take 60).filter fun x => decide (x.length ≤ 60)
theorem few_loop (l : List (List Int)) (hl : l.length ≤ 9223372036854775807) : ∀ (d i : Nat) (acc : List (List Int)), i + d = l.length → acc.length ≤ min i 60 →
    Ev (fun k => creellaw18_few.l0 k acc l l.length i) (acc ++ ((l.drop i).take (60 - i)).filter fun x => decide (x.length ≤ 60)) := by
  intro d
  induction d with
  | zero =>
    intro i acc hi ha
    rw [List.drop_eq_nil_of_le (by omega)]
    refine Ev.step (fun k => creellaw18_few.l0.eq_2 _ _ _ _ _) ?_
    refine ev_neg (by omega) (ev_val ?_)
    simp
  | succ d ih =>
    intro i acc hi ha
    have hlt : i < l.length := by omega
    have hn : wrap64 ((i : Int) + 1) = ((i + 1 : Nat) : Int) := by rw [w64_in (by omega) (by omega)]; omega
    rw [rdL_drop hlt]
    obtain ⟨x, hx⟩ : ∃ x, rd_L3 l (i : Int) = x := ⟨_, rfl⟩
    rw [hx]
    refine Ev.step (fun k => creellaw18_few.l0.eq_2 _ _ _ _ _) ?_
    rw [hn, hx]
    clear hn
    refine ev_pos (by omega) (ev_pos (by omega) (ev_pos (by omega) ?_))
    by_cases h60 : i < 60
    · have ht : (x :: l.drop (i + 1)).take (60 - i) = x :: (l.drop (i + 1)).take (60 - (i + 1)) := by
        rw [show 60 - i = (60 - (i + 1)) + 1 by omega, List.take_succ_cons]
      rw [ht]
      refine ev_pos (by omega) ?_
      by_cases h : x.length ≤ 60
      · have h2 := ih (i + 1) (acc ++ [x]) (by omega) (by rw [List.length_append]; simp only [List.length_cons, List.length_nil]; omega)
        refine ev_pos (by omega) (ev_pos (by omega) (Ev.eq h2 ?_))
        simp [h]
      · have h2 := ih (i + 1) acc (by omega) (by omega)
        refine ev_neg (by omega) (Ev.eq h2 ?_)
        simp [h]
    · have h2 := ih (i + 1) acc (by omega) (by omega)
      refine ev_neg (by omega) (Ev.eq h2 ?_)
      rw [show 60 - i = 0 by omega, show 60 - (i + 1) = 0 by omega]
      simp
theorem few18_ev (l : List (List Int)) (hl : l.length ≤ 9223372036854775807) : Ev (fun k => creellaw18_few.f k l) (few60 l) := by
  unfold creellaw18_few.f
  have h := few_loop l hl l.length 0 [] (by omega) (by simp)
  rw [List.drop_zero] at h
  exact h
theorem few60_facts (l : List (List Int)) : (few60 l).length ≤ 60 ∧ ∀ x ∈ few60 l, x.length ≤ 60 ∧ x ∈ l := by
  refine ⟨?_, fun x hx => ?_⟩
  · have h1 := List.length_filter_le (fun x : List Int => decide (x.length ≤ 60)) (l.take 60)
    have h2 : (l.take 60).length = min 60 l.length := List.length_take
    unfold few60
    omega
  · have h := List.mem_filter.1 hx
    exact ⟨by simpa using h.2, List.mem_of_mem_take h.1⟩
theorem backR_eq (y : List Int) (n : Int) : ∀ k, backR y n k = backK y n k
  | 0 => by simp [backR, backK]
  | k + 1 => by rw [backR, backK, backR_eq y n k]
theorem insR_eq (y : List Int) (n : Int) : insR y n = insN y n := by unfold insR insN; rw [backR_eq]; rfl
theorem riseR_eq (x : List Int) : riseR x = riseN x := by
  unfold riseR riseN
  congr 1
  funext y n
  exact insR_eq y n
def riseL (l : List (List Int)) : List (List Int) := (few60 l).map riseN
theorem rise18_ev (l : List (List Int)) (hl : l.length ≤ 9223372036854775807) : Ev (fun k => creellaw18_rise.f k l) (riseL l) := by
  obtain ⟨h1, h2⟩ := few60_facts l
  unfold creellaw18_rise.f
  refine ev_bind (few18_ev l hl) (ev_pos ⟨by omega, fun x hx => by have := (h2 x hx).1; omega⟩ (ev_val ?_))
  unfold riseL
  congr 1
  funext x
  exact riseR_eq x
theorem lenSum_le (L : List (List Int)) (h : ∀ x ∈ L, x.length ≤ 60) : lenSum L ≤ 60 * L.length := by
  induction L with
  | nil => simp [lenSum]
  | cons x L ih =>
    have h1 := h x (by simp)
    have h2 := ih (fun y hy => h y (by simp [hy]))
    rw [lenSum_cons, List.length_cons]
    omega
theorem few60_us {l : List (List Int)} (h : ∀ x ∈ l, Us x) : UsL (few60 l) ∧ 20 * (few60 l).length + 10 * lenSum (few60 l) ≤ 37200 := by
  obtain ⟨h1, h2⟩ := few60_facts l
  have h3 := lenSum_le (few60 l) (fun x hx => (h2 x hx).1)
  exact ⟨fun x hx => ⟨h x (h2 x hx).2, by have := (h2 x hx).1; omega⟩, by omega⟩
theorem riseL_facts {l : List (List Int)} (h : ∀ x ∈ l, Us x) : UsL (riseL l) ∧ 20 * (riseL l).length + 10 * lenSum (riseL l) ≤ 37200 ∧ (riseL l).all rises = true ∧ (riseL l).length ≤ 60 := by
  obtain ⟨h1, h2⟩ := few60_facts l
  have hm : ∀ y ∈ riseL l, Us y ∧ y.length ≤ 60 ∧ rises y = true := fun y hy => by
    obtain ⟨x, hx, rfl⟩ := List.mem_map.1 hy
    obtain ⟨g1, g2, g3⟩ := riseN_facts (h x (h2 x hx).2)
    exact ⟨g2, Nat.le_trans g3 (h2 x hx).1, g1⟩
  have hl : (riseL l).length ≤ 60 := by unfold riseL; rw [List.length_map]; exact h1
  have h3 := lenSum_le (riseL l) (fun x hx => (hm x hx).2.1)
  exact ⟨fun x hx => ⟨(hm x hx).1, by have := (hm x hx).2.1; omega⟩, by omega, List.all_eq_true.2 fun x hx => (hm x hx).2.2, hl⟩
theorem wf_us {l : List (List Int)} (h : ∀ x ∈ l, x.length ≤ maxLen ∧ ∀ y ∈ x, (Lit.int .u32 y).wf = true) : ∀ x ∈ l, Us x := fun x hx y hy => wf_u32 ((h x hx).2 y hy)

end Go.Proofs.Ytnkjbgoibmbmoaa.Plain
