/- A search among numbers that rise (layer 18). -/
import Derived.Test.YtnkjbgoibmbmoaaSpecWalk
import Derived.Test.YtnkjbgoibmbmoaaMathGaps
import Derived.Test.YtnkjbgoibmbmoaaPrint11
set_option linter.unusedVariables false
set_option linter.unusedSimpArgs false
namespace Go.Proofs.Ytnkjbgoibmbmoaa.Plain
open Go.RowKit Go.Proofs.YtnkjbgoibmbmoaaW.PrintWords Go.Proofs.YtnkjbgoibmbmoaaW.PrintLast Go.Proofs.YtnkjbgoibmbmoaaW.PrintMore Go.Proofs.Ytnkjbgoibmbmoaa.Print

theorem less_eq (a b : Int) : cmp_Less_uint32.f a b = some (decide (a < b)) := by simp [cmp_Less_uint32.f, cmp_isNaN_uint32.f]
theorem nan_eq (a : Int) : slices_isNaN_uint32.f a = some false := by simp [slices_isNaN_uint32.f]
theorem mid_eq (lo hi : Nat) (h : lo + hi ≤ 1000000000) : wrap64 (IntKind.u64.wrap (wrap64 ((lo : Int) + (hi : Int))) / 2) = (((lo + hi) / 2 : Nat) : Int) := by
  rw [w64_in (n := (lo : Int) + hi) (by omega) (by omega), u64_in (by omega) (by omega), w64_in (by omega) (by omega)]
  omega
theorem next_eq (n : Nat) (h : n ≤ 1000000000) : wrap64 ((n : Int) + 1) = ((n + 1 : Nat) : Int) := by rw [w64_in (by omega) (by omega)]; omega
theorem mem_at {l : List Int} {x : Int} (h : x ∈ l) : ∃ j, j < l.length ∧ l.getD j 0 = x := by
  obtain ⟨j, hj, e⟩ := List.mem_iff_getElem.1 h
  exact ⟨j, hj, by simp [hj, e]⟩
theorem at_mem {l : List Int} {j : Nat} (hj : j < l.length) : l.getD j 0 ∈ l := by
  have : l.getD j 0 = l[j] := by simp [hj]
  rw [this]; exact List.getElem_mem _
theorem bs_loop (l : List Int) (hr : Rise l) (hl : l.length ≤ 10000000) (x : Int) : ∀ (d lo hi : Nat), hi ≤ lo + d → lo ≤ hi → hi ≤ l.length → (∀ j, j < lo → l.getD j 0 < x) → (∀ j, hi ≤ j → j < l.length → x ≤ l.getD j 0) →
    ∃ p, Ev (fun k => slices_BinarySearch_uint32_uint32.l0 k l x l.length lo hi) (p, decide (x ∈ l)) := by
  intro d
  induction d with
  | zero =>
    intro lo hi h1 h2 h3 h4 h5
    obtain rfl : lo = hi := by omega
    by_cases hlt : lo < l.length
    · by_cases he : l.getD lo 0 = x
      · refine ⟨lo, Ev.step (fun k => slices_BinarySearch_uint32_uint32.l0.eq_2 _ _ _ _ _ _) ?_⟩
        refine ev_neg (by omega) (ev_pos (by omega) (ev_pos (by omega) (ev_pos (by omega) (ev_pos he (ev_val ?_)))))
        rw [decide_eq_true (by rw [← he]; exact at_mem hlt)]
      · have hn : ¬ x ∈ l := fun hx => by
          obtain ⟨j, hj, e⟩ := mem_at hx
          rcases Nat.lt_trichotomy j lo with h | h | h
          · have := h4 j h; omega
          · subst h; exact he e
          · have h6 := h5 lo (Nat.le_refl _) hlt
            have h7 := hr lo j h hj
            omega
        refine ⟨lo, Ev.step (fun k => slices_BinarySearch_uint32_uint32.l0.eq_2 _ _ _ _ _ _) ?_⟩
        refine ev_neg (by omega) (ev_pos (by omega) (ev_pos (by omega) (ev_pos (by omega) (ev_neg he (ev_got (nan_eq _) (ev_neg (by decide) (ev_val ?_)))))))
        rw [decide_eq_false hn]
    · have hn : ¬ x ∈ l := fun hx => by
        obtain ⟨j, hj, e⟩ := mem_at hx
        have := h4 j (by omega)
        omega
      refine ⟨lo, Ev.step (fun k => slices_BinarySearch_uint32_uint32.l0.eq_2 _ _ _ _ _ _) ?_⟩
      refine ev_neg (by omega) (ev_neg (by omega) (ev_val ?_))
      rw [decide_eq_false hn]
  | succ d ih =>
    intro lo hi h1 h2 h3 h4 h5
    by_cases hlt : lo < hi
    · have hm := mid_eq lo hi (by omega)
      obtain ⟨m, hmm⟩ : ∃ m, (lo + hi) / 2 = m := ⟨_, rfl⟩
      have hm1 : lo ≤ m ∧ m < hi := by omega
      rw [hmm] at hm
      have hn := next_eq m (by omega)
      by_cases hx : l.getD m 0 < x
      · obtain ⟨p, hp⟩ := ih (m + 1) hi (by omega) (by omega) h3 (fun j hj => by
          rcases Nat.lt_or_ge j m with h | h
          · have h8 := hr j m h (by omega); omega
          · obtain rfl : j = m := by omega
            exact hx) h5
        refine ⟨p, Ev.step (fun k => slices_BinarySearch_uint32_uint32.l0.eq_2 _ _ _ _ _ _) ?_⟩
        rw [hm, hn]
        clear hm hn
        refine ev_pos (by omega) (ev_pos (by omega) (ev_pos (by omega) (ev_got (less_eq _ _) (ev_pos (decide_eq_true ?_) hp))))
        exact hx
      · obtain ⟨p, hp⟩ := ih lo m (by omega) (by omega) (by omega) h4 (fun j hj hjl => by
          rcases Nat.lt_or_ge m j with h | h
          · have h8 := hr m j h hjl; omega
          · obtain rfl : j = m := by omega
            omega)
        refine ⟨p, Ev.step (fun k => slices_BinarySearch_uint32_uint32.l0.eq_2 _ _ _ _ _ _) ?_⟩
        rw [hm, hn]
        clear hm hn
        refine ev_pos (by omega) (ev_pos (by omega) (ev_pos (by omega) (ev_got (less_eq _ _) (ev_neg ?_ hp))))
        rw [decide_eq_true_eq]
        exact hx
    · obtain rfl : lo = hi := by omega
      exact ih lo lo (by omega) (Nat.le_refl _) h3 h4 h5
theorem search_ev (l : List Int) (hr : Rise l) (hl : l.length ≤ 10000000) (x : Int) : ∃ p, Ev (fun k => slices_BinarySearch_uint32_uint32.f k l x) (p, decide (x ∈ l)) := by
  unfold slices_BinarySearch_uint32_uint32.f
  exact bs_loop l hr hl x l.length 0 l.length (by omega) (Nat.zero_le _) (Nat.le_refl _) (fun j h => absurd h (Nat.not_lt_zero _)) (fun j h h2 => by omega)
theorem has_ev (s : Option (Int × List (List Int))) (v x : Int) (hr : Rise (shNext s v).1) (hl : (shNext s v).1.length ≤ 10000000) : Ev (fun k => shHas k s v x) (decide (x ∈ (shNext s v).1)) := by
  obtain ⟨p, hp⟩ := search_ev _ hr hl x
  unfold shHas
  exact ev_bind hp (ev_val rfl)

end Go.Proofs.Ytnkjbgoibmbmoaa.Plain
