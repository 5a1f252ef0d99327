/- Labels in order, each once. -/
import Derived.Test.YtaiechbdcddalaaSpecWords
import Derived.Test.YtaiechbdcddalaaPrint8
set_option linter.unusedVariables false
set_option linter.unusedSimpArgs false
namespace Go.Proofs.Ytaiechbdcddalaa.Plain
open Go.RowKit Go.Proofs.Ytaiechbdcddalaa.Print Go.Proofs.YtaiechbdcddalaaW.PrintWords Go.Proofs.YtaiechbdcddalaaW.PrintLast Go.Proofs.YtaiechbdcddalaaW.PrintMore

theorem lex_total : ∀ (a b : List Int), lexLess a b = false → a ≠ b → lexLess b a = true
  | [], [], _, h => absurd rfl h
  | [], _ :: _, h, _ => by simp [lexLess] at h
  | _ :: _, [], _, _ => rfl
  | x :: a, y :: b, h, hne => by
    simp only [lexLess, Bool.or_eq_false_iff, decide_eq_false_iff_not, Bool.and_eq_false_iff] at h
    simp only [lexLess, Bool.or_eq_true, decide_eq_true_eq, Bool.and_eq_true]
    obtain ⟨h1, h2⟩ := h
    by_cases e : x = y
    · subst e
      refine .inr ⟨rfl, lex_total a b ?_ (fun q => hne (by rw [q]))⟩
      rcases h2 with h2 | h2
      · exact absurd rfl h2
      · exact h2
    · exact .inl (by omega)
theorem lex_trans : ∀ (a b c : List Int), lexLess a b = true → lexLess b c = true → lexLess a c = true
  | _, _, [], _, h => by rename_i b _; cases b <;> simp [lexLess] at h
  | [], _, _ :: _, _, _ => rfl
  | _ :: _, [], _ :: _, h, _ => by simp [lexLess] at h
  | x :: a, y :: b, z :: c, h1, h2 => by
    simp only [lexLess, Bool.or_eq_true, decide_eq_true_eq, Bool.and_eq_true] at h1 h2 ⊢
    rcases h1 with h1 | ⟨rfl, h1⟩
    · rcases h2 with h2 | ⟨rfl, h2⟩
      · exact .inl (by omega)
      · exact .inl h1
    · rcases h2 with h2 | ⟨rfl, h2⟩
      · exact .inl h2
      · exact .inr ⟨rfl, lex_trans a b c h1 h2⟩
def Rising (l : List (List Int)) : Prop := l.Pairwise (fun a b => lexLess a b = true)
theorem srtIns_rising {out : List (List Int)} {x : List Int} (hb : Bsl out) (hx : Bs x) (h : Rising out) : Rising (srtIns out x) ∧ ∀ y ∈ srtIns out x, y ∈ out ∨ y = x := by
  have hk := srtK_le x out
  have hl : ∀ j, j < out.length → Bs (out.getD j []) := fun j hj => hb _ (getD_mem hj)
  unfold srtIns
  split
  · exact ⟨h, fun y hy => .inl hy⟩
  · rename_i hne
    have hsplit : out = out.take (srtK x out) ++ out.drop (srtK x out) := (List.take_append_drop _ _).symm
    have hp := h
    unfold Rising at hp
    rw [hsplit, List.pairwise_append] at hp
    obtain ⟨p1, p2, p3⟩ := hp
    have hlow : ∀ y ∈ out.take (srtK x out), lexLess y x = true := by
      intro y hy
      obtain ⟨j, hj, rfl⟩ := List.mem_iff_getElem.1 hy
      have hj' : j < srtK x out := by rw [List.length_take] at hj; omega
      have h1 := srtK_yes x out j hj'
      unfold srtLess at h1
      rw [less_lex (hl j (by omega)) hx, List.getD_eq_getElem?_getD, List.getElem?_eq_getElem (by omega)] at h1
      rw [List.getElem_take]
      exact h1
    have hhigh : ∀ y ∈ out.drop (srtK x out), lexLess x y = true := by
      by_cases hlt : srtK x out < out.length
      · have h1 := srtK_no x out hlt
        unfold srtLess at h1
        rw [less_lex (hl _ hlt) hx] at h1
        have h2 : out.getD (srtK x out) [] ≠ x := by
          intro e
          apply hne
          refine ⟨hlt, ?_⟩
          unfold srtEq
          rw [e]
          exact beq_self_eq_true _
        have h3 := lex_total _ _ h1 h2
        intro y hy
        rw [getD_drop hlt] at hy p2
        rcases List.mem_cons.1 hy with rfl | hy
        · exact h3
        · exact lex_trans _ _ _ h3 (List.rel_of_pairwise_cons p2 hy)
      · intro y hy
        rw [List.drop_eq_nil_of_le (by omega)] at hy
        cases hy
    refine ⟨?_, fun y hy => ?_⟩
    · unfold Rising
      rw [List.append_assoc, List.pairwise_append]
      refine ⟨p1, ?_, fun a ha b hb => ?_⟩
      · rw [List.singleton_append, List.pairwise_cons]
        exact ⟨hhigh, p2⟩
      · rw [List.singleton_append] at hb
        rcases List.mem_cons.1 hb with rfl | hb
        · exact hlow a ha
        · exact p3 a ha b hb
    · rw [List.append_assoc, List.mem_append, List.singleton_append, List.mem_cons] at hy
      rcases hy with hy | rfl | hy
      · exact .inl (List.mem_of_mem_take hy)
      · exact .inr rfl
      · exact .inl (List.mem_of_mem_drop hy)
theorem srt_rising_at (l : List (List Int)) (hb : Bsl l) : ∀ (acc : List (List Int)), Bsl acc → Rising acc → Rising (l.foldl srtIns acc) ∧ ∀ y ∈ l.foldl srtIns acc, y ∈ l ∨ y ∈ acc := by
  induction l with
  | nil => intro acc _ h; exact ⟨h, fun y hy => .inr hy⟩
  | cons x l ih =>
    intro acc ha h
    obtain ⟨h1, h2⟩ := srtIns_rising ha hb.head h
    obtain ⟨h3, h4⟩ := ih hb.tail (srtIns acc x) (fun y hy => by
      rcases h2 y hy with h' | rfl
      · exact ha y h'
      · exact hb.head) h1
    refine ⟨h3, fun y hy => ?_⟩
    rcases h4 y hy with h' | h'
    · exact .inl (List.mem_cons_of_mem _ h')
    · rcases h2 y h' with h'' | rfl
      · exact .inr h''
      · exact .inl List.mem_cons_self
theorem srt_rising (l : List (List Int)) (hb : Bsl l) : Rising (srt l) ∧ ∀ y ∈ srt l, y ∈ l := by
  obtain ⟨h1, h2⟩ := srt_rising_at l hb [] (fun x hx => by cases hx) List.Pairwise.nil
  exact ⟨h1, fun y hy => by rcases h2 y hy with h | h; exact h; cases h⟩
theorem wordsOk_rising : ∀ (l : List (List Int)) (a : List Int), Rising l → (∀ x ∈ l, 1 ≤ x.length ∧ x.length ≤ 32) → (∀ x ∈ l, lexLess a x = true) → wordsOk a l = true
  | [], _, _, _, _ => rfl
  | x :: l, a, h, hx, ha => by
    unfold Rising at h
    rw [List.pairwise_cons] at h
    unfold wordsOk
    rw [Bool.and_eq_true]
    refine ⟨wordOk_iff.2 ⟨(hx x List.mem_cons_self).1, (hx x List.mem_cons_self).2, ha x List.mem_cons_self⟩, wordsOk_rising l x h.2 (fun y hy => hx y (List.mem_cons_of_mem _ hy)) h.1⟩
theorem lex_nil {x : List Int} (h : 1 ≤ x.length) : lexLess [] x = true := by cases x <;> simp_all [lexLess]
/-- Labels of from 1 to 32 bytes. -/
def fit (l : List (List Int)) : List (List Int) := l.filter fun x => decide (1 ≤ x.length) && decide (x.length ≤ 32)
theorem fit_facts (l : List (List Int)) : (fit l).length ≤ l.length ∧ ∀ x ∈ fit l, x ∈ l ∧ 1 ≤ x.length ∧ x.length ≤ 32 := by
  refine ⟨List.length_filter_le _ _, fun x hx => ?_⟩
  have h := List.mem_filter.1 hx
  simp only [Bool.and_eq_true, decide_eq_true_eq] at h
  exact h
theorem fit_drop {l : List (List Int)} {i : Nat} (h : i < l.length) : fit (l.drop i) = (if 1 ≤ (l.getD i []).length ∧ (l.getD i []).length ≤ 32 then [l.getD i []] else []) ++ fit (l.drop (i + 1)) := by
  rw [getD_drop h]
  unfold fit
  rw [List.filter_cons]
  by_cases hc : 1 ≤ (l.getD i []).length ∧ (l.getD i []).length ≤ 32
  · rw [if_pos hc, if_pos (by simp only [Bool.and_eq_true, decide_eq_true_eq]; exact hc)]; rfl
  · rw [if_neg hc, if_neg (by simp only [Bool.and_eq_true, decide_eq_true_eq]; exact hc)]; rfl
theorem srt_le (l : List (List Int)) : (srt l).length ≤ l.length := by have := srt_len l l.length; rwa [List.take_length] at this
end Go.Proofs.Ytaiechbdcddalaa.Plain
