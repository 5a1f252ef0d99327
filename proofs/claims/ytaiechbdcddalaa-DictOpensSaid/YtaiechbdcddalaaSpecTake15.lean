/- Labels, taken (layer 15). -/
import Derived.Test.YtaiechbdcddalaaSpecWords
import Derived.Test.YtaiechbdcddalaaPrint6
import Derived.Test.YtaiechbdcddalaaPrint7
import Derived.Test.YtaiechbdcddalaaPrint2
set_option linter.unusedVariables false
set_option linter.unusedSimpArgs false
namespace Go.Proofs.Ytaiechbdcddalaa.Plain
open Go.RowKit Go.Proofs.YtaiechbdcddalaaW.PrintWords Go.Proofs.YtaiechbdcddalaaW.PrintLast Go.Proofs.YtaiechbdcddalaaW.PrintMore Go.Proofs.Ytaiechbdcddalaa.Print

theorem Concat2w {a b : List Int} (h : a.length + b.length < 140737488355000) : slices_Concat_byte_byte.f [a, b] = some (a ++ b) := by
  unfold slices_Concat_byte_byte.f catLen
  simp
  omega
theorem word_ev (a b : List Int) (ha : Bs a) (hb : Bs b) (hal : a.length ≤ 1000000) (hbl : b.length ≤ 1000000) : Ev (fun k => words_word.f k a b) (wordT a b) := by
  obtain ⟨f0, f1, f2, f3, _⟩ := takeN_facts hb
  have ht1 := vary_Take_ev b hb (by omega)
  unfold words_word.f wordT
  obtain ⟨n, c, e, hT⟩ : ∃ n c e, takeN b = (n, c, e) := ⟨_, _, _, rfl⟩
  rw [hT] at f0 f1 f2 f3 ht1 ⊢
  dsimp only at f0 f1 f2 f3 ht1 ⊢
  obtain ⟨g0, g1, g2, g3, _⟩ := takeN_facts f2
  have ht2 := vary_Take_ev c f2 (by omega)
  obtain ⟨m, d, e2, hT2⟩ : ∃ m d e2, takeN c = (m, d, e2) := ⟨_, _, _, rfl⟩
  rw [hT2] at g0 g1 g2 g3 ht2 ⊢
  dsimp only at g0 g1 g2 g3 ht2 ⊢
  have wa : IntKind.u64.wrap (a.length : Int) = (a.length : Int) := u64_in (by omega) (by omega)
  have wd : IntKind.u64.wrap (d.length : Int) = (d.length : Int) := u64_in (by omega) (by omega)
  have bad1 : ∀ t : Bool, t = true → Ev (fun k => words_word.j0 k a c n t) (([], [], false) : List Int × List Int × Bool) := by
    rintro t rfl
    exact Ev.step (fun k => words_word.j0.eq_2 _ _ _ _ _) (ev_pos rfl (ev_val rfl))
  have bad2 : ∀ t : Bool, t = true → Ev (fun k => words_word.j1 k a d n m t) (([], [], false) : List Int × List Int × Bool) := by
    rintro t rfl
    exact Ev.step (fun k => words_word.j1.eq_2 _ _ _ _ _ _) (ev_pos rfl (ev_val rfl))
  refine ev_bind ht1 ?_
  by_cases h1 : e = 0
  · refine ev_pos h1 ?_
    by_cases h2 : (a.length : Int) < n
    · rw [if_pos (.inr h2)]
      exact bad1 _ (decide_eq_true (by show n > IntKind.u64.wrap (a.length : Int); rw [wa]; omega))
    · rw [if_neg (by intro h; rcases h with h | h; exact h h1; exact h2 h)]
      rw [show decide (n > IntKind.u64.wrap (a.length : Int)) = false from decide_eq_false (by rw [wa]; omega)]
      refine Ev.step (fun k => words_word.j0.eq_2 _ _ _ _ _) (ev_neg (by decide) (ev_bind ht2 ?_))
      by_cases h3 : e2 = 0
      · refine ev_pos h3 ?_
        by_cases h4 : (d.length : Int) < m
        · rw [if_pos (.inr h4)]
          exact bad2 _ (decide_eq_true (by show m > IntKind.u64.wrap (d.length : Int); rw [wd]; omega))
        · rw [if_neg (by intro h; rcases h with h | h; exact h h3; exact h4 h)]
          rw [show decide (m > IntKind.u64.wrap (d.length : Int)) = false from decide_eq_false (by rw [wd]; omega)]
          clear bad1 bad2
          have hx : Bs (a.take n.toNat ++ d.take m.toNat) := (ha.take _).append (g2.take _)
          have hxl : (a.take n.toNat ++ d.take m.toNat).length ≤ 2000000 := by rw [List.length_append, List.length_take, List.length_take]; omega
          have hc := Concat2w (a := a.take n.toNat) (b := d.take m.toNat) (by rw [List.length_take, List.length_take]; omega)
          refine Ev.step (fun k => words_word.j1.eq_2 _ _ _ _ _ _) (ev_neg (by decide) (ev_pos f0 (ev_pos (by omega) (ev_pos g0 (ev_pos (by show m ≤ (d.length : Int); omega) (ev_got hc (ev_some (ev_got (follows_eq ha hx) ?_)))))))) 
          generalize a.take n.toNat ++ d.take m.toNat = x at *
          cases hw : wordOk a x with
          | true =>
            have hs := shN_le a x
            refine ev_pos rfl (ev_bind (Shared_ev a x (by omega) (by omega)) (ev_val ?_))
            rw [u64_in (by omega) (by omega), Bool.true_and]
            congr 2
          | false => exact ev_neg (by decide) (ev_val (by rw [Bool.false_and]))
      · rw [if_pos (.inl h3)]
        exact ev_neg h3 (bad2 _ rfl)
  · rw [if_pos (.inl h1)]
    exact ev_neg h1 (bad1 _ rfl)

theorem wordT_facts {a b : List Int} (ha : Bs a) (hb : Bs b) (h : (wordT a b).2.2 = true) : Bs (wordT a b).1 ∧ (wordT a b).1.length ≤ 32 ∧ Bs (wordT a b).2.1 ∧ (wordT a b).2.1.length ≤ b.length := by
  obtain ⟨h1, h2, h3⟩ := wordT_inv ha hb h
  have hb2 := hb
  rw [h2] at hb2
  have hl := congrArg List.length h2
  rw [List.length_append] at hl
  exact ⟨h3, (wordOk_iff.1 h1).2.1, Bs.of_append_right hb2, by omega⟩
theorem words_loop (N : Nat) (hN : N ≤ 16) : ∀ (m i : Nat) (acc : List (List Int)) (a b : List Int), i + m = N → acc.length = i → Bs a → Bs b → a.length ≤ 1000 → b.length ≤ 1000000 →
    Ev (fun k => words_Take.l0 k b acc a (N : Int) i) (if (wordsN m a b).2.2 = false then (([] : List (List Int)), (6 : Int)) else if 0 < (wordsN m a b).2.1.length then ([], 6) else (acc ++ (wordsN m a b).1, 0)) := by
  intro m
  induction m with
  | zero =>
    intro i acc a b hi hacc ha hb hal hbl
    refine Ev.step (fun k => words_Take.l0.eq_2 _ _ _ _ _ _) ?_
    refine ev_neg (by omega) ?_
    show Ev _ (if (true : Bool) = false then _ else if 0 < b.length then (([] : List (List Int)), (6 : Int)) else (acc ++ [], 0))
    rw [if_neg (show ¬ (true = false) by decide), List.append_nil]
    by_cases h : 0 < b.length
    · rw [if_pos h]; exact ev_pos (by omega) (ev_val rfl)
    · rw [if_neg h]; exact ev_neg (by omega) (ev_val rfl)
  | succ m ih =>
    intro i acc a b hi hacc ha hb hal hbl
    have hwe := word_ev a b ha hb (by omega) (by omega)
    have hw : IntKind.u64.wrap ((i : Int) + 1) = ((i + 1 : Nat) : Int) := by rw [u64_in (by omega) (by omega)]; omega
    refine Ev.step (fun k => words_Take.l0.eq_2 _ _ _ _ _ _) ?_
    rw [hw]
    clear hw
    refine ev_pos (by omega) (ev_bind hwe ?_)
    by_cases h : (wordT a b).2.2 = true
    · obtain ⟨f1, f2, f3, f4⟩ := wordT_facts ha hb h
      refine ev_pos h (ev_pos (by omega) (Ev.eq (ih (i + 1) (acc ++ [(wordT a b).1]) (wordT a b).1 (wordT a b).2.1 (by omega) (by rw [List.length_append, List.length_singleton]; omega) f1 f3 (by omega) (by omega)) ?_))
      have hne : ¬ (wordT a b).2.2 = false := by rw [h]; decide
      by_cases h2 : (wordsN m (wordT a b).1 (wordT a b).2.1).2.2 = false
      · have hs : wordsN (m + 1) a b = ([], [], false) := by rw [wordsN.eq_2, if_neg hne, if_pos h2]
        rw [if_pos h2, hs]; rfl
      · have hs : wordsN (m + 1) a b = ((wordT a b).1 :: (wordsN m (wordT a b).1 (wordT a b).2.1).1, (wordsN m (wordT a b).1 (wordT a b).2.1).2.1, true) := by rw [wordsN.eq_2, if_neg hne, if_neg h2]
        rw [if_neg h2, hs]
        simp
    · have hf : (wordT a b).2.2 = false := by cases hq : (wordT a b).2.2 with
        | true => exact absurd hq h
        | false => rfl
      refine ev_neg h (ev_val ?_)
      have hs : wordsN (m + 1) a b = ([], [], false) := by rw [wordsN.eq_2, if_pos hf]
      rw [hs]; rfl
theorem words_Take_ev (b : List Int) (hb : Bs b) (hbl : b.length ≤ 1000000) : Ev (fun k => words_Take.f k b) (wordsT b) := by
  obtain ⟨f0, f1, f2, f3, _⟩ := takeN_facts hb
  have ht := vary_Take_ev b hb (by omega)
  unfold words_Take.f wordsT
  obtain ⟨n, c, e, hT⟩ : ∃ n c e, takeN b = (n, c, e) := ⟨_, _, _, rfl⟩
  rw [hT] at f0 f1 f2 f3 ht ⊢
  dsimp only at f0 f1 f2 f3 ht ⊢
  have bad : ∀ t : Bool, t = true → Ev (fun k => words_Take.j0 k n c t) (([] : List (List Int)), (6 : Int)) := by
    rintro t rfl
    exact Ev.step (fun k => words_Take.j0.eq_2 _ _ _ _) (ev_pos rfl (ev_val rfl))
  refine ev_bind ht ?_
  by_cases h1 : e = 0
  · refine ev_pos h1 ?_
    by_cases h2 : n < 1
    · rw [if_pos (.inr (.inl h2))]
      exact ev_pos h2 (bad _ rfl)
    · refine ev_neg h2 ?_
      by_cases h3 : n > 16
      · rw [if_pos (.inr (.inr h3))]
        exact bad _ (decide_eq_true h3)
      · rw [if_neg (by intro h; rcases h with h | h | h; exact h h1; exact h2 h; exact h3 h), decide_eq_false h3]
        obtain ⟨N, rfl⟩ := Int.eq_ofNat_of_zero_le f0
        have := words_loop N (by omega) N 0 [] [] c (by omega) rfl Bs.nil f2 (by decide) (by omega)
        rw [List.nil_append] at this
        rw [Int.toNat_natCast]
        exact Ev.step (fun k => words_Take.j0.eq_2 _ _ _ _) (ev_neg (by decide) this)
  · rw [if_pos (.inl h1)]
    exact ev_neg h1 (bad _ rfl)

end Go.Proofs.Ytaiechbdcddalaa.Plain
