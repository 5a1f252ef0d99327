/- What the printed functions of layer 15 (words, and its reference) compute, told by the plain laws. -/
import Derived.Test.YtaiechbdcddalaaSpecVT
import Derived.Test.YtaiechbdcddalaaMathWords
import Derived.Test.YtaiechbdcddalaaPrint1
import Derived.Test.YtaiechbdcddalaaPrint10
import Derived.Test.YtaiechbdcddalaaPrint2
set_option linter.unusedVariables false
set_option linter.unusedSimpArgs false
namespace Go.Proofs.Ytaiechbdcddalaa.Plain
open Go.RowKit Go.Proofs.YtaiechbdcddalaaW.PrintWords Go.Proofs.YtaiechbdcddalaaW.PrintLast Go.Proofs.YtaiechbdcddalaaW.PrintMore Go.Proofs.Ytaiechbdcddalaa.Print

theorem rd_getD' (l : List Int) (i : Nat) : rd l (i : Int) = l.getD i 0 := rfl
theorem rdw (l : List (List Int)) (i : Nat) : rd_L1 l (i : Int) = l.getD i [] := rfl
theorem getD_drop {l : List (List Int)} {i : Nat} (h : i < l.length) : l.drop i = l.getD i [] :: l.drop (i + 1) := by
  rw [List.drop_eq_getElem_cons h]; congr 1
  simp [List.getD_eq_getElem?_getD, List.getElem?_eq_getElem h]
theorem getD_mem {l : List (List Int)} {i : Nat} (h : i < l.length) : l.getD i [] ∈ l := by
  simp [List.getD_eq_getElem?_getD, List.getElem?_eq_getElem h]
/-! ### Less -/
theorem compare_lex {a b : List Int} (ha : Bs a) (hb : Bs b) : Lib.compareBytes (Lib.bytesOf a) (Lib.bytesOf b) < 0 ↔ lexLess a b = true := by
  induction a generalizing b with
  | nil => cases b with
    | nil => simp [Lib.bytesOf, Lib.compareBytes, lexLess]
    | cons y b => simp [Lib.bytesOf, Lib.compareBytes, lexLess]
  | cons x a ih => cases b with
    | nil => simp [Lib.bytesOf, Lib.compareBytes, lexLess]
    | cons y b =>
      have hx := ha.head
      have hy := hb.head
      have hlt : ∀ u v : Int, 0 ≤ u ∧ u < 256 → 0 ≤ v ∧ v < 256 → (UInt8.ofNat u.toNat < UInt8.ofNat v.toNat ↔ u < v) := by
        intro u v hu hv
        rw [UInt8.lt_iff_toNat_lt]
        simp only [UInt8.toNat_ofNat']
        omega
      show (if UInt8.ofNat x.toNat < UInt8.ofNat y.toNat then (-1 : Int) else if UInt8.ofNat y.toNat < UInt8.ofNat x.toNat then 1 else Lib.compareBytes (Lib.bytesOf a) (Lib.bytesOf b)) < 0 ↔ (decide (x < y) || (decide (x = y) && lexLess a b)) = true
      by_cases h1 : x < y
      · rw [if_pos ((hlt x y hx hy).2 h1)]; simp [h1]
      · rw [if_neg (fun h => h1 ((hlt x y hx hy).1 h))]
        by_cases h2 : y < x
        · rw [if_pos ((hlt y x hy hx).2 h2)]
          have : ¬ x = y := by omega
          simp [h1, this]
        · rw [if_neg (fun h => h2 ((hlt y x hy hx).1 h)), ih ha.tail hb.tail]
          have : x = y := by omega
          simp [h1, this]
theorem follows_eq {a x : List Int} (ha : Bs a) (hx : Bs x) : words_follows.f a x = some (wordOk a x) := by
  have hc := compare_lex ha hx
  unfold words_follows.f wordOk
  by_cases h1 : 1 ≤ x.length
  · rw [if_pos (by omega), decide_eq_true h1]
    by_cases h2 : x.length ≤ 32
    · rw [if_pos (by omega), decide_eq_true h2]
      unfold bytes_Compare.f
      rw [bind_got rfl]
      congr 1
      rw [Bool.eq_iff_iff, decide_eq_true_eq, hc]
      simp
    · rw [if_neg (by omega), decide_eq_false h2]; simp
  · rw [if_neg (by omega), decide_eq_false h1]; simp
/-! ### Shared -/
theorem Shared_loop (a b T : List Int) (ha : a.length ≤ 140737488355328) (hb : b.length ≤ 140737488355328) (hT : T = a.take (min a.length b.length)) : ∀ (d i : Nat), i + d = min a.length b.length →
    Ev (fun k => words_Shared.l0 k a b T T.length i) (((i + shN (a.drop i) (b.drop i) : Nat)) : Int) := by
  have hTl : T.length = min a.length b.length := by rw [hT, List.length_take]; omega
  intro d
  induction d with
  | zero =>
    intro i hi
    have h0 : shN (a.drop i) (b.drop i) = 0 := by
      rcases Nat.le_total a.length b.length with h | h
      · rw [List.drop_eq_nil_of_le (by omega), shN_nil]
      · rw [show b.drop i = [] from List.drop_eq_nil_of_le (by omega), shN_nil']
    rw [h0]
    refine Ev.step (fun k => words_Shared.l0.eq_2 _ _ _ _ _ _) ?_
    refine ev_neg (by omega) (ev_val ?_)
    unfold mn
    split <;> omega
  | succ d ih =>
    intro i hi
    have hw1 : wrap64 ((i : Int) + 1) = ((i + 1 : Nat) : Int) := by rw [w64_in (by omega) (by omega)]; omega
    have hsd := shN_drop a b i (by omega) (by omega)
    have hrT : rd T (i : Int) = a.getD i 0 := by
      rw [rd_getD', hT, List.getD_eq_getElem?_getD, List.getD_eq_getElem?_getD, List.getElem?_take, if_pos (show i < min a.length b.length by omega)]
    refine Ev.step (fun k => words_Shared.l0.eq_2 _ _ _ _ _ _) ?_
    rw [hw1, hrT, rd_getD']
    refine ev_pos (by omega) (ev_pos (by omega) (ev_pos (by omega) (ev_pos (by omega) ?_)))
    by_cases hc : b.getD i 0 = a.getD i 0
    · rw [if_pos hc.symm] at hsd
      refine ev_pos hc (Ev.eq (ih (i + 1) (by omega)) ?_)
      rw [← hsd]; omega
    · rw [if_neg (fun h => hc h.symm)] at hsd
      refine ev_neg hc (ev_val ?_)
      rw [← hsd]; omega
theorem Shared_ev (a b : List Int) (ha : a.length ≤ 140737488355328) (hb : b.length ≤ 140737488355328) : Ev (fun k => words_Shared.f k a b) (shN a b : Int) := by
  have hmn : mn (a.length : Int) (b.length : Int) = ((min a.length b.length : Nat) : Int) := by unfold mn; split <;> omega
  unfold words_Shared.f
  rw [hmn, Int.toNat_natCast]
  refine ev_pos (by omega) (ev_pos (by omega) ?_)
  have := Shared_loop a b _ ha hb rfl (min a.length b.length) 0 (by omega)
  rw [List.drop_zero, List.drop_zero, Nat.zero_add] at this
  exact this
theorem ref_Shared_loop (a b : List Int) (ha : a.length ≤ 140737488355328) (hb : b.length ≤ 140737488355328) : ∀ (d i : Nat), i + d = min a.length b.length →
    Ev (fun k => creelref15_Shared.l0 k a b i) (((i + shN (a.drop i) (b.drop i) : Nat)) : Int) := by
  intro d
  induction d with
  | zero =>
    intro i hi
    refine Ev.step (fun k => creelref15_Shared.l0.eq_2 _ _ _ _) ?_
    rcases Nat.lt_or_ge i a.length with h | h
    · rw [show b.drop i = [] from List.drop_eq_nil_of_le (by omega), shN_nil']
      exact ev_pos (by omega) (ev_neg (by omega) (ev_val rfl))
    · rw [List.drop_eq_nil_of_le (by omega), shN_nil]
      exact ev_neg (by omega) (ev_val rfl)
  | succ d ih =>
    intro i hi
    have hw1 : wrap64 ((i : Int) + 1) = ((i + 1 : Nat) : Int) := by rw [w64_in (by omega) (by omega)]; omega
    have hsd := shN_drop a b i (by omega) (by omega)
    refine Ev.step (fun k => creelref15_Shared.l0.eq_2 _ _ _ _) ?_
    rw [hw1, rd_getD', rd_getD']
    refine ev_pos (by omega) (ev_pos (by omega) (ev_pos (by omega) ?_))
    by_cases hc : a.getD i 0 = b.getD i 0
    · rw [if_pos hc] at hsd
      refine ev_pos hc (Ev.eq (ih (i + 1) (by omega)) ?_)
      rw [← hsd]; omega
    · rw [if_neg hc] at hsd
      refine ev_neg hc (ev_val ?_)
      rw [← hsd]; omega
theorem ref_Shared_ev (a b : List Int) (ha : a.length ≤ 140737488355328) (hb : b.length ≤ 140737488355328) : Ev (fun k => creelref15_Shared.f k a b) (shN a b : Int) := by
  unfold creelref15_Shared.f
  have := ref_Shared_loop a b ha hb (min a.length b.length) 0 (by omega)
  rw [List.drop_zero, List.drop_zero, Nat.zero_add] at this
  exact this
/-! ### Put -/
/-- Labels that are short. -/
def Lens (l : List (List Int)) : Prop := l.length ≤ 5000 ∧ ∀ x ∈ l, x.length ≤ 5000
def wordsRest (ahead : List Int) (l : List (List Int)) (out : List Int) : List Int × Int := if wordsOk ahead l = true then (out ++ wordsB ahead l, 0) else ([], 1)
theorem wordsRest_no {a x : List Int} {l : List (List Int)} (h : wordOk a x = false) (out : List Int) : wordsRest a (x :: l) out = ([], 1) := by
  unfold wordsRest
  rw [if_neg]
  simp [wordsOk, h]
theorem wordsRest_yes {a x : List Int} {l : List (List Int)} (h : wordOk a x = true) (out : List Int) : wordsRest a (x :: l) out = wordsRest x l (out ++ wordB a x) := by
  unfold wordsRest
  have e : wordsOk a (x :: l) = wordsOk x l := by simp [wordsOk, h]
  rw [e, List.append_assoc]
  rfl
theorem words_Put_loop (l : List (List Int)) (hb : Bsl l) (hl : Lens l) : ∀ (d i : Nat) (out ahead : List Int), i + d = l.length → Bs ahead → ahead.length ≤ 5000 → out.length ≤ 20 + 6000 * i →
    Ev (fun k => words_Put.l0 k out ahead l l.length i) (wordsRest ahead (l.drop i) out) := by
  intro d
  induction d with
  | zero =>
    intro i out ahead hi ha hal ho
    rw [List.drop_eq_nil_of_le (by omega)]
    refine Ev.step (fun k => words_Put.l0.eq_2 _ _ _ _ _ _) ?_
    refine ev_neg (by omega) (ev_val ?_)
    unfold wordsRest
    rw [if_pos (show wordsOk ahead [] = true from rfl)]
    simp [wordsB]
  | succ d ih =>
    intro i out ahead hi ha hal ho
    have hlen := hl.1
    have hw1 : wrap64 ((i : Int) + 1) = ((i + 1 : Nat) : Int) := by rw [w64_in (by omega) (by omega)]; omega
    have hx := hb _ (getD_mem (show i < l.length by omega))
    have hxl := hl.2 _ (getD_mem (show i < l.length by omega))
    refine Ev.step (fun k => words_Put.l0.eq_2 _ _ _ _ _ _) ?_
    rw [hw1, rdw, getD_drop (show i < l.length by omega)]
    generalize l.getD i [] = x at *
    refine ev_pos (by omega) (ev_pos (by omega) (ev_pos (by omega) (ev_got (follows_eq ha hx) ?_)))
    cases hwo : wordOk ahead x with
    | false =>
      rw [wordsRest_no hwo]
      exact ev_neg (by decide) (ev_val rfl)
    | true =>
      rw [wordsRest_yes hwo]
      have hs := shN_le ahead x
      have hsub : wrap64 ((x.length : Int) - (shN ahead x : Int)) = ((x.length - shN ahead x : Nat) : Int) := by rw [w64_in (by omega) (by omega)]; omega
      have h10a := putN_len10 (n := shN ahead x) (by omega)
      have h10b := putN_len10 (n := x.length - shN ahead x) (by omega)
      refine ev_pos rfl (ev_bind (Shared_ev ahead x (by omega) (by omega)) ?_)
      rw [hsub, u64_in (n := (shN ahead x : Int)) (by omega) (by omega), u64_in (n := ((x.length - shN ahead x : Nat) : Int)) (by omega) (by omega), Int.toNat_natCast]
      refine ev_bind (vary_Put_ev out (shN ahead x) (by omega) (by omega)) (ev_bind (vary_Put_ev _ (x.length - shN ahead x) (by omega) (by rw [List.length_append]; omega)) (ev_pos (by omega) (ev_pos (by omega) (ev_some (ev_pos ?_ ?_)))))
      · simp only [List.length_append, List.length_drop]; omega
      · have := ih (i + 1) (out ++ wordB ahead x) x (by omega) hx hxl (by unfold wordB; simp only [List.length_append, List.length_drop]; omega)
        unfold wordB at this ⊢
        rw [← List.append_assoc, ← List.append_assoc] at this ⊢
        exact this
theorem words_Put_ev (l : List (List Int)) (hb : Bsl l) (hl : Lens l) : Ev (fun k => words_Put.f k l) (wordsP l) := by
  have hlen := hl.1
  have hbad : ∀ b : Bool, b = true → wordsP l = ([], 1) → Ev (fun k => words_Put.j0 k l b) (wordsP l) := by
    rintro b rfl h
    rw [h]
    refine Ev.step (fun k => words_Put.j0.eq_2 _ _ _) ?_
    exact ev_pos rfl (ev_val rfl)
  unfold words_Put.f
  by_cases h1 : l.length < 1
  · exact ev_pos (by omega) (hbad _ rfl (by unfold wordsP; rw [if_neg (by omega)]))
  · refine ev_neg (by omega) ?_
    by_cases h2 : 16 < l.length
    · exact hbad _ (decide_eq_true (by omega)) (by unfold wordsP; rw [if_neg (by omega)])
    · rw [decide_eq_false (show ¬ (l.length : Int) > 16 by omega)]
      refine Ev.step (fun k => words_Put.j0.eq_2 _ _ _) ?_
      refine ev_neg (by decide) ?_
      rw [u64_in (n := (l.length : Int)) (by omega) (by omega)]
      have h10 := putN_len10 (n := l.length) (by omega)
      refine ev_bind (vary_Put_ev [] l.length (by omega) (by simp)) ?_
      rw [List.nil_append]
      have := words_Put_loop l hb hl l.length 0 (putN l.length) [] (by omega) Bs.nil (by simp) (by omega)
      rw [List.drop_zero] at this
      refine Ev.eq this ?_
      unfold wordsRest wordsP
      by_cases hok : wordsOk [] l = true
      · rw [if_pos hok, if_pos ⟨by omega, by omega, hok⟩]
      · rw [if_neg hok, if_neg (fun h => hok h.2.2)]
/-! ### The reference's Put -/
def okRest (l : List (List Int)) (i : Nat) : Bool := wordsOk (if i = 0 then [] else l.getD (i - 1) []) (l.drop i)
theorem ref_right_loop (l : List (List Int)) (hb : Bsl l) (hl : Lens l) : ∀ (d i : Nat), i + d = l.length →
    Ev (fun k => creelref15_right.l0 k l i) (okRest l i && (decide (1 ≤ l.length) && decide (l.length ≤ 16))) := by
  intro d
  induction d with
  | zero =>
    intro i hi
    refine Ev.step (fun k => creelref15_right.l0.eq_2 _ _ _) ?_
    have e : okRest l i = true := by unfold okRest; rw [List.drop_eq_nil_of_le (by omega)]; rfl
    rw [e, Bool.true_and]
    refine ev_neg (by omega) ?_
    by_cases h1 : 1 ≤ l.length
    · refine ev_pos (by omega) (ev_val ?_)
      rw [decide_eq_true h1, Bool.true_and]
      by_cases h2 : l.length ≤ 16
      · rw [decide_eq_true h2, decide_eq_true (by omega)]
      · rw [decide_eq_false h2, decide_eq_false (by omega)]
    · refine ev_neg (by omega) (ev_val ?_)
      rw [decide_eq_false h1, Bool.false_and]
  | succ d ih =>
    intro i hi
    have hlen := hl.1
    have hw1 : wrap64 ((i : Int) + 1) = ((i + 1 : Nat) : Int) := by rw [w64_in (by omega) (by omega)]; omega
    have hx := hb _ (getD_mem (show i < l.length by omega))
    have hxl := hl.2 _ (getD_mem (show i < l.length by omega))
    have hi1 := ih (i + 1) (by omega)
    have hok1 : okRest l (i + 1) = wordsOk (l.getD i []) (l.drop (i + 1)) := by unfold okRest; rw [if_neg (by omega), Nat.add_sub_cancel]
    have hok0 : okRest l i = (wordOk (if i = 0 then [] else l.getD (i - 1) []) (l.getD i []) && wordsOk (l.getD i []) (l.drop (i + 1))) := by
      unfold okRest; rw [getD_drop (show i < l.length by omega)]; rfl
    rw [hok1] at hi1
    rw [hok0]
    refine Ev.step (fun k => creelref15_right.l0.eq_2 _ _ _) ?_
    rw [hw1, rdw]
    refine ev_pos (by omega) (ev_pos (by omega) ?_)
    by_cases c1 : (l.getD i []).length < 1
    · have e : wordOk (if i = 0 then [] else l.getD (i - 1) []) (l.getD i []) = false := by unfold wordOk; rw [decide_eq_false (by omega)]; rfl
      rw [e]
      exact ev_pos (by omega) (ev_val rfl)
    · refine ev_neg (by omega) ?_
      by_cases c2 : 32 < (l.getD i []).length
      · have e : wordOk (if i = 0 then [] else l.getD (i - 1) []) (l.getD i []) = false := by unfold wordOk; rw [decide_eq_false (show ¬ (l.getD i []).length ≤ 32 by omega)]; simp
        rw [e]
        exact ev_pos (by omega) (ev_val rfl)
      · refine ev_neg (by omega) ?_
        by_cases c3 : i = 0
        · have e : wordOk (if i = 0 then [] else l.getD (i - 1) []) (l.getD i []) = true := by
            rw [if_pos c3]
            refine wordOk_iff.2 ⟨by omega, by omega, ?_⟩
            cases hh : l.getD i [] with
            | nil => rw [hh] at c1; simp at c1
            | cons y r => rfl
          rw [e, Bool.true_and]
          exact ev_neg (by omega) hi1
        · have hp := hb _ (getD_mem (show i - 1 < l.length by omega))
          have hw2 : wrap64 ((i : Int) - 1) = ((i - 1 : Nat) : Int) := by rw [w64_in (by omega) (by omega)]; omega
          rw [hw2, rdw]
          refine ev_pos (by omega) (ev_pos (by omega) (ev_pos (by omega) ?_))
          have hless := less_lex hp hx
          rw [if_neg c3]
          cases hlx : lexLess (l.getD (i - 1) []) (l.getD i []) with
          | true =>
            have e : wordOk (l.getD (i - 1) []) (l.getD i []) = true := wordOk_iff.2 ⟨by omega, by omega, hlx⟩
            rw [e, Bool.true_and]
            exact ev_pos (by rw [hless, hlx]) hi1
          | false =>
            have e : wordOk (l.getD (i - 1) []) (l.getD i []) = false := by unfold wordOk; rw [hlx, Bool.and_false]
            rw [e]
            exact ev_neg (by rw [hless, hlx]; decide) (ev_val rfl)
theorem ref_right_ev (l : List (List Int)) (hb : Bsl l) (hl : Lens l) : Ev (fun k => creelref15_right.f k l) (wordsOk [] l && (decide (1 ≤ l.length) && decide (l.length ≤ 16))) := by
  unfold creelref15_right.f
  exact ref_right_loop l hb hl l.length 0 (by omega)
theorem ref15_Put_loop (l : List (List Int)) (hb : Bsl l) (hl : Lens l) : ∀ (d i : Nat) (out ahead : List Int), i + d = l.length → Bs ahead → ahead.length ≤ 5000 → out.length ≤ 20 + 6000 * i →
    Ev (fun k => creelref15_Put.l0 k l out ahead i) (out ++ wordsB ahead (l.drop i), 0) := by
  intro d
  induction d with
  | zero =>
    intro i out ahead hi ha hal ho
    rw [List.drop_eq_nil_of_le (by omega)]
    refine Ev.step (fun k => creelref15_Put.l0.eq_2 _ _ _ _ _) ?_
    refine ev_neg (by omega) (ev_val ?_)
    simp [wordsB]
  | succ d ih =>
    intro i out ahead hi ha hal ho
    have hlen := hl.1
    have hw1 : wrap64 ((i : Int) + 1) = ((i + 1 : Nat) : Int) := by rw [w64_in (by omega) (by omega)]; omega
    have hx := hb _ (getD_mem (show i < l.length by omega))
    have hxl := hl.2 _ (getD_mem (show i < l.length by omega))
    refine Ev.step (fun k => creelref15_Put.l0.eq_2 _ _ _ _ _) ?_
    rw [hw1, rdw, getD_drop (show i < l.length by omega)]
    generalize l.getD i [] = x at *
    have hs := shN_le ahead x
    have hsub : wrap64 ((x.length : Int) - (shN ahead x : Int)) = ((x.length - shN ahead x : Nat) : Int) := by rw [w64_in (by omega) (by omega)]; omega
    have h10a := putN_len10 (n := shN ahead x) (by omega)
    have h10b := putN_len10 (n := x.length - shN ahead x) (by omega)
    refine ev_pos (by omega) (ev_pos (by omega) (ev_bind (ref_Shared_ev ahead x (by omega) (by omega)) ?_))
    rw [hsub, u64_in (n := (shN ahead x : Int)) (by omega) (by omega), u64_in (n := ((x.length - shN ahead x : Nat) : Int)) (by omega) (by omega), Int.toNat_natCast]
    refine ev_bind (ref_Put1_ev out (shN ahead x) (by omega) (by omega)) (ev_bind (ref_Put1_ev _ (x.length - shN ahead x) (by omega) (by rw [List.length_append]; omega)) (ev_pos (by omega) (ev_pos (by omega) (ev_some (ev_pos ?_ ?_)))))
    · simp only [List.length_append, List.length_drop]; omega
    · have := ih (i + 1) (out ++ wordB ahead x) x (by omega) hx hxl (by unfold wordB; simp only [List.length_append, List.length_drop]; omega)
      rw [show wordsB ahead (x :: l.drop (i + 1)) = wordB ahead x ++ wordsB x (l.drop (i + 1)) from rfl, ← List.append_assoc]
      unfold wordB at this ⊢
      rw [← List.append_assoc, ← List.append_assoc] at this ⊢
      exact this
theorem ref15_Put_ev (l : List (List Int)) (hb : Bsl l) (hl : Lens l) : Ev (fun k => creelref15_Put.f k l) (wordsP l) := by
  have hlen := hl.1
  unfold creelref15_Put.f
  refine ev_bind (ref_right_ev l hb hl) ?_
  by_cases hok : 1 ≤ l.length ∧ l.length ≤ 16 ∧ wordsOk [] l = true
  · have e : (wordsOk [] l && (decide (1 ≤ l.length) && decide (l.length ≤ 16))) = true := by simp [hok.1, hok.2.1, hok.2.2]
    refine ev_pos e ?_
    rw [u64_in (n := (l.length : Int)) (by omega) (by omega), wordsP_ok hok.1 hok.2.1 hok.2.2]
    have h10 := putN_len10 (n := l.length) (by omega)
    refine ev_bind (ref_Put1_ev [] l.length (by omega) (by simp)) ?_
    rw [List.nil_append]
    have := ref15_Put_loop l hb hl l.length 0 (putN l.length) [] (by omega) Bs.nil (by simp) (by omega)
    rw [List.drop_zero] at this
    exact this
  · have e : ¬ (wordsOk [] l && (decide (1 ≤ l.length) && decide (l.length ≤ 16))) = true := by
      intro h
      simp only [Bool.and_eq_true, decide_eq_true_eq] at h
      exact hok ⟨h.2.1, h.2.2, h.1⟩
    refine ev_neg e (ev_val ?_)
    unfold wordsP
    rw [if_neg hok]
/-! ### few, the examples -/
end Go.Proofs.Ytaiechbdcddalaa.Plain
