/- Plain laws of labels in few bytes (layer 15): what is put is taken, cut or followed it is not, and nothing else is taken. No program in sight. -/
import Derived.Test.YtaiechbdcddalaaSpecTools
set_option linter.unusedVariables false
set_option linter.unusedSimpArgs false
namespace Go.Proofs.Ytaiechbdcddalaa.Plain

/-! ### What two labels share -/
def shN : List Int → List Int → Nat
  | a :: x, b :: y => if a = b then shN x y + 1 else 0
  | _, _ => 0
theorem shN_nil (b : List Int) : shN [] b = 0 := by cases b <;> rfl
theorem shN_nil' (a : List Int) : shN a [] = 0 := by cases a <;> rfl
theorem shN_le (a : List Int) : ∀ b, shN a b ≤ a.length ∧ shN a b ≤ b.length := by
  induction a with
  | nil => intro b; rw [shN_nil]; exact ⟨Nat.zero_le _, Nat.zero_le _⟩
  | cons x a ih =>
    intro b
    cases b with
    | nil => exact ⟨Nat.zero_le _, Nat.zero_le _⟩
    | cons y b =>
      unfold shN
      split
      · have := ih b; simp only [List.length_cons]; omega
      · exact ⟨Nat.zero_le _, Nat.zero_le _⟩
theorem shN_take (a : List Int) : ∀ b, a.take (shN a b) = b.take (shN a b) := by
  induction a with
  | nil => intro b; rw [shN_nil]; simp
  | cons x a ih =>
    intro b
    cases b with
    | nil => rw [shN_nil']; simp
    | cons y b =>
      unfold shN
      by_cases h : x = y
      · rw [if_pos h, List.take_succ_cons, List.take_succ_cons, ih b, h]
      · rw [if_neg h]; simp
theorem shN_drop (a : List Int) : ∀ (b : List Int) (i : Nat), i < a.length → i < b.length → (if a.getD i 0 = b.getD i 0 then shN (a.drop (i + 1)) (b.drop (i + 1)) + 1 else 0) = shN (a.drop i) (b.drop i) := by
  intro b i ha hb
  rw [List.drop_eq_getElem_cons ha, List.drop_eq_getElem_cons hb]
  simp only [shN, List.getD_eq_getElem?_getD, List.getElem?_eq_getElem ha, List.getElem?_eq_getElem hb, Option.getD_some]
/-- A label begins with what it shares, and goes on. -/
theorem shN_split (a b : List Int) : a.take (shN a b) ++ b.drop (shN a b) = b := by rw [shN_take, List.take_append_drop]

/-! ### Labels that may stand behind another one -/
def wordOk (a x : List Int) : Bool := decide (1 ≤ x.length) && decide (x.length ≤ 32) && lexLess a x
def wordsOk (a : List Int) : List (List Int) → Bool
  | [] => true
  | x :: r => wordOk a x && wordsOk x r
def wordB (a x : List Int) : List Int := putN (shN a x) ++ putN (x.length - shN a x) ++ x.drop (shN a x)
def wordsB (a : List Int) : List (List Int) → List Int
  | [] => []
  | x :: r => wordB a x ++ wordsB x r
def wordsP (l : List (List Int)) : List Int × Int := if 1 ≤ l.length ∧ l.length ≤ 16 ∧ wordsOk [] l = true then (putN l.length ++ wordsB [] l, 0) else ([], 1)
def Bsl (l : List (List Int)) : Prop := ∀ x ∈ l, Bs x
theorem Bsl.head {x : List Int} {l : List (List Int)} (h : Bsl (x :: l)) : Bs x := h x (by simp)
theorem Bsl.tail {x : List Int} {l : List (List Int)} (h : Bsl (x :: l)) : Bsl l := fun y hy => h y (by simp [hy])
theorem wordOk_iff {a x : List Int} : wordOk a x = true ↔ 1 ≤ x.length ∧ x.length ≤ 32 ∧ lexLess a x = true := by
  unfold wordOk; simp [and_assoc]
theorem wordB_bs {a x : List Int} (h : Bs x) : Bs (wordB a x) := ((putN_bs _).append (putN_bs _)).append (h.drop _)
theorem wordsB_bs (l : List (List Int)) : ∀ a, Bsl l → Bs (wordsB a l) := by
  induction l with
  | nil => intro a _; exact Bs.nil
  | cons x l ih => intro a h; exact (wordB_bs h.head).append (ih x h.tail)
theorem wordsP_bs {l : List (List Int)} (h : Bsl l) : Bs (wordsP l).1 := by
  unfold wordsP; split
  · exact (putN_bs _).append (wordsB_bs l [] h)
  · exact Bs.nil
theorem wordB_len {a x : List Int} (h : x.length ≤ 127) : (wordB a x).length + shN a x = 2 + x.length := by
  have hs := (shN_le a x).2
  unfold wordB
  rw [putN_small (by omega), putN_small (by omega)]
  simp only [List.length_append, List.length_cons, List.length_nil, List.length_drop]; omega

/-! ### What bytes are -/
/-- The label that bytes begin with, and the others. -/
def wordT (a b : List Int) : List Int × List Int × Bool :=
  if (takeN b).2.2 ≠ 0 ∨ (a.length : Int) < (takeN b).1 then ([], [], false)
  else if (takeN (takeN b).2.1).2.2 ≠ 0 ∨ ((takeN (takeN b).2.1).2.1.length : Int) < (takeN (takeN b).2.1).1 then ([], [], false)
  else (a.take (takeN b).1.toNat ++ (takeN (takeN b).2.1).2.1.take (takeN (takeN b).2.1).1.toNat, (takeN (takeN b).2.1).2.1.drop (takeN (takeN b).2.1).1.toNat,
    wordOk a (a.take (takeN b).1.toNat ++ (takeN (takeN b).2.1).2.1.take (takeN (takeN b).2.1).1.toNat) && decide ((shN a (a.take (takeN b).1.toNat ++ (takeN (takeN b).2.1).2.1.take (takeN (takeN b).2.1).1.toNat) : Int) = (takeN b).1))
theorem wordT_put {a x : List Int} (h : wordOk a x = true) (r : List Int) : wordT a (wordB a x ++ r) = (x, r, true) := by
  obtain ⟨h1, h2, h3⟩ := wordOk_iff.1 h
  have hs := shN_le a x
  have hd : (x.drop (shN a x)).length = x.length - shN a x := List.length_drop ..
  have e1 := takeN_put (m := shN a x) (by omega) (putN (x.length - shN a x) ++ (x.drop (shN a x) ++ r))
  have e2 := takeN_put (m := x.length - shN a x) (by omega) (x.drop (shN a x) ++ r)
  have et : (x.drop (shN a x) ++ r).take (x.length - shN a x) = x.drop (shN a x) := by rw [← hd]; simp
  have ed : (x.drop (shN a x) ++ r).drop (x.length - shN a x) = r := by rw [← hd]; simp
  unfold wordT wordB
  rw [List.append_assoc, List.append_assoc, e1]
  simp only [e2, Int.toNat_natCast, et, ed]
  rw [if_neg (by omega), if_neg (by rw [List.length_append]; omega), shN_split, h]
  simp
/-- What is taken was put. -/
theorem wordT_inv {a b : List Int} (ha : Bs a) (hb : Bs b) (h : (wordT a b).2.2 = true) : wordOk a (wordT a b).1 = true ∧ b = wordB a (wordT a b).1 ++ (wordT a b).2.1 ∧ Bs (wordT a b).1 := by
  unfold wordT at h ⊢
  rcases takeN_only hb with ⟨n, r, hn, he, ht⟩ | ht | ht
  · rw [ht] at h ⊢
    simp only at h ⊢
    by_cases c1 : (0 : Int) ≠ 0 ∨ (a.length : Int) < (n : Int)
    · rw [if_pos c1] at h; exact absurd h (by simp)
    · rw [if_neg c1] at h ⊢
      have hr : Bs r := (he ▸ hb).of_append_right
      rcases takeN_only hr with ⟨k, s, hk, he2, ht2⟩ | ht2 | ht2
      · rw [ht2] at h ⊢
        simp only at h ⊢
        by_cases c2 : (0 : Int) ≠ 0 ∨ (s.length : Int) < (k : Int)
        · rw [if_pos c2] at h; exact absurd h (by simp)
        · rw [if_neg c2] at h ⊢
          simp only [Int.toNat_natCast, Bool.and_eq_true, decide_eq_true_eq] at h ⊢
          have hs : Bs s := (he2 ▸ hr).of_append_right
          have hsh : shN a (a.take n ++ s.take k) = n := by omega
          have hal : (a.take n).length = n := by rw [List.length_take]; omega
          have hsl : (s.take k).length = k := by rw [List.length_take]; omega
          refine ⟨h.1, ?_, (ha.take _).append (hs.take _)⟩
          unfold wordB
          rw [hsh]
          have hd : (a.take n ++ s.take k).drop n = s.take k := by
            have := List.drop_left (l₁ := a.take n) (l₂ := s.take k)
            rwa [hal] at this
          rw [hd, List.length_append, hal, hsl, show n + k - n = k by omega]
          rw [List.append_assoc, List.append_assoc, List.take_append_drop, ← he2, ← he]
      · rw [ht2] at h
        simp at h
      · rw [ht2] at h
        simp at h
  · rw [ht] at h; simp at h
  · rw [ht] at h; simp at h

/-- So many labels. -/
def wordsN : Nat → List Int → List Int → List (List Int) × List Int × Bool
  | 0, _, b => ([], b, true)
  | m + 1, a, b => if (wordT a b).2.2 = false then ([], [], false)
      else if (wordsN m (wordT a b).1 (wordT a b).2.1).2.2 = false then ([], [], false)
      else ((wordT a b).1 :: (wordsN m (wordT a b).1 (wordT a b).2.1).1, (wordsN m (wordT a b).1 (wordT a b).2.1).2.1, true)
def wordsT (b : List Int) : List (List Int) × Int :=
  if (takeN b).2.2 ≠ 0 ∨ (takeN b).1 < 1 ∨ 16 < (takeN b).1 then ([], 6)
  else if (wordsN (takeN b).1.toNat [] (takeN b).2.1).2.2 = false then ([], 6)
  else if 0 < (wordsN (takeN b).1.toNat [] (takeN b).2.1).2.1.length then ([], 6)
  else ((wordsN (takeN b).1.toNat [] (takeN b).2.1).1, 0)
theorem wordsN_put (l : List (List Int)) : ∀ (a r : List Int), wordsOk a l = true → wordsN l.length a (wordsB a l ++ r) = (l, r, true) := by
  induction l with
  | nil => intro a r _; rfl
  | cons x l ih =>
    intro a r h
    simp only [wordsOk, Bool.and_eq_true] at h
    have ht := wordT_put h.1 (wordsB x l ++ r)
    rw [show wordsB a (x :: l) ++ r = wordB a x ++ (wordsB x l ++ r) from List.append_assoc _ _ _, List.length_cons, wordsN, ht]
    simp only [ih x r h.2]
    rw [if_neg (by simp), if_neg (by simp)]
theorem wordsP_ok {l : List (List Int)} (h1 : 1 ≤ l.length) (h2 : l.length ≤ 16) (h : wordsOk [] l = true) : wordsP l = (putN l.length ++ wordsB [] l, 0) := by
  unfold wordsP; rw [if_pos ⟨h1, h2, h⟩]
theorem wordsT_put {l : List (List Int)} (h1 : 1 ≤ l.length) (h2 : l.length ≤ 16) (h : wordsOk [] l = true) : wordsT (wordsP l).1 = (l, 0) := by
  have hb := wordsN_put l [] [] h
  rw [List.append_nil] at hb
  rw [wordsP_ok h1 h2 h]
  unfold wordsT
  rw [takeN_put (by omega)]
  simp only [Int.toNat_natCast, hb]
  rw [if_neg (by omega), if_neg (by simp), if_neg (by simp)]
theorem wordsN_inv (m : Nat) : ∀ (a b : List Int), Bs a → Bs b → (wordsN m a b).2.2 = true → (wordsN m a b).1.length = m ∧ wordsOk a (wordsN m a b).1 = true ∧ Bsl (wordsN m a b).1 ∧ b = wordsB a (wordsN m a b).1 ++ (wordsN m a b).2.1 := by
  induction m with
  | zero => intro a b _ _ _; exact ⟨rfl, rfl, by intro x hx; simp [wordsN] at hx, rfl⟩
  | succ m ih =>
    intro a b ha hb h
    rw [wordsN] at h ⊢
    by_cases c1 : (wordT a b).2.2 = false
    · rw [if_pos c1] at h; exact absurd h (by simp)
    · rw [if_neg c1] at h ⊢
      by_cases c2 : (wordsN m (wordT a b).1 (wordT a b).2.1).2.2 = false
      · rw [if_pos c2] at h; exact absurd h (by simp)
      · rw [if_neg c2]
        obtain ⟨w1, w2, w3⟩ := wordT_inv ha hb (by simpa using c1)
        have hrest : Bs (wordT a b).2.1 := (w2 ▸ hb).of_append_right
        obtain ⟨i1, i2, i3, i4⟩ := ih (wordT a b).1 (wordT a b).2.1 w3 hrest (by simpa using c2)
        refine ⟨by simp only [List.length_cons, i1], by simp only [wordsOk, w1, i2, Bool.and_self], ?_, ?_⟩
        · intro x hx
          rcases List.mem_cons.1 hx with rfl | hx
          · exact w3
          · exact i3 x hx
        · show b = (wordB a (wordT a b).1 ++ wordsB (wordT a b).1 _) ++ _
          rw [List.append_assoc, ← i4]; exact w2
theorem wordsT_only {b : List Int} (hb : Bs b) : (∃ l : List (List Int), Bsl l ∧ 1 ≤ l.length ∧ l.length ≤ 16 ∧ wordsOk [] l = true ∧ wordsT b = (l, 0) ∧ b = (wordsP l).1) ∨ wordsT b = ([], 6) := by
  unfold wordsT
  rcases takeN_only hb with ⟨m, r, hm, he, ht⟩ | ht | ht
  · rw [ht]
    simp only [Int.toNat_natCast]
    by_cases c1 : (0 : Int) ≠ 0 ∨ (m : Int) < 1 ∨ 16 < (m : Int)
    · rw [if_pos c1]; exact .inr rfl
    · rw [if_neg c1]
      by_cases c2 : (wordsN m [] r).2.2 = false
      · rw [if_pos c2]; exact .inr rfl
      · rw [if_neg c2]
        by_cases c3 : 0 < (wordsN m [] r).2.1.length
        · rw [if_pos c3]; exact .inr rfl
        · rw [if_neg c3]
          obtain ⟨i1, i2, i3, i4⟩ := wordsN_inv m [] r Bs.nil (he ▸ hb).of_append_right (by simpa using c2)
          have hnil : (wordsN m [] r).2.1 = [] := List.eq_nil_of_length_eq_zero (by omega)
          rw [hnil, List.append_nil] at i4
          refine .inl ⟨_, i3, by omega, by omega, i2, rfl, ?_⟩
          rw [wordsP_ok (by omega) (by omega) i2, i1]
          show b = putN m ++ wordsB [] _
          rw [← i4]; exact he
  · rw [ht, if_pos (.inl (by simp))]; exact .inr rfl
  · rw [ht, if_pos (.inl (by simp))]; exact .inr rfl
end Go.Proofs.Ytaiechbdcddalaa.Plain
