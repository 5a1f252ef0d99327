/- Plain laws of neighbours in few bytes (layer 17): what is put is taken, cut it is not, and nothing else is taken. No program in sight. -/
import Derived.Test.YtnkjbgoibmbmoaaMathVary
set_option linter.unusedVariables false
set_option linter.unusedSimpArgs false
namespace Go.Proofs.Ytnkjbgoibmbmoaa.Plain

def zigZ (n : Int) : Int := if n < 0 then -2 * n - 1 else 2 * n
def zagZ (n : Int) : Int := if n % 2 = 1 then -(n / 2) - 1 else n / 2
theorem zig_nonneg (n : Int) : 0 ≤ zigZ n := by unfold zigZ; split <;> omega
theorem zag_zig (n : Int) : zagZ (zigZ n) = n := by
  unfold zagZ zigZ
  by_cases h : n < 0
  · rw [if_pos h, if_pos (by omega)]; omega
  · rw [if_neg h, if_neg (by omega)]; omega
theorem zig_zag {n : Int} (h : 0 ≤ n) : zigZ (zagZ n) = n := by
  unfold zagZ zigZ
  by_cases h1 : n % 2 = 1
  · rw [if_pos h1, if_pos (by omega)]; omega
  · rw [if_neg h1, if_neg (by omega)]; omega
theorem zig_lt {n : Int} (h0 : -4294967296 < n) (h1 : n < 4294967296) : zigZ n < 17179869184 := by unfold zigZ; split <;> omega

/-- Numbers of 32 bits. -/
def Us (l : List Int) : Prop := ∀ x ∈ l, 0 ≤ x ∧ x < 4294967296
theorem Us.nil : Us [] := by intro x h; simp at h
theorem Us.head {x : Int} {l : List Int} (h : Us (x :: l)) : 0 ≤ x ∧ x < 4294967296 := h x (by simp)
theorem Us.tail {x : Int} {l : List Int} (h : Us (x :: l)) : Us l := fun y hy => h y (by simp [hy])
theorem Us.cons {x : Int} {l : List Int} (h0 : 0 ≤ x) (h1 : x < 4294967296) (h : Us l) : Us (x :: l) := by
  intro y hy
  rcases List.mem_cons.1 hy with rfl | hy
  · exact ⟨h0, h1⟩
  · exact h y hy
theorem Us.take {l : List Int} (h : Us l) (n : Nat) : Us (l.take n) := fun x hx => h x (List.mem_of_mem_take hx)
theorem Us.drop {l : List Int} (h : Us l) (n : Nat) : Us (l.drop n) := fun x hx => h x (List.mem_of_mem_drop hx)
theorem Us.append {l m : List Int} (h : Us l) (k : Us m) : Us (l ++ m) := by
  intro x hx
  rcases List.mem_append.1 hx with hx | hx
  · exact h x hx
  · exact k x hx

/-- Numbers behind one, by their gaps. -/
def gapB (p : Int) : List Int → List Int
  | [] => []
  | n :: r => putN (n - p - 1).toNat ++ gapB n r
/-- Do they rise, behind one? -/
def risesB (p : Int) : List Int → Bool
  | [] => true
  | n :: r => decide (p < n) && risesB n r
/-- Do they rise? -/
def rises : List Int → Bool
  | [] => true
  | n :: r => risesB n r
/-- A vertex's neighbours, without how many there are. -/
def bodyG (v : Int) : List Int → List Int
  | [] => []
  | n :: r => putN (zigZ (n - v)).toNat ++ gapB n r
def gapsP (v : Int) (l : List Int) : List Int × Int := if rises l = true then (putN l.length ++ bodyG v l, 0) else ([], 1)

theorem gapB_bs (l : List Int) : ∀ p, Bs (gapB p l) := by
  induction l with
  | nil => intro p; exact Bs.nil
  | cons n r ih => intro p; exact (putN_bs _).append (ih n)
theorem bodyG_bs (v : Int) (l : List Int) : Bs (bodyG v l) := by
  cases l with
  | nil => exact Bs.nil
  | cons n r => exact (putN_bs _).append (gapB_bs r n)
theorem gapsP_bs (v : Int) (l : List Int) : Bs (gapsP v l).1 := by
  unfold gapsP; split
  · exact (putN_bs _).append (bodyG_bs v l)
  · exact Bs.nil
theorem gapB_len (l : List Int) : ∀ p, l.length ≤ (gapB p l).length := by
  induction l with
  | nil => intro p; simp
  | cons n r ih => intro p; have := ih n; have := putN_ne (n - p - 1).toNat; simp only [gapB, List.length_append, List.length_cons]; omega
theorem bodyG_len (v : Int) (l : List Int) : l.length ≤ (bodyG v l).length := by
  cases l with
  | nil => simp
  | cons n r => have := gapB_len r n; have := putN_ne (zigZ (n - v)).toNat; simp only [bodyG, List.length_append, List.length_cons]; omega

/-- The numbers that bytes are: so many, behind one, the first of them as a number that may be below 0. -/
def gapsN : Nat → Bool → Int → List Int → List Int × List Int × Int
  | 0, _, _, b => ([], b, 0)
  | m + 1, f, p, b =>
    if (takeN b).2.2 ≠ 0 ∨ 17179869184 ≤ (takeN b).1 then ([], [], 6)
    else if p + (if f then zagZ (takeN b).1 else (takeN b).1 + 1) < 0 ∨ 4294967295 < p + (if f then zagZ (takeN b).1 else (takeN b).1 + 1) then ([], [], 6)
    else if (gapsN m false (p + (if f then zagZ (takeN b).1 else (takeN b).1 + 1)) (takeN b).2.1).2.2 ≠ 0 then ([], [], 6)
    else ((p + (if f then zagZ (takeN b).1 else (takeN b).1 + 1)) :: (gapsN m false (p + (if f then zagZ (takeN b).1 else (takeN b).1 + 1)) (takeN b).2.1).1, (gapsN m false (p + (if f then zagZ (takeN b).1 else (takeN b).1 + 1)) (takeN b).2.1).2.1, 0)
def gapsT (v : Int) (b : List Int) : List Int × Int :=
  if (takeN b).2.2 ≠ 0 ∨ ((takeN b).2.1.length : Int) < (takeN b).1 then ([], 6)
  else if (gapsN (takeN b).1.toNat true v (takeN b).2.1).2.2 ≠ 0 then ([], 6)
  else if 0 < (gapsN (takeN b).1.toNat true v (takeN b).2.1).2.1.length then ([], 6)
  else ((gapsN (takeN b).1.toNat true v (takeN b).2.1).1, 0)

theorem gapsN_next {m : Nat} {f : Bool} {p n : Int} {b r : List Int} {x : Int} (h : takeN b = (x, r, 0)) (hx : x < 17179869184) (hn : p + (if f then zagZ x else x + 1) = n) (h0 : 0 ≤ n) (h1 : n ≤ 4294967295) (hz : (gapsN m false n r).2.2 = 0) :
    gapsN (m + 1) f p b = (n :: (gapsN m false n r).1, (gapsN m false n r).2.1, 0) := by
  rw [gapsN, h]
  simp only [hn]
  rw [if_neg (by omega), if_neg (by omega), if_neg (by omega)]
/-- What was put is taken. -/
theorem gapsN_put (l : List Int) : ∀ (p : Int) (r : List Int), 0 ≤ p → p < 4294967296 → Us l → risesB p l = true → gapsN l.length false p (gapB p l ++ r) = (l, r, 0) := by
  induction l with
  | nil => intro p r _ _ _ _; rfl
  | cons n l ih =>
    intro p r h0 h1 hu hr
    simp only [risesB, Bool.and_eq_true, decide_eq_true_eq] at hr
    have hn := hu.head
    have hi := ih n r hn.1 hn.2 hu.tail hr.2
    have ht := takeN_put (m := (n - p - 1).toNat) (by omega) (gapB n l ++ r)
    rw [show gapB p (n :: l) ++ r = putN (n - p - 1).toNat ++ (gapB n l ++ r) from List.append_assoc _ _ _, List.length_cons]
    rw [gapsN_next (n := n) ht (by omega) (by simp; omega) hn.1 (by omega) (by rw [hi]), hi]
theorem gapsN_body (v : Int) (l r : List Int) (h0 : 0 ≤ v) (h1 : v < 4294967296) (hu : Us l) (hr : rises l = true) : gapsN l.length true v (bodyG v l ++ r) = (l, r, 0) := by
  cases l with
  | nil => rfl
  | cons n l =>
    have hn := hu.head
    have hi := gapsN_put l n r hn.1 hn.2 hu.tail hr
    have hz := zig_lt (n := n - v) (by omega) (by omega)
    have hz0 := zig_nonneg (n - v)
    have ht := takeN_put (m := (zigZ (n - v)).toNat) (by omega) (gapB n l ++ r)
    rw [show bodyG v (n :: l) ++ r = putN (zigZ (n - v)).toNat ++ (gapB n l ++ r) from List.append_assoc _ _ _, List.length_cons]
    rw [gapsN_next (n := n) ht (by omega) (by rw [if_pos rfl, show ((zigZ (n - v)).toNat : Int) = zigZ (n - v) by omega, zag_zig]; omega) hn.1 (by omega) (by rw [hi]), hi]
theorem gapsT_put (v : Int) (l : List Int) (h0 : 0 ≤ v) (h1 : v < 4294967296) (hu : Us l) (hr : rises l = true) (hl : l.length < 18446744073709551616) : gapsT v (gapsP v l).1 = (l, 0) := by
  have hb := gapsN_body v l [] h0 h1 hu hr
  rw [List.append_nil] at hb
  have hbl := bodyG_len v l
  unfold gapsT gapsP
  rw [if_pos hr, takeN_put hl]
  simp only [Int.toNat_natCast, hb]
  rw [if_neg (by omega), if_neg (by decide), if_neg (by simp)]

/-- What is taken was put. -/
theorem gapsN_inv (m : Nat) : ∀ (p : Int) (b : List Int), 0 ≤ p → p < 4294967296 → Bs b → (gapsN m false p b).2.2 = 0 →
    (gapsN m false p b).1.length = m ∧ Us (gapsN m false p b).1 ∧ risesB p (gapsN m false p b).1 = true ∧ b = gapB p (gapsN m false p b).1 ++ (gapsN m false p b).2.1 := by
  induction m with
  | zero => intro p b _ _ _ _; exact ⟨rfl, Us.nil, rfl, rfl⟩
  | succ m ih =>
    intro p b h0 h1 hb hz
    rcases takeN_only hb with ⟨x, r, hx, he, ht⟩ | ht | ht
    · rw [gapsN, ht] at hz ⊢
      simp only [Bool.false_eq_true, if_false] at hz ⊢
      by_cases c1 : (0 : Int) ≠ 0 ∨ 17179869184 ≤ (x : Int)
      · rw [if_pos c1] at hz; exact absurd hz (by decide)
      · rw [if_neg c1] at hz ⊢
        by_cases c2 : p + ((x : Int) + 1) < 0 ∨ 4294967295 < p + ((x : Int) + 1)
        · rw [if_pos c2] at hz; exact absurd hz (by decide)
        · rw [if_neg c2] at hz ⊢
          by_cases c3 : (gapsN m false (p + ((x : Int) + 1)) r).2.2 ≠ 0
          · rw [if_pos c3] at hz; exact absurd hz (by decide)
          · rw [if_neg c3]
            obtain ⟨i1, i2, i3, i4⟩ := ih (p + ((x : Int) + 1)) r (by omega) (by omega) (he ▸ hb).of_append_right (by omega)
            refine ⟨by simp only [List.length_cons, i1], Us.cons (by omega) (by omega) i2, ?_, ?_⟩
            · simp only [risesB, Bool.and_eq_true, decide_eq_true_eq]; exact ⟨by omega, i3⟩
            · simp only [gapB, List.append_assoc]
              rw [← i4, show (p + ((x : Int) + 1) - p - 1).toNat = x by omega]; exact he
    · rw [gapsN, ht, if_pos (.inl (by decide))] at hz; exact absurd hz (by decide)
    · rw [gapsN, ht, if_pos (.inl (by decide))] at hz; exact absurd hz (by decide)
theorem gapsN_body_inv (m : Nat) (v : Int) (b : List Int) (h0 : 0 ≤ v) (h1 : v < 4294967296) (hb : Bs b) (hz : (gapsN m true v b).2.2 = 0) :
    (gapsN m true v b).1.length = m ∧ Us (gapsN m true v b).1 ∧ rises (gapsN m true v b).1 = true ∧ b = bodyG v (gapsN m true v b).1 ++ (gapsN m true v b).2.1 := by
  cases m with
  | zero => exact ⟨rfl, Us.nil, rfl, rfl⟩
  | succ m =>
    rcases takeN_only hb with ⟨x, r, hx, he, ht⟩ | ht | ht
    · rw [gapsN, ht] at hz ⊢
      simp only [if_true] at hz ⊢
      by_cases c1 : (0 : Int) ≠ 0 ∨ 17179869184 ≤ (x : Int)
      · rw [if_pos c1] at hz; exact absurd hz (by decide)
      · rw [if_neg c1] at hz ⊢
        by_cases c2 : v + zagZ (x : Int) < 0 ∨ 4294967295 < v + zagZ (x : Int)
        · rw [if_pos c2] at hz; exact absurd hz (by decide)
        · rw [if_neg c2] at hz ⊢
          by_cases c3 : (gapsN m false (v + zagZ (x : Int)) r).2.2 ≠ 0
          · rw [if_pos c3] at hz; exact absurd hz (by decide)
          · rw [if_neg c3]
            obtain ⟨i1, i2, i3, i4⟩ := gapsN_inv m (v + zagZ (x : Int)) r (by omega) (by omega) (he ▸ hb).of_append_right (by omega)
            refine ⟨by simp only [List.length_cons, i1], Us.cons (by omega) (by omega) i2, i3, ?_⟩
            simp only [bodyG, List.append_assoc]
            rw [← i4, show v + zagZ (x : Int) - v = zagZ (x : Int) by omega, zig_zag (Int.natCast_nonneg x), Int.toNat_natCast]; exact he
    · rw [gapsN, ht, if_pos (.inl (by decide))] at hz; exact absurd hz (by decide)
    · rw [gapsN, ht, if_pos (.inl (by decide))] at hz; exact absurd hz (by decide)
theorem gapsT_only {v : Int} {b : List Int} (h0 : 0 ≤ v) (h1 : v < 4294967296) (hb : Bs b) : (∃ l : List Int, Us l ∧ rises l = true ∧ l.length ≤ b.length ∧ gapsT v b = (l, 0) ∧ b = (gapsP v l).1) ∨ gapsT v b = ([], 6) := by
  unfold gapsT
  rcases takeN_only hb with ⟨x, r, hx, he, ht⟩ | ht | ht
  · rw [ht]
    simp only [Int.toNat_natCast]
    by_cases c1 : (0 : Int) ≠ 0 ∨ (r.length : Int) < (x : Int)
    · rw [if_pos c1]; exact .inr rfl
    · rw [if_neg c1]
      by_cases c2 : (gapsN x true v r).2.2 ≠ 0
      · rw [if_pos c2]; exact .inr rfl
      · rw [if_neg c2]
        by_cases c3 : 0 < (gapsN x true v r).2.1.length
        · rw [if_pos c3]; exact .inr rfl
        · rw [if_neg c3]
          obtain ⟨i1, i2, i3, i4⟩ := gapsN_body_inv x v r h0 h1 (he ▸ hb).of_append_right (by omega)
          have hnil : (gapsN x true v r).2.1 = [] := List.eq_nil_of_length_eq_zero (by omega)
          rw [hnil, List.append_nil] at i4
          refine .inl ⟨_, i2, i3, ?_, rfl, ?_⟩
          · rw [i1, he, List.length_append]; omega
          · unfold gapsP
            rw [if_pos i3, i1]
            show b = putN x ++ bodyG v _
            rw [← i4]; exact he
  · rw [ht, if_pos (.inl (by decide))]; exact .inr rfl
  · rw [ht, if_pos (.inl (by decide))]; exact .inr rfl

/-! ### Numbers that rise, of some -/
def Rise (l : List Int) : Prop := ∀ i j : Nat, i < j → j < l.length → l.getD i 0 < l.getD j 0
theorem risesB_iff (l : List Int) : ∀ p, risesB p l = true ↔ (∀ i, i < l.length → p < l.getD i 0) ∧ Rise l := by
  induction l with
  | nil => intro p; exact ⟨fun _ => ⟨fun i hi => by simp at hi, fun i j _ hj => by simp at hj⟩, fun _ => rfl⟩
  | cons n r ih =>
    intro p
    simp only [risesB, Bool.and_eq_true, decide_eq_true_eq, ih n]
    constructor
    · rintro ⟨h1, h2, h3⟩
      refine ⟨fun i hi => ?_, fun i j hij hj => ?_⟩
      · cases i with
        | zero => simpa using h1
        | succ i =>
          have := h2 i (by simpa using hi)
          simp only [List.getD_cons_succ]; omega
      · cases j with
        | zero => omega
        | succ j =>
          cases i with
          | zero => simpa using h2 j (by simpa using hj)
          | succ i => simpa using h3 i j (by omega) (by simpa using hj)
    · rintro ⟨h1, h2⟩
      refine ⟨by simpa using h1 0 (by simp), fun i hi => by simpa using h2 0 (i + 1) (by omega) (by simpa using hi), fun i j hij hj => by simpa using h2 (i + 1) (j + 1) (by omega) (by simpa using hj)⟩
theorem rises_iff (l : List Int) : rises l = true ↔ Rise l := by
  cases l with
  | nil => exact ⟨fun _ i j _ hj => by simp at hj, fun _ => rfl⟩
  | cons n r =>
    show risesB n r = true ↔ _
    rw [risesB_iff]
    constructor
    · rintro ⟨h1, h2⟩ i j hij hj
      cases j with
      | zero => omega
      | succ j =>
        cases i with
        | zero => simpa using h1 j (by simpa using hj)
        | succ i => simpa using h2 i j (by omega) (by simpa using hj)
    · intro h
      exact ⟨fun i hi => by simpa using h 0 (i + 1) (by omega) (by simpa using hi), fun i j hij hj => by simpa using h (i + 1) (j + 1) (by omega) (by simpa using hj)⟩
/-! ### Who leaves out the last -/
end Go.Proofs.Ytnkjbgoibmbmoaa.Plain
