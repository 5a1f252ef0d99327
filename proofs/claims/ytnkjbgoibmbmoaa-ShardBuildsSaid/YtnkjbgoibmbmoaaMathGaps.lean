/- Plain laws of neighbours in few bytes (layer 17): what is put is taken, cut it is not, and nothing else is taken. No program in sight. -/
import Derived.Test.YtnkjbgoibmbmoaaMathVary
set_option linter.unusedVariables false
set_option linter.unusedSimpArgs false
namespace Go.Proofs.Ytnkjbgoibmbmoaa.Plain

def zigZ (n : Int) : Int := if n < 0 then -2 * n - 1 else 2 * n
def zagZ (n : Int) : Int := if n % 2 = 1 then -(n / 2) - 1 else n / 2
theorem zig_nonneg (n : Int) : 0 ≤ zigZ n := by unfold zigZ; split <;> omega
theorem zag_zig (n : Int) : zagZ (zigZ n) = n := by
  unfold zagZ zigZ
  by_cases h : n < 0
  · rw [if_pos h, if_pos (by omega)]; omega
  · rw [if_neg h, if_neg (by omega)]; omega
theorem zig_zag {n : Int} (h : 0 ≤ n) : zigZ (zagZ n) = n := by
  unfold zagZ zigZ
  by_cases h1 : n % 2 = 1
  · rw [if_pos h1, if_pos (by omega)]; omega
  · rw [if_neg h1, if_neg (by omega)]; omega
theorem zig_lt {n : Int} (h0 : -4294967296 < n) (h1 : n < 4294967296) : zigZ n < 17179869184 := by unfold zigZ; split <;> omega

/-- Numbers of 32 bits. -/
def Us (l : List Int) : Prop := ∀ x ∈ l, 0 ≤ x ∧ x < 4294967296
theorem Us.nil : Us [] := by intro x h; simp at h
theorem Us.head {x : Int} {l : List Int} (h : Us (x :: l)) : 0 ≤ x ∧ x < 4294967296 := h x (by simp)
theorem Us.tail {x : Int} {l : List Int} (h : Us (x :: l)) : Us l := fun y hy => h y (by simp [hy])
theorem Us.cons {x : Int} {l : List Int} (h0 : 0 ≤ x) (h1 : x < 4294967296) (h : Us l) : Us (x :: l) := by
  intro y hy
  rcases List.mem_cons.1 hy with rfl | hy
  · exact ⟨h0, h1⟩
  · exact h y hy
theorem Us.take {l : List Int} (h : Us l) (n : Nat) : Us (l.take n) := fun x hx => h x (List.mem_of_mem_take hx)
theorem Us.drop {l : List Int} (h : Us l) (n : Nat) : Us (l.drop n) := fun x hx => h x (List.mem_of_mem_drop hx)
theorem Us.append {l m : List Int} (h : Us l) (k : Us m) : Us (l ++ m) := by
  intro x hx
  rcases List.mem_append.1 hx with hx | hx
  · exact h x hx
  · exact k x hx

/-- Numbers behind one, by their gaps. -/
def gapB (p : Int) : List Int → List Int
  | [] => []
  | n :: r => putN (n - p - 1).toNat ++ gapB n r
/-- Do they rise, behind one? -/
def risesB (p : Int) : List Int → Bool
  | [] => true
  | n :: r => decide (p < n) && risesB n r
/-- Do they rise? -/
def rises : List Int → Bool
  | [] => true
  | n :: r => risesB n r
/-- A vertex's neighbours, without how many there are. -/
def bodyG (v : Int) : List Int → List Int
  | [] => []
  | n :: r => putN (zigZ (n - v)).toNat ++ gapB n r
def gapsP (v : Int) (l : List Int) : List Int × Int := if rises l = true then (putN l.length ++ bodyG v l, 0) else ([], 1)

theorem gapB_bs (l : List Int) : ∀ p, Bs (gapB p l) := by
  induction l with
  | nil => intro p; exact Bs.nil
  | cons n r ih => intro p; exact (putN_bs _).append (ih n)
theorem bodyG_bs (v : Int) (l : List Int) : Bs (bodyG v l) := by
  cases l with
  | nil => exact Bs.nil
  | cons n r => exact (putN_bs _).append (gapB_bs r n)
theorem gapsP_bs (v : Int) (l : List Int) : Bs (gapsP v l).1 := by
  unfold gapsP; split
  · exact (putN_bs _).append (bodyG_bs v l)
  · exact Bs.nil
theorem gapB_len (l : List Int) : ∀ p, l.length ≤ (gapB p l).length := by
  induction l with
  | nil => intro p; simp
  | cons n r ih => intro p; have := ih n; have := putN_ne (n - p - 1).toNat; simp only [gapB, List.length_append, List.length_cons]; omega
theorem bodyG_len (v : Int) (l : List Int) : l.length ≤ (bodyG v l).length := by
  cases l with
  | nil => simp
  | cons n r => have := gapB_len r n; have := putN_ne (zigZ (n - v)).toNat; simp only [bodyG, List.length_append, List.length_cons]; omega

/-- The numbers that bytes are: so many, behind one, the first of them as a number that may be below 0. -/
def gapsN : Nat → Bool → Int → List Int → List Int × List Int × Int
  | 0, _, _, b => ([], b, 0)
  | m + 1, f, p, b =>
    if (takeN b).2.2 ≠ 0 ∨ 17179869184 ≤ (takeN b).1 then ([], [], 6)
    else if p + (if f then zagZ (takeN b).1 else (takeN b).1 + 1) < 0 ∨ 4294967295 < p + (if f then zagZ (takeN b).1 else (takeN b).1 + 1) then ([], [], 6)
    else if (gapsN m false (p + (if f then zagZ (takeN b).1 else (takeN b).1 + 1)) (takeN b).2.1).2.2 ≠ 0 then ([], [], 6)
    else ((p + (if f then zagZ (takeN b).1 else (takeN b).1 + 1)) :: (gapsN m false (p + (if f then zagZ (takeN b).1 else (takeN b).1 + 1)) (takeN b).2.1).1, (gapsN m false (p + (if f then zagZ (takeN b).1 else (takeN b).1 + 1)) (takeN b).2.1).2.1, 0)
def gapsT (v : Int) (b : List Int) : List Int × Int :=
  if (takeN b).2.2 ≠ 0 ∨ ((takeN b).2.1.length : Int) < (takeN b).1 then ([], 6)
  else if (gapsN (takeN b).1.toNat true v (takeN b).2.1).2.2 ≠ 0 then ([], 6)
  else if 0 < (gapsN (takeN b).1.toNat true v (takeN b).2.1).2.1.length then ([], 6)
  else ((gapsN (takeN b).1.toNat true v (takeN b).2.1).1, 0)

theorem gapsN_next {m : Nat} {f : Bool} {p n : Int} {b r : List Int} {x : Int} (h : takeN b = (x, r, 0)) (hx : x < 17179869184) (hn : p + (if f then zagZ x else x + 1) = n) (h0 : 0 ≤ n) (h1 : n ≤ 4294967295) (hz : (gapsN m false n r).2.2 = 0) :
    gapsN (m + 1) f p b = (n :: (gapsN m false n r).1, (gapsN m false n r).2.1, 0) := by
  rw [gapsN, h]
  simp only [hn]
  rw [if_neg (by omega), if_neg (by omega), if_neg (by omega)]
/-- What was put is taken. -/
theorem gapsN_put (l : List Int) : ∀ (p : Int) (r : List Int), 0 ≤ p → p < 4294967296 → Us l → risesB p l = true → gapsN l.length false p (gapB p l ++ r) = (l, r, 0) := by
  induction l with
  | nil => intro p r _ _ _ _; rfl
  | cons n l ih =>
    intro p r h0 h1 hu hr
    simp only [risesB, Bool.and_eq_true, decide_eq_true_eq] at hr
    have hn := hu.head
    have hi := ih n r hn.1 hn.2 hu.tail hr.2
    have ht := takeN_put (m := (n - p - 1).toNat) (by omega) (gapB n l ++ r)
    rw [show gapB p (n :: l) ++ r = putN (n - p - 1).toNat ++ (gapB n l ++ r) from List.append_assoc _ _ _, List.length_cons]
    rw [gapsN_next (n := n) ht (by omega) (by simp; omega) hn.1 (by omega) (by rw [hi]), hi]
theorem gapsN_body (v : Int) (l r : List Int) (h0 : 0 ≤ v) (h1 : v < 4294967296) (hu : Us l) (hr : rises l = true) : gapsN l.length true v (bodyG v l ++ r) = (l, r, 0) := by
  cases l with
  | nil => rfl
  | cons n l =>
    have hn := hu.head
    have hi := gapsN_put l n r hn.1 hn.2 hu.tail hr
    have hz := zig_lt (n := n - v) (by omega) (by omega)
    have hz0 := zig_nonneg (n - v)
    have ht := takeN_put (m := (zigZ (n - v)).toNat) (by omega) (gapB n l ++ r)
    rw [show bodyG v (n :: l) ++ r = putN (zigZ (n - v)).toNat ++ (gapB n l ++ r) from List.append_assoc _ _ _, List.length_cons]
    rw [gapsN_next (n := n) ht (by omega) (by rw [if_pos rfl, show ((zigZ (n - v)).toNat : Int) = zigZ (n - v) by omega, zag_zig]; omega) hn.1 (by omega) (by rw [hi]), hi]
theorem gapsT_put (v : Int) (l : List Int) (h0 : 0 ≤ v) (h1 : v < 4294967296) (hu : Us l) (hr : rises l = true) (hl : l.length < 18446744073709551616) : gapsT v (gapsP v l).1 = (l, 0) := by
  have hb := gapsN_body v l [] h0 h1 hu hr
  rw [List.append_nil] at hb
  have hbl := bodyG_len v l
  unfold gapsT gapsP
  rw [if_pos hr, takeN_put hl]
  simp only [Int.toNat_natCast, hb]
  rw [if_neg (by omega), if_neg (by decide), if_neg (by simp)]

/-- Cut, it is none. -/
theorem gapsN_cut (l : List Int) : ∀ (p : Int) (j : Nat), 0 ≤ p → p < 4294967296 → Us l → risesB p l = true → j < (gapB p l).length → (gapsN l.length false p ((gapB p l).take j)).2.2 = 6 := by
  induction l with
  | nil => intro p j _ _ _ _ hj; simp [gapB] at hj
  | cons n l ih =>
    intro p j h0 h1 hu hr hj
    simp only [risesB, Bool.and_eq_true, decide_eq_true_eq] at hr
    have hn := hu.head
    rw [List.length_cons]
    rcases Nat.lt_or_ge j (putN (n - p - 1).toNat).length with hc | hc
    · have ht := takeN_cut (m := (n - p - 1).toNat) (by omega) hc
      rw [show gapB p (n :: l) = putN (n - p - 1).toNat ++ gapB n l from rfl, List.take_append_of_le_length (by omega), gapsN, ht, if_pos (.inl (by decide))]
    · have hj2 : j - (putN (n - p - 1).toNat).length < (gapB n l).length := by simp only [gapB, List.length_append] at hj; omega
      have hi := ih n _ hn.1 hn.2 hu.tail hr.2 hj2
      have ht := takeN_put (m := (n - p - 1).toNat) (by omega) ((gapB n l).take (j - (putN (n - p - 1).toNat).length))
      rw [show gapB p (n :: l) = putN (n - p - 1).toNat ++ gapB n l from rfl, List.take_append, List.take_of_length_le hc, gapsN, ht]
      simp only [Bool.false_eq_true, if_false]
      rw [if_neg (by omega), if_neg (by omega), show p + (((n - p - 1).toNat : Int) + 1) = n by omega, hi, if_pos (by decide)]
theorem gapsN_body_cut (v : Int) (l : List Int) (j : Nat) (h0 : 0 ≤ v) (h1 : v < 4294967296) (hu : Us l) (hr : rises l = true) (hj : j < (bodyG v l).length) : (gapsN l.length true v ((bodyG v l).take j)).2.2 = 6 := by
  cases l with
  | nil => simp [bodyG] at hj
  | cons n l =>
    have hn := hu.head
    have hz := zig_lt (n := n - v) (by omega) (by omega)
    have hz0 := zig_nonneg (n - v)
    rw [List.length_cons]
    rcases Nat.lt_or_ge j (putN (zigZ (n - v)).toNat).length with hc | hc
    · have ht := takeN_cut (m := (zigZ (n - v)).toNat) (by omega) hc
      rw [show bodyG v (n :: l) = putN (zigZ (n - v)).toNat ++ gapB n l from rfl, List.take_append_of_le_length (by omega), gapsN, ht, if_pos (.inl (by decide))]
    · have hj2 : j - (putN (zigZ (n - v)).toNat).length < (gapB n l).length := by simp only [bodyG, List.length_append] at hj; omega
      have hi := gapsN_cut l n _ hn.1 hn.2 hu.tail hr hj2
      have ht := takeN_put (m := (zigZ (n - v)).toNat) (by omega) ((gapB n l).take (j - (putN (zigZ (n - v)).toNat).length))
      have hzz := zag_zig (n - v)
      rw [show bodyG v (n :: l) = putN (zigZ (n - v)).toNat ++ gapB n l from rfl, List.take_append, List.take_of_length_le hc, gapsN, ht]
      simp only [if_true]
      rw [show ((zigZ (n - v)).toNat : Int) = zigZ (n - v) by omega, hzz, if_neg (by omega), if_neg (by omega), show v + (n - v) = n by omega, hi, if_pos (by decide)]
theorem gapsT_cut (v : Int) (l : List Int) (j : Nat) (h0 : 0 ≤ v) (h1 : v < 4294967296) (hu : Us l) (hr : rises l = true) (hl : l.length < 18446744073709551616) (hj : j < (gapsP v l).1.length) : gapsT v ((gapsP v l).1.take j) = ([], 6) := by
  unfold gapsP at hj ⊢
  rw [if_pos hr] at hj ⊢
  simp only [List.length_append] at hj
  rcases Nat.lt_or_ge j (putN l.length).length with hc | hc
  · show gapsT v ((putN l.length ++ bodyG v l).take j) = _
    rw [List.take_append_of_le_length (by omega)]
    unfold gapsT
    rw [takeN_cut hl hc, if_pos (.inl (by decide))]
  · have hi := gapsN_body_cut v l (j - (putN l.length).length) h0 h1 hu hr (by omega)
    show gapsT v ((putN l.length ++ bodyG v l).take j) = _
    rw [List.take_append, List.take_of_length_le hc]
    unfold gapsT
    rw [takeN_put hl]
    simp only [Int.toNat_natCast, hi]
    by_cases hx : (((bodyG v l).take (j - (putN l.length).length)).length : Int) < (l.length : Int)
    · rw [if_pos (.inr hx)]
    · rw [if_neg (by omega), if_pos (by decide)]

/-- What is taken was put. -/
theorem gapsN_inv (m : Nat) : ∀ (p : Int) (b : List Int), 0 ≤ p → p < 4294967296 → Bs b → (gapsN m false p b).2.2 = 0 →
    (gapsN m false p b).1.length = m ∧ Us (gapsN m false p b).1 ∧ risesB p (gapsN m false p b).1 = true ∧ b = gapB p (gapsN m false p b).1 ++ (gapsN m false p b).2.1 := by
  induction m with
  | zero => intro p b _ _ _ _; exact ⟨rfl, Us.nil, rfl, rfl⟩
  | succ m ih =>
    intro p b h0 h1 hb hz
    rcases takeN_only hb with ⟨x, r, hx, he, ht⟩ | ht | ht
    · rw [gapsN, ht] at hz ⊢
      simp only [Bool.false_eq_true, if_false] at hz ⊢
      by_cases c1 : (0 : Int) ≠ 0 ∨ 17179869184 ≤ (x : Int)
      · rw [if_pos c1] at hz; exact absurd hz (by decide)
      · rw [if_neg c1] at hz ⊢
        by_cases c2 : p + ((x : Int) + 1) < 0 ∨ 4294967295 < p + ((x : Int) + 1)
        · rw [if_pos c2] at hz; exact absurd hz (by decide)
        · rw [if_neg c2] at hz ⊢
          by_cases c3 : (gapsN m false (p + ((x : Int) + 1)) r).2.2 ≠ 0
          · rw [if_pos c3] at hz; exact absurd hz (by decide)
          · rw [if_neg c3]
            obtain ⟨i1, i2, i3, i4⟩ := ih (p + ((x : Int) + 1)) r (by omega) (by omega) (he ▸ hb).of_append_right (by omega)
            refine ⟨by simp only [List.length_cons, i1], Us.cons (by omega) (by omega) i2, ?_, ?_⟩
            · simp only [risesB, Bool.and_eq_true, decide_eq_true_eq]; exact ⟨by omega, i3⟩
            · simp only [gapB, List.append_assoc]
              rw [← i4, show (p + ((x : Int) + 1) - p - 1).toNat = x by omega]; exact he
    · rw [gapsN, ht, if_pos (.inl (by decide))] at hz; exact absurd hz (by decide)
    · rw [gapsN, ht, if_pos (.inl (by decide))] at hz; exact absurd hz (by decide)
theorem gapsN_body_inv (m : Nat) (v : Int) (b : List Int) (h0 : 0 ≤ v) (h1 : v < 4294967296) (hb : Bs b) (hz : (gapsN m true v b).2.2 = 0) :
    (gapsN m true v b).1.length = m ∧ Us (gapsN m true v b).1 ∧ rises (gapsN m true v b).1 = true ∧ b = bodyG v (gapsN m true v b).1 ++ (gapsN m true v b).2.1 := by
  cases m with
  | zero => exact ⟨rfl, Us.nil, rfl, rfl⟩
  | succ m =>
    rcases takeN_only hb with ⟨x, r, hx, he, ht⟩ | ht | ht
    · rw [gapsN, ht] at hz ⊢
      simp only [if_true] at hz ⊢
      by_cases c1 : (0 : Int) ≠ 0 ∨ 17179869184 ≤ (x : Int)
      · rw [if_pos c1] at hz; exact absurd hz (by decide)
      · rw [if_neg c1] at hz ⊢
        by_cases c2 : v + zagZ (x : Int) < 0 ∨ 4294967295 < v + zagZ (x : Int)
        · rw [if_pos c2] at hz; exact absurd hz (by decide)
        · rw [if_neg c2] at hz ⊢
          by_cases c3 : (gapsN m false (v + zagZ (x : Int)) r).2.2 ≠ 0
          · rw [if_pos c3] at hz; exact absurd hz (by decide)
          · rw [if_neg c3]
            obtain ⟨i1, i2, i3, i4⟩ := gapsN_inv m (v + zagZ (x : Int)) r (by omega) (by omega) (he ▸ hb).of_append_right (by omega)
            refine ⟨by simp only [List.length_cons, i1], Us.cons (by omega) (by omega) i2, i3, ?_⟩
            simp only [bodyG, List.append_assoc]
            rw [← i4, show v + zagZ (x : Int) - v = zagZ (x : Int) by omega, zig_zag (Int.natCast_nonneg x), Int.toNat_natCast]; exact he
    · rw [gapsN, ht, if_pos (.inl (by decide))] at hz; exact absurd hz (by decide)
    · rw [gapsN, ht, if_pos (.inl (by decide))] at hz; exact absurd hz (by decide)
theorem gapsT_only {v : Int} {b : List Int} (h0 : 0 ≤ v) (h1 : v < 4294967296) (hb : Bs b) : (∃ l : List Int, Us l ∧ rises l = true ∧ l.length ≤ b.length ∧ gapsT v b = (l, 0) ∧ b = (gapsP v l).1) ∨ gapsT v b = ([], 6) := by
  unfold gapsT
  rcases takeN_only hb with ⟨x, r, hx, he, ht⟩ | ht | ht
  · rw [ht]
    simp only [Int.toNat_natCast]
    by_cases c1 : (0 : Int) ≠ 0 ∨ (r.length : Int) < (x : Int)
    · rw [if_pos c1]; exact .inr rfl
    · rw [if_neg c1]
      by_cases c2 : (gapsN x true v r).2.2 ≠ 0
      · rw [if_pos c2]; exact .inr rfl
      · rw [if_neg c2]
        by_cases c3 : 0 < (gapsN x true v r).2.1.length
        · rw [if_pos c3]; exact .inr rfl
        · rw [if_neg c3]
          obtain ⟨i1, i2, i3, i4⟩ := gapsN_body_inv x v r h0 h1 (he ▸ hb).of_append_right (by omega)
          have hnil : (gapsN x true v r).2.1 = [] := List.eq_nil_of_length_eq_zero (by omega)
          rw [hnil, List.append_nil] at i4
          refine .inl ⟨_, i2, i3, ?_, rfl, ?_⟩
          · rw [i1, he, List.length_append]; omega
          · unfold gapsP
            rw [if_pos i3, i1]
            show b = putN x ++ bodyG v _
            rw [← i4]; exact he
  · rw [ht, if_pos (.inl (by decide))]; exact .inr rfl
  · rw [ht, if_pos (.inl (by decide))]; exact .inr rfl

/-! ### Numbers that rise, of some -/
def backK (out : List Int) (n : Int) : Nat → Nat
  | 0 => 0
  | k + 1 => if n < out.getD k 0 then backK out n k else k + 1
def insN (out : List Int) (n : Int) : List Int := if 0 < backK out n out.length ∧ out.getD (backK out n out.length - 1) 0 = n then out else out.take (backK out n out.length) ++ n :: out.drop (backK out n out.length)
def riseN (l : List Int) : List Int := l.foldl insN []
theorem backK_le (out : List Int) (n : Int) (k : Nat) : backK out n k ≤ k := by
  induction k with
  | zero => exact Nat.le_refl _
  | succ k ih => unfold backK; split <;> omega
theorem backK_above (out : List Int) (n : Int) (k : Nat) : ∀ j, backK out n k ≤ j → j < k → n < out.getD j 0 := by
  induction k with
  | zero => intro j _ h; omega
  | succ k ih =>
    intro j h1 h2
    unfold backK at h1
    split at h1
    · rename_i hc
      rcases Nat.lt_or_ge j k with hj | hj
      · exact ih j h1 hj
      · obtain rfl : j = k := by omega
        exact hc
    · omega
theorem backK_below (out : List Int) (n : Int) (k : Nat) (h : 0 < backK out n k) : out.getD (backK out n k - 1) 0 ≤ n := by
  induction k with
  | zero => simp [backK] at h
  | succ k ih =>
    unfold backK at h ⊢
    split
    · rename_i hc
      rw [if_pos hc] at h
      exact ih h
    · rename_i hc
      rw [Nat.add_sub_cancel]; omega
def Rise (l : List Int) : Prop := ∀ i j : Nat, i < j → j < l.length → l.getD i 0 < l.getD j 0
theorem risesB_iff (l : List Int) : ∀ p, risesB p l = true ↔ (∀ i, i < l.length → p < l.getD i 0) ∧ Rise l := by
  induction l with
  | nil => intro p; exact ⟨fun _ => ⟨fun i hi => by simp at hi, fun i j _ hj => by simp at hj⟩, fun _ => rfl⟩
  | cons n r ih =>
    intro p
    simp only [risesB, Bool.and_eq_true, decide_eq_true_eq, ih n]
    constructor
    · rintro ⟨h1, h2, h3⟩
      refine ⟨fun i hi => ?_, fun i j hij hj => ?_⟩
      · cases i with
        | zero => simpa using h1
        | succ i =>
          have := h2 i (by simpa using hi)
          simp only [List.getD_cons_succ]; omega
      · cases j with
        | zero => omega
        | succ j =>
          cases i with
          | zero => simpa using h2 j (by simpa using hj)
          | succ i => simpa using h3 i j (by omega) (by simpa using hj)
    · rintro ⟨h1, h2⟩
      refine ⟨by simpa using h1 0 (by simp), fun i hi => by simpa using h2 0 (i + 1) (by omega) (by simpa using hi), fun i j hij hj => by simpa using h2 (i + 1) (j + 1) (by omega) (by simpa using hj)⟩
theorem rises_iff (l : List Int) : rises l = true ↔ Rise l := by
  cases l with
  | nil => exact ⟨fun _ i j _ hj => by simp at hj, fun _ => rfl⟩
  | cons n r =>
    show risesB n r = true ↔ _
    rw [risesB_iff]
    constructor
    · rintro ⟨h1, h2⟩ i j hij hj
      cases j with
      | zero => omega
      | succ j =>
        cases i with
        | zero => simpa using h1 j (by simpa using hj)
        | succ i => simpa using h2 i j (by omega) (by simpa using hj)
    · intro h
      exact ⟨fun i hi => by simpa using h 0 (i + 1) (by omega) (by simpa using hi), fun i j hij hj => by simpa using h (i + 1) (j + 1) (by omega) (by simpa using hj)⟩
theorem getD_ins (out : List Int) (n : Int) (k j : Nat) (hk : k ≤ out.length) : (out.take k ++ n :: out.drop k).getD j 0 = if j < k then out.getD j 0 else if j = k then n else out.getD (j - 1) 0 := by
  have hl : (out.take k).length = k := by rw [List.length_take]; omega
  simp only [List.getD_eq_getElem?_getD]
  by_cases h1 : j < k
  · rw [if_pos h1, List.getElem?_append_left (by omega), List.getElem?_take, if_pos h1]
  · rw [if_neg h1, List.getElem?_append_right (by omega), hl]
    by_cases h2 : j = k
    · rw [if_pos h2, h2, Nat.sub_self]; rfl
    · rw [if_neg h2]
      obtain ⟨m, rfl⟩ : ∃ m, j = k + m + 1 := ⟨j - k - 1, by omega⟩
      rw [show k + m + 1 - k = m + 1 by omega, List.getElem?_cons_succ, List.getElem?_drop, show k + m + 1 - 1 = k + m by omega]
theorem ins_rise {out : List Int} (h : Rise out) (n : Int) : Rise (insN out n) := by
  unfold insN
  have hk := backK_le out n out.length
  have ha := backK_above out n out.length
  have hb := backK_below out n out.length
  generalize backK out n out.length = k at *
  by_cases hc : 0 < k ∧ out.getD (k - 1) 0 = n
  · rw [if_pos hc]; exact h
  · rw [if_neg hc]
    intro i j hij hj
    have hlen : (out.take k ++ n :: out.drop k).length = out.length + 1 := by rw [List.length_append, List.length_cons, List.length_take, List.length_drop]; omega
    rw [hlen] at hj
    rw [getD_ins out n k i hk, getD_ins out n k j hk]
    have hbk : ∀ i, i < k → out.getD i 0 < n := by
      intro i hi
      have h1 := hb (by omega)
      have h2 : out.getD (k - 1) 0 ≠ n := fun e => hc ⟨by omega, e⟩
      rcases Nat.lt_or_ge i (k - 1) with h3 | h3
      · have := h i (k - 1) h3 (by omega); omega
      · obtain rfl : i = k - 1 := by omega
        omega
    by_cases j1 : j < k
    · rw [if_pos j1, if_pos (by omega)]; exact h i j hij (by omega)
    · rw [if_neg j1]
      by_cases j2 : j = k
      · rw [if_pos j2, if_pos (by omega)]; exact hbk i (by omega)
      · rw [if_neg j2]
        have haj := ha (j - 1) (by omega) (by omega)
        by_cases i1 : i < k
        · rw [if_pos i1]; exact h i (j - 1) (by omega) (by omega)
        · rw [if_neg i1]
          by_cases i2 : i = k
          · rw [if_pos i2]; exact haj
          · rw [if_neg i2]; exact h (i - 1) (j - 1) (by omega) (by omega)
theorem ins_us {out : List Int} (h : Us out) {n : Int} (h0 : 0 ≤ n) (h1 : n < 4294967296) : Us (insN out n) := by
  unfold insN; split
  · exact h
  · exact (h.take _).append (Us.cons h0 h1 (h.drop _))
theorem ins_len (out : List Int) (n : Int) : (insN out n).length ≤ out.length + 1 := by
  have hk := backK_le out n out.length
  unfold insN; split
  · omega
  · rw [List.length_append, List.length_cons, List.length_take, List.length_drop]; omega
theorem fold_rise (l : List Int) : ∀ out, Rise out → Us out → Us l → Rise (l.foldl insN out) ∧ Us (l.foldl insN out) ∧ (l.foldl insN out).length ≤ out.length + l.length := by
  induction l with
  | nil => intro out h1 h2 _; exact ⟨h1, h2, by simp⟩
  | cons n l ih =>
    intro out h1 h2 h3
    have hn := h3.head
    obtain ⟨i1, i2, i3⟩ := ih (insN out n) (ins_rise h1 n) (ins_us h2 hn.1 hn.2) h3.tail
    have := ins_len out n
    refine ⟨i1, i2, ?_⟩
    show ((n :: l).foldl insN out).length ≤ _
    simp only [List.foldl_cons, List.length_cons]; omega
theorem riseN_facts {l : List Int} (h : Us l) : rises (riseN l) = true ∧ Us (riseN l) ∧ (riseN l).length ≤ l.length := by
  obtain ⟨h1, h2, h3⟩ := fold_rise l [] (fun i j _ hj => by simp at hj) Us.nil h
  exact ⟨(rises_iff _).2 h1, h2, by unfold riseN; simpa using h3⟩

/-! ### Who leaves out the last -/
theorem gapB_snoc (l : List Int) (x : Int) : ∀ p, ∃ t : List Int, 1 ≤ t.length ∧ gapB p (l ++ [x]) = gapB p l ++ t := by
  induction l with
  | nil => intro p; exact ⟨putN (x - p - 1).toNat, putN_ne _, by simp [gapB]⟩
  | cons n l ih =>
    intro p
    obtain ⟨t, h1, h2⟩ := ih n
    exact ⟨t, h1, by simp only [List.cons_append, gapB, h2, List.append_assoc]⟩
theorem bodyG_snoc (v : Int) (l : List Int) (x : Int) : ∃ t : List Int, 1 ≤ t.length ∧ bodyG v (l ++ [x]) = bodyG v l ++ t := by
  cases l with
  | nil => exact ⟨putN (zigZ (x - v)).toNat, putN_ne _, by simp [bodyG, gapB]⟩
  | cons n l =>
    obtain ⟨t, h1, h2⟩ := gapB_snoc l x n
    exact ⟨t, h1, by simp only [List.cons_append, bodyG, h2, List.append_assoc]⟩
theorem rise_take {l : List Int} (h : Rise l) (k : Nat) : Rise (l.take k) := by
  intro i j hij hj
  rw [List.length_take] at hj
  have e : ∀ m, m < k → (l.take k).getD m 0 = l.getD m 0 := fun m hm => by simp [List.getD_eq_getElem?_getD, List.getElem?_take, hm]
  rw [e i (by omega), e j (by omega)]
  exact h i j hij (by omega)
/-- Neighbours one behind the other. -/
theorem gapB_near (m : Nat) : ∀ p : Int, gapB p ((List.range m).map fun i : Nat => p + 1 + (i : Int)) = List.replicate m 0 ∧ risesB p ((List.range m).map fun i : Nat => p + 1 + (i : Int)) = true := by
  induction m with
  | zero => intro p; exact ⟨rfl, rfl⟩
  | succ m ih =>
    intro p
    have e : ((List.range (m + 1)).map fun i : Nat => p + 1 + (i : Int)) = (p + 1) :: ((List.range m).map fun i : Nat => (p + 1) + 1 + (i : Int)) := by
      rw [List.range_succ_eq_map, List.map_cons, List.map_map]
      congr 1
      · simp
      · apply List.map_congr_left
        intro i _
        show p + 1 + ((i + 1 : Nat) : Int) = _
        omega
    rw [e]
    obtain ⟨h1, h2⟩ := ih (p + 1)
    constructor
    · simp only [gapB, h1]
      rw [show (p + 1 - p - 1).toNat = 0 by omega, putN_small (by omega)]; rfl
    · simp only [risesB, h2, Bool.and_true, decide_eq_true_eq]; omega

end Go.Proofs.Ytnkjbgoibmbmoaa.Plain
