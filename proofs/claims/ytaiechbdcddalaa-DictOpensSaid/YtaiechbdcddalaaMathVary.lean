/- Plain laws of numbers as bytes (layer 1): what is put is taken, cut it goes on, and nothing else is taken. No program in sight. -/
namespace Go.Proofs.Ytaiechbdcddalaa.Plain

/-- Bytes. -/
def Bs (l : List Int) : Prop := ∀ x ∈ l, 0 ≤ x ∧ x < 256
theorem Bs.nil : Bs [] := by intro x h; simp at h
theorem Bs.cons {x : Int} {l : List Int} (h0 : 0 ≤ x) (h1 : x < 256) (h : Bs l) : Bs (x :: l) := by
  intro y hy
  rcases List.mem_cons.1 hy with rfl | hy
  · exact ⟨h0, h1⟩
  · exact h y hy
theorem Bs.head {x : Int} {l : List Int} (h : Bs (x :: l)) : 0 ≤ x ∧ x < 256 := h x (by simp)
theorem Bs.tail {x : Int} {l : List Int} (h : Bs (x :: l)) : Bs l := fun y hy => h y (by simp [hy])
theorem Bs.append {l m : List Int} (h : Bs l) (k : Bs m) : Bs (l ++ m) := by
  intro x hx
  rcases List.mem_append.1 hx with hx | hx
  · exact h x hx
  · exact k x hx
theorem Bs.take {l : List Int} (h : Bs l) (n : Nat) : Bs (l.take n) := fun x hx => h x (List.mem_of_mem_take hx)
theorem Bs.drop {l : List Int} (h : Bs l) (n : Nat) : Bs (l.drop n) := fun x hx => h x (List.mem_of_mem_drop hx)
theorem Bs.of_append_right {l m : List Int} (h : Bs (l ++ m)) : Bs m := fun x hx => h x (by simp [hx])

/-- A number as bytes, the lowest seven bits first. -/
def putN (n : Nat) : List Int := if n < 128 then [(n : Int)] else ((n % 128 + 128 : Nat) : Int) :: putN (n / 128)
termination_by n
decreasing_by omega
theorem putN_small {n : Nat} (h : n < 128) : putN n = [(n : Int)] := by rw [putN, if_pos h]
theorem putN_big {n : Nat} (h : ¬ n < 128) : putN n = ((n % 128 + 128 : Nat) : Int) :: putN (n / 128) := by rw [putN, if_neg h]
theorem putN_bs (n : Nat) : Bs (putN n) := by
  induction n using Nat.strongRecOn with
  | _ n ih =>
    by_cases h : n < 128
    · rw [putN_small h]; exact Bs.cons (by omega) (by omega) Bs.nil
    · rw [putN_big h]; exact Bs.cons (by omega) (by omega) (ih _ (by omega))
theorem putN_ne (n : Nat) : 1 ≤ (putN n).length := by
  by_cases h : n < 128
  · rw [putN_small h]; simp
  · rw [putN_big h]; simp
/-- How many groups of seven bits. -/
theorem putN_len (j : Nat) : ∀ n : Nat, n < 128 ^ (j + 1) → (putN n).length ≤ j + 1 := by
  induction j with
  | zero => intro n h; rw [putN_small (by simpa using h)]; simp
  | succ j ih =>
    intro n h
    by_cases hn : n < 128
    · rw [putN_small hn]; simp
    · rw [putN_big hn]
      have : n / 128 < 128 ^ (j + 1) := by rw [Nat.div_lt_iff_lt_mul (by decide)]; rw [Nat.pow_succ] at h; exact h
      have := ih _ this
      simp; omega
theorem putN_len10 {n : Nat} (h : n < 18446744073709551616) : (putN n).length ≤ 10 := putN_len 9 n (by omega)

/-- The number that bytes begin with, from the i-th group on. -/
def takeS (i : Nat) (n : Int) : List Int → Int × List Int × Int
  | [] => if i < 10 then (0, [], 5) else (0, [], 6)
  | c :: r => if 10 ≤ i then (0, [], 6) else if 128 ≤ c then takeS (i + 1) (n + (c - 128) * 128 ^ i) r
      else if (c = 0 ∧ 0 < i) ∨ (i = 9 ∧ 1 < c) then (0, [], 6) else (n + c * 128 ^ i, r, 0)

theorem takeS_late {i : Nat} (h : 10 ≤ i) (n : Int) (l : List Int) : takeS i n l = (0, [], 6) := by
  cases l with
  | nil => unfold takeS; rw [if_neg (by omega)]
  | cons c r => unfold takeS; rw [if_pos h]

theorem room (i : Nat) (h : i ≤ 8) : 2 ^ (64 - 7 * i) = 128 * 2 ^ (64 - 7 * (i + 1)) := by
  have : i = 0 ∨ i = 1 ∨ i = 2 ∨ i = 3 ∨ i = 4 ∨ i = 5 ∨ i = 6 ∨ i = 7 ∨ i = 8 := by omega
  rcases this with rfl | rfl | rfl | rfl | rfl | rfl | rfl | rfl | rfl <;> decide
theorem room_pos (i : Nat) (h : i ≤ 8) : 256 ≤ 2 ^ (64 - 7 * i) := by
  have : i = 0 ∨ i = 1 ∨ i = 2 ∨ i = 3 ∨ i = 4 ∨ i = 5 ∨ i = 6 ∨ i = 7 ∨ i = 8 := by omega
  rcases this with rfl | rfl | rfl | rfl | rfl | rfl | rfl | rfl | rfl <;> decide

theorem group_sum (acc c m P : Int) : acc + (c - 128) * P + m * (P * 128) = acc + (c - 128 + 128 * m) * P := by
  rw [Int.add_mul (c - 128), Int.mul_comm P 128, ← Int.mul_assoc m, Int.mul_comm m 128]; omega

/-- What was put is taken. -/
theorem takeS_put (m : Nat) : ∀ (i : Nat) (acc : Int) (r : List Int), i ≤ 9 → m < 2 ^ (64 - 7 * i) → (0 < i → 1 ≤ m) → takeS i acc (putN m ++ r) = (acc + m * 128 ^ i, r, 0) := by
  induction m using Nat.strongRecOn with
  | _ m ih =>
    intro i acc r hi hm h1
    by_cases h : m < 128
    · rw [putN_small h]
      show takeS i acc ((m : Int) :: r) = _
      unfold takeS
      rw [if_neg (by omega), if_neg (by omega), if_neg]
      rintro (⟨h0, hp⟩ | ⟨h9, hc⟩)
      · have := h1 hp; omega
      · subst h9; simp at hm; omega
    · have h8 : i ≤ 8 := by
        rcases Nat.lt_or_ge i 9 with h9 | h9
        · omega
        · obtain rfl : i = 9 := by omega
          simp at hm; omega
      have hr := room i h8
      rw [putN_big h]
      show takeS i acc (((m % 128 + 128 : Nat) : Int) :: (putN (m / 128) ++ r)) = _
      unfold takeS
      rw [if_neg (by omega), if_pos (by omega), ih (m / 128) (by omega) (i + 1) _ r (by omega) (by omega) (by omega)]
      rw [Int.pow_succ, group_sum, show ((m % 128 + 128 : Nat) : Int) - 128 + 128 * ((m / 128 : Nat) : Int) = (m : Int) by omega]

/-- Nothing else is taken: what is taken is what was put; else there is nothing. -/
theorem takeS_only : ∀ (l : List Int) (i : Nat) (acc : Int), Bs l → i ≤ 10 →
    (∃ m : Nat, ∃ r, i ≤ 9 ∧ m < 2 ^ (64 - 7 * i) ∧ (0 < i → 1 ≤ m) ∧ l = putN m ++ r ∧ takeS i acc l = (acc + m * 128 ^ i, r, 0)) ∨ takeS i acc l = (0, [], 5) ∨ takeS i acc l = (0, [], 6) := by
  intro l
  induction l with
  | nil =>
    intro i acc _ _
    unfold takeS
    split
    · exact .inr (.inl rfl)
    · exact .inr (.inr rfl)
  | cons c r ih =>
    intro i acc hb hi
    obtain ⟨hc0, hc1⟩ := hb.head
    by_cases h10 : 10 ≤ i
    · exact .inr (.inr (takeS_late h10 _ _))
    · unfold takeS
      rw [if_neg h10]
      by_cases hc : 128 ≤ c
      · rw [if_pos hc]
        rcases ih (i + 1) (acc + (c - 128) * 128 ^ i) hb.tail (by omega) with ⟨m, r', h9, hm, h1, he, ht⟩ | h | h
        · have hr := room i (by omega)
          have hm1 := h1 (by omega)
          obtain ⟨d, hd⟩ := Int.eq_ofNat_of_zero_le (show 0 ≤ c - 128 by omega)
          refine .inl ⟨d + 128 * m, r', by omega, by omega, fun _ => by omega, ?_, ?_⟩
          · rw [putN_big (by omega), he, show (d + 128 * m) / 128 = m by omega, show (((d + 128 * m) % 128 + 128 : Nat) : Int) = c by omega]; rfl
          · rw [ht, Int.pow_succ, group_sum, show ((d + 128 * m : Nat) : Int) = c - 128 + 128 * (m : Int) by omega]
        · exact .inr (.inl h)
        · exact .inr (.inr h)
      · rw [if_neg hc]
        by_cases hz : (c = 0 ∧ 0 < i) ∨ (i = 9 ∧ 1 < c)
        · rw [if_pos hz]; exact .inr (.inr rfl)
        · rw [if_neg hz]
          obtain ⟨d, hd⟩ := Int.eq_ofNat_of_zero_le hc0
          have hi9 : i ≤ 9 := by omega
          refine .inl ⟨d, r, hi9, ?_, fun hp => ?_, ?_, ?_⟩
          · rcases Nat.lt_or_ge i 9 with h9 | h9
            · have := room_pos i (by omega); omega
            · obtain rfl : i = 9 := by omega
              simp only [Nat.reduceMul, Nat.reduceSub, Nat.reducePow]
              omega
          · omega
          · rw [putN_small (by omega), hd]; rfl
          · rw [hd]

/-- The number that bytes begin with. -/
def takeN (l : List Int) : Int × List Int × Int := takeS 0 0 l
theorem takeN_put {m : Nat} (h : m < 18446744073709551616) (r : List Int) : takeN (putN m ++ r) = ((m : Int), r, 0) := by
  unfold takeN
  rw [takeS_put m 0 0 r (by omega) (by simpa using h) (by omega)]
  simp
theorem takeN_only {l : List Int} (h : Bs l) : (∃ m : Nat, ∃ r, m < 18446744073709551616 ∧ l = putN m ++ r ∧ takeN l = ((m : Int), r, 0)) ∨ takeN l = (0, [], 5) ∨ takeN l = (0, [], 6) := by
  rcases takeS_only l 0 0 h (by omega) with ⟨m, r, _, hm, _, he, ht⟩ | h | h
  · refine .inl ⟨m, r, by simpa using hm, he, ?_⟩
    unfold takeN; rw [ht]; simp
  · exact .inr (.inl h)
  · exact .inr (.inr h)

/-- A number in so many bytes, the highest first. -/
def fixN : Nat → Nat → List Int
  | 0, _ => []
  | s + 1, n => ((n / 256 ^ s % 256 : Nat) : Int) :: fixN s n
theorem fixN_len (s n : Nat) : (fixN s n).length = s := by
  induction s with
  | zero => rfl
  | succ s ih => simp [fixN, ih]
theorem fixN_bs (s n : Nat) : Bs (fixN s n) := by
  induction s with
  | zero => exact Bs.nil
  | succ s ih => exact Bs.cons (by omega) (by omega) ih
/-- The number that bytes are, the highest first, behind another. -/
def uval (a : Nat) : List Int → Nat
  | [] => a
  | c :: r => uval (a * 256 + c.toNat) r
theorem uval_fix (s n : Nat) : ∀ a, uval a (fixN s n) = a * 256 ^ s + n % 256 ^ s := by
  induction s with
  | zero => intro a; simp [fixN, uval, Nat.mod_one]
  | succ s ih =>
    intro a
    show uval (a * 256 + ((n / 256 ^ s % 256 : Nat) : Int).toNat) (fixN s n) = _
    rw [ih, Int.toNat_natCast, Nat.pow_succ, Nat.mod_mul, Nat.add_mul, Nat.mul_comm (256 ^ s) 256, ← Nat.mul_assoc, Nat.mul_comm (256 ^ s) (n / 256 ^ s % 256)]; omega
theorem uval_fix' {s n : Nat} (h : n < 256 ^ s) : uval 0 (fixN s n) = n := by rw [uval_fix, Nat.mod_eq_of_lt h]; omega
theorem uval_acc (l : List Int) : ∀ a, uval a l = a * 256 ^ l.length + uval 0 l := by
  induction l with
  | nil => intro a; simp [uval]
  | cons c r ih =>
    intro a
    show uval (a * 256 + c.toNat) r = _ + uval (0 * 256 + c.toNat) r
    rw [ih (a * 256 + c.toNat), ih (0 * 256 + c.toNat)]
    simp only [List.length_cons, Nat.pow_succ, Nat.add_mul, Nat.zero_mul, Nat.mul_assoc, Nat.mul_comm 256]; omega
theorem uval_lt (l : List Int) (h : Bs l) : uval 0 l < 256 ^ l.length := by
  induction l with
  | nil => simp [uval]
  | cons c r ih =>
    show uval (0 * 256 + c.toNat) r < _
    rw [uval_acc]
    have h1 := ih h.tail
    have h2 := h.head
    have h3 : c.toNat ≤ 255 := by omega
    have h4 := Nat.mul_le_mul_right (256 ^ r.length) h3
    simp only [List.length_cons, Nat.pow_succ, Nat.zero_mul, Nat.zero_add]; omega
theorem fix_uval (l : List Int) (h : Bs l) : ∀ a, fixN l.length (uval a l) = l := by
  induction l with
  | nil => intro a; rfl
  | cons c r ih =>
    intro a
    have hc := h.head
    show ((uval (a * 256 + c.toNat) r / 256 ^ r.length % 256 : Nat) : Int) :: fixN r.length (uval (a * 256 + c.toNat) r) = c :: r
    rw [ih h.tail]
    congr 1
    rw [uval_acc, Nat.mul_comm, Nat.mul_add_div (Nat.pow_pos (by decide)), Nat.div_eq_of_lt (uval_lt r h.tail)]
    omega
end Go.Proofs.Ytaiechbdcddalaa.Plain
