/- What the printed functions of layer 19 (part, and its reference) compute, told by the plain laws. -/
import Derived.Test.YtfhbeghmlfjfjaaPrint2
import Derived.Test.YtfhbeghmlfjfjaaPrint4
import Derived.Test.YtfhbeghmlfjfjaaPrint8
import Derived.Test.YtfhbeghmlfjfjaaSpecTools
set_option linter.unusedVariables false
set_option linter.unusedSimpArgs false
namespace Go.Proofs.Ytfhbeghmlfjfjaa.Plain
open Go.RowKit Go.Proofs.YtfhbeghmlfjfjaaW.PrintWords Go.Proofs.YtfhbeghmlfjfjaaW.PrintLast Go.Proofs.YtfhbeghmlfjfjaaW.PrintMore Go.Proofs.Ytfhbeghmlfjfjaa.Print

def Right (n s : Int) : Prop := 0 ≤ n ∧ n ≤ 4294967296 ∧ 1 ≤ s ∧ s ≤ 16
instance (n s : Int) : Decidable (Right n s) := by unfold Right; infer_instance

theorem right_eq (n s : Int) : part_right.f n s = some (decide (Right n s)) := by
  unfold part_right.f
  by_cases h0 : n ≥ 0
  · by_cases h1 : n ≤ 4294967296
    · by_cases h2 : s ≥ 1
      · rw [if_pos h0, if_pos h1, if_pos h2]
        congr 1
        rw [Bool.eq_iff_iff, decide_eq_true_eq, decide_eq_true_eq]; unfold Right; omega
      · rw [if_pos h0, if_pos h1, if_neg h2, decide_eq_false]; unfold Right; omega
    · rw [if_pos h0, if_neg h1, decide_eq_false]; unfold Right; omega
  · rw [if_neg h0, decide_eq_false]; unfold Right; omega
/-- Which vertices are in a shard. -/
def rangeS (n s k : Int) : Int × Int := if Right n s ∧ 0 ≤ k ∧ k < s then ((lo n.toNat s.toNat k.toNat : Int), (lo n.toNat s.toNat (k.toNat + 1) : Int)) else (0, 0)
theorem cut_eq {n s k : Nat} (hn : n ≤ 4294967296) (hs : 1 ≤ s) (hs6 : s ≤ 16) (hk : k ≤ 16) : wrap64 (Int.tdiv (wrap64 ((n : Int) * (k : Int))) (s : Int)) = (lo n s k : Int) := by
  have h1 : n * k ≤ 4294967296 * 16 := Nat.mul_le_mul hn hk
  have h2 : n * k / s ≤ n * k := Nat.div_le_self _ _
  have h3 : (0 : Int) ≤ ((n * k / s : Nat) : Int) := Int.natCast_nonneg _
  rw [w64_in (n := (n : Int) * (k : Int)) (by rw [← Int.natCast_mul]; omega) (by rw [← Int.natCast_mul]; omega), Int.tdiv_eq_ediv_of_nonneg (by rw [← Int.natCast_mul]; omega), ← Int.natCast_mul, ← Int.natCast_ediv, w64_in (by omega) (by omega)]
  rfl
theorem range_none {n s k : Int} (h : ¬ (Right n s ∧ 0 ≤ k ∧ k < s)) : rangeS n s k = (0, 0) := by unfold rangeS; rw [if_neg h]
theorem Range_eq (n s k : Int) : part_Range.f n s k = some (rangeS n s k) := by
  unfold part_Range.f
  rw [right_eq]
  simp only [Option.bind_some]
  by_cases hr : Right n s
  · rw [if_pos (by simpa using hr)]
    by_cases hk : 0 ≤ k ∧ k < s
    · unfold rangeS
      obtain ⟨h0, h1, h2, h3⟩ := hr
      obtain ⟨n', rfl⟩ := Int.eq_ofNat_of_zero_le h0
      obtain ⟨s', rfl⟩ := Int.eq_ofNat_of_zero_le (show 0 ≤ s by omega)
      obtain ⟨k', rfl⟩ := Int.eq_ofNat_of_zero_le hk.1
      rw [if_neg (by omega), if_neg (by omega), if_neg (by omega), if_pos ⟨⟨h0, h1, h2, h3⟩, hk⟩, w64_in (n := (k' : Int) + 1) (by omega) (by omega), cut_eq (by omega) (by omega) (by omega) (by omega), show (k' : Int) + 1 = ((k' + 1 : Nat) : Int) by omega, cut_eq (by omega) (by omega) (by omega) (by omega)]
      rfl
    · rw [range_none (fun h => hk h.2)]
      by_cases h0 : k < 0
      · rw [if_pos h0]
      · rw [if_neg h0, if_pos (by omega)]
  · rw [if_neg (by simpa using hr), range_none (fun h => hr h.1)]
theorem refRange_eq (n s k : Int) : creelref19_Range.f n s k = some (rangeS n s k) := by
  have h := Range_eq n s k
  rw [← h]
  unfold creelref19_Range.f part_Range.f
  rw [right_eq]
  simp only [Option.bind_some]
  by_cases hr : Right n s
  · obtain ⟨h0, h1, h2, h3⟩ := hr
    have hd : decide (Right n s) = true := decide_eq_true ⟨h0, h1, h2, h3⟩
    rw [if_neg (show ¬ n < 0 by omega), if_neg (show ¬ n > 4294967296 by omega), if_neg (show ¬ s < 1 by omega), if_neg (show ¬ s > 16 by omega), if_pos hd]
  · have hd : ¬ decide (Right n s) = true := by simpa using hr
    rw [if_neg hd]
    unfold Right at hr
    by_cases h0 : n < 0
    · rw [if_pos h0]
    · by_cases h1 : n > 4294967296
      · rw [if_neg h0, if_pos h1]
      · by_cases h2 : s < 1
        · rw [if_neg h0, if_neg h1, if_pos h2]
        · rw [if_neg h0, if_neg h1, if_neg h2, if_pos (by omega)]

/-- The shard of a vertex. -/
def ofS (n s v : Int) : Int × Bool := if Right n s ∧ 0 ≤ v ∧ v < n then ((shardOf n.toNat s.toNat v.toNat : Int), true) else (0, false)
theorem range_at {n s : Nat} (hn : n ≤ 4294967296) (hs : 1 ≤ s) (hs6 : s ≤ 16) {k : Nat} (hk : k < s) : rangeS n s k = ((lo n s k : Int), (lo n s (k + 1) : Int)) := by
  unfold rangeS Right; rw [if_pos (by omega)]; rfl
theorem Of_loop (n s v : Nat) (hn : n ≤ 4294967296) (hs : 1 ≤ s) (hs6 : s ≤ 16) (hv : v < n) : ∀ (d k : Nat), k + d = shardOf n s v → Ev (fun r => part_Of.l0 r n s v k) ((shardOf n s v : Int), true) := by
  intro d
  have hlt := shard_lt (show 0 < n by omega) (show 0 < s by omega) hv
  induction d with
  | zero =>
    intro k hk
    refine some_ev fun r => ?_
    simp only [part_Of.l0, Range_eq, Option.bind_some]
    rw [range_at hn hs hs6 (by omega)]
    have h1 := (lo_le (k := k) (v := v) (show 0 < n by omega) (show 0 < s by omega)).2 (by omega)
    have h2 := (lt_lo (k := k + 1) (v := v) (show 0 < n by omega) (show 0 < s by omega)).2 (by omega)
    rw [if_neg (by show ¬ ((v : Int) < (lo n s k : Int)); omega), if_neg (by show ¬ ((v : Int) ≥ (lo n s (k + 1) : Int)); omega), show k = shardOf n s v by omega]
  | succ d ih =>
    intro k hk
    refine Ev.step (f := fun r => part_Of.l0 r n s v ((k + 1 : Nat) : Int)) (fun r => ?_) (ih (k + 1) (by omega))
    simp only [part_Of.l0, Range_eq, Option.bind_some]
    rw [range_at hn hs hs6 (by omega)]
    have h1 := (lo_le (k := k) (v := v) (show 0 < n by omega) (show 0 < s by omega)).2 (by omega)
    have h2 := (lo_le (k := k + 1) (v := v) (show 0 < n by omega) (show 0 < s by omega)).2 (by omega)
    rw [if_neg (by show ¬ ((v : Int) < (lo n s k : Int)); omega), if_pos (by show (v : Int) ≥ (lo n s (k + 1) : Int); omega), w64_in (by omega) (by omega)]
    rfl
theorem Of_ev (n s v : Int) : Ev (fun r => part_Of.f r n s v) (ofS n s v) := by
  unfold part_Of.f ofS
  simp only [right_eq, Option.bind_some]
  by_cases hr : Right n s
  · by_cases hv : 0 ≤ v ∧ v < n
    · rw [if_pos ⟨hr, hv⟩]
      obtain ⟨h0, h1, h2, h3⟩ := hr
      have hr : Right n s := ⟨h0, h1, h2, h3⟩
      obtain ⟨n', rfl⟩ := Int.eq_ofNat_of_zero_le h0
      obtain ⟨s', rfl⟩ := Int.eq_ofNat_of_zero_le (show 0 ≤ s by omega)
      obtain ⟨v', rfl⟩ := Int.eq_ofNat_of_zero_le hv.1
      have hf := first_le (n := n') (s := s') (v := v') (by omega) (by omega)
      have hb : v' * s' ≤ 4294967296 * 16 := Nat.mul_le_mul (by omega) (by omega)
      have hq : v' * s' / n' ≤ v' * s' := Nat.div_le_self _ _
      have hq0 : (0 : Int) ≤ ((v' * s' / n' : Nat) : Int) := Int.natCast_nonneg _
      refine Ev.congr (f := fun r => part_Of.j0 r n' s' v' false) (fun r => ?_) ?_
      · rw [if_pos (by simpa using hr), if_neg (by omega), decide_eq_false (by omega)]
      refine Ev.step (f := fun r => part_Of.l0 r n' s' v' ((v' * s' / n' : Nat) : Int)) (fun r => ?_) (Of_loop n' s' v' (by omega) (by omega) (by omega) (by omega) (shardOf n' s' v' - v' * s' / n') _ (by omega))
      simp only [part_Of.j0]
      rw [if_neg (by decide), if_neg (by omega), w64_in (n := (v' : Int) * (s' : Int)) (by rw [← Int.natCast_mul]; omega) (by rw [← Int.natCast_mul]; omega), Int.tdiv_eq_ediv_of_nonneg (by rw [← Int.natCast_mul]; omega), ← Int.natCast_mul, ← Int.natCast_ediv, w64_in (by omega) (by omega)]
    · rw [if_neg (fun h => hv h.2)]
      refine Ev.congr (f := fun r => part_Of.j0 r n s v true) (fun r => ?_) (some_ev fun r => by simp only [part_Of.j0]; rw [if_pos trivial])
      rw [if_pos (by simpa using hr)]
      by_cases h0 : v < 0
      · rw [if_pos h0]
      · rw [if_neg h0, decide_eq_true (by omega)]
  · rw [if_neg (fun h => hr h.1)]
    refine Ev.congr (f := fun r => part_Of.j0 r n s v true) (fun r => ?_) (some_ev fun r => by simp only [part_Of.j0]; rw [if_pos trivial])
    rw [if_neg (by simpa using hr)]
theorem refOf_none (n s v : Int) (h : ∀ k, ¬ ((rangeS n s k).1 ≤ v ∧ v < (rangeS n s k).2)) : ∀ (d k : Nat), k + d = 17 → Ev (fun r => creelref19_Of.l0 r n s v k) (0, false) := by
  have hend : ∀ k : Int, Ev (fun r => creelref19_Of.j1 r n s v k false) (0, false) := fun k => some_ev fun r => by simp only [creelref19_Of.j1]; rw [if_neg (by decide)]
  intro d
  induction d with
  | zero =>
    intro k hk
    refine Ev.step (f := fun r => creelref19_Of.j1 r n s v k false) (fun r => ?_) (hend k)
    simp only [creelref19_Of.l0]
    by_cases h1 : (k : Int) < s
    · rw [if_pos h1, decide_eq_false (by omega)]
    · rw [if_neg h1]
  | succ d ih =>
    intro k hk
    by_cases h1 : (k : Int) < s
    · by_cases h2 : (k : Int) < 16
      · refine Ev.step (f := fun r => creelref19_Of.j1 r n s v k true) (fun r => ?_) ?_
        · simp only [creelref19_Of.l0]; rw [if_pos h1, decide_eq_true h2]
        · refine Ev.step (f := fun r => creelref19_Of.l0 r n s v ((k + 1 : Nat) : Int)) (fun r => ?_) (ih (k + 1) (by omega))
          simp only [creelref19_Of.j1, refRange_eq, Option.bind_some]
          rw [if_pos trivial]
          have := h k
          have hw : wrap64 ((k : Int) + 1) = ((k + 1 : Nat) : Int) := by rw [w64_in (by omega) (by omega)]; rfl
          by_cases h3 : v ≥ (rangeS n s k).1
          · rw [if_pos h3, if_neg (fun h4 => this ⟨h3, h4⟩), hw]
          · rw [if_neg h3, hw]
      · refine Ev.step (f := fun r => creelref19_Of.j1 r n s v k false) (fun r => ?_) (hend k)
        simp only [creelref19_Of.l0]; rw [if_pos h1, decide_eq_false h2]
    · refine Ev.step (f := fun r => creelref19_Of.j1 r n s v k false) (fun r => ?_) (hend k)
      simp only [creelref19_Of.l0]; rw [if_neg h1]
theorem refOf_some (n s v : Nat) (hn : n ≤ 4294967296) (hs : 1 ≤ s) (hs6 : s ≤ 16) (hv : v < n) : ∀ (d k : Nat), k + d = shardOf n s v → Ev (fun r => creelref19_Of.l0 r n s v k) ((shardOf n s v : Int), true) := by
  have hlt := shard_lt (show 0 < n by omega) (show 0 < s by omega) hv
  intro d
  induction d with
  | zero =>
    intro k hk
    refine Ev.step (f := fun r => creelref19_Of.j1 r n s v k true) (fun r => ?_) (some_ev fun r => ?_)
    · simp only [creelref19_Of.l0]; rw [if_pos (by omega), decide_eq_true (by omega)]
    simp only [creelref19_Of.j1, refRange_eq, Option.bind_some]
    rw [if_pos trivial, range_at hn hs hs6 (by omega)]
    have h1 := (lo_le (k := k) (v := v) (show 0 < n by omega) (show 0 < s by omega)).2 (by omega)
    have h2 := (lt_lo (k := k + 1) (v := v) (show 0 < n by omega) (show 0 < s by omega)).2 (by omega)
    rw [if_pos (by show (v : Int) ≥ (lo n s k : Int); omega), if_pos (by show (v : Int) < (lo n s (k + 1) : Int); omega), show k = shardOf n s v by omega]
  | succ d ih =>
    intro k hk
    refine Ev.step (f := fun r => creelref19_Of.j1 r n s v k true) (fun r => ?_) ?_
    · simp only [creelref19_Of.l0]; rw [if_pos (by omega), decide_eq_true (by omega)]
    refine Ev.step (f := fun r => creelref19_Of.l0 r n s v ((k + 1 : Nat) : Int)) (fun r => ?_) (ih (k + 1) (by omega))
    simp only [creelref19_Of.j1, refRange_eq, Option.bind_some]
    rw [if_pos trivial, range_at hn hs hs6 (by omega)]
    have h1 := (lo_le (k := k) (v := v) (show 0 < n by omega) (show 0 < s by omega)).2 (by omega)
    have h2 := (lo_le (k := k + 1) (v := v) (show 0 < n by omega) (show 0 < s by omega)).2 (by omega)
    rw [if_pos (by show (v : Int) ≥ (lo n s k : Int); omega), if_neg (by show ¬ (v : Int) < (lo n s (k + 1) : Int); omega), w64_in (by omega) (by omega)]
    rfl
theorem refOf_ev (n s v : Int) : Ev (fun r => creelref19_Of.f r n s v) (ofS n s v) := by
  unfold creelref19_Of.f ofS
  by_cases hr : Right n s ∧ 0 ≤ v ∧ v < n
  · rw [if_pos hr]
    obtain ⟨⟨h0, h1, h2, h3⟩, hv⟩ := hr
    obtain ⟨n', rfl⟩ := Int.eq_ofNat_of_zero_le h0
    obtain ⟨s', rfl⟩ := Int.eq_ofNat_of_zero_le (show 0 ≤ s by omega)
    obtain ⟨v', rfl⟩ := Int.eq_ofNat_of_zero_le hv.1
    exact refOf_some n' s' v' (by omega) (by omega) (by omega) (by omega) _ 0 (Nat.zero_add _)
  · rw [if_neg hr]
    refine refOf_none n s v (fun k => ?_) 17 0 (by omega)
    unfold rangeS
    by_cases hk : Right n s ∧ 0 ≤ k ∧ k < s
    · rw [if_pos hk]
      obtain ⟨h0, h1, h2, h3⟩ := hk.1
      have hr' : Right n s := ⟨h0, h1, h2, h3⟩
      have hl : lo n.toNat s.toNat (k.toNat + 1) ≤ n.toNat := by
        unfold lo
        have : n.toNat * (k.toNat + 1) ≤ n.toNat * s.toNat := Nat.mul_le_mul_left _ (by omega)
        have h5 := Nat.div_le_div_right (c := s.toNat) this
        rwa [Nat.mul_div_cancel _ (show 0 < s.toNat by omega)] at h5
      rintro ⟨h4, h5⟩
      exact hr ⟨hr', by simp only at h4 h5; omega⟩
    · rw [if_neg hk]
      rintro ⟨h4, h5⟩
      simp only at h4 h5; omega

/-! ### What becomes of an edge -/
def edgesS (a b : Int) (both loops : Bool) : List S28 := if a = b then (if loops then [⟨a, b⟩] else []) else if both then [⟨a, b⟩, ⟨b, a⟩] else [⟨a, b⟩]
theorem Edges_ev (a b c0 : Int) (c1 c2 c3 c4 c5 : Bool) (c6 c7 c8 : Int) : Ev (fun k => part_Edges.f k a b c0 c1 c2 c3 c4 c5 c6 c7 c8) (edgesS a b c3 c4) := by
  unfold part_Edges.f edgesS
  by_cases h : a = b
  · rw [if_pos h]
    refine Ev.congr (f := fun k => part_Edges.j0 k a b (!c4) c0 c1 c2 c3 c4 c5 c6 c7 c8) (fun k => by rw [if_pos h]) (some_ev fun k => ?_)
    simp only [part_Edges.j0]
    cases c4
    · rfl
    · rw [if_neg (by decide), if_pos h]; rfl
  · rw [if_neg h]
    refine Ev.congr (f := fun k => part_Edges.j0 k a b false c0 c1 c2 c3 c4 c5 c6 c7 c8) (fun k => by rw [if_neg h]) (some_ev fun k => ?_)
    simp only [part_Edges.j0]
    rw [if_neg (by decide), if_neg h]
    cases c3 <;> rfl
theorem refEdges_ev (a b c0 : Int) (c1 c2 c3 c4 c5 : Bool) (c6 c7 c8 : Int) : Ev (fun k => creelref19_Edges.f k a b c0 c1 c2 c3 c4 c5 c6 c7 c8) (edgesS a b c3 c4) := by
  unfold creelref19_Edges.f edgesS
  by_cases h : a = b
  · rw [if_pos h]
    refine Ev.congr (f := fun k => creelref19_Edges.j0 k a b (!c4) c0 c1 c2 c3 c4 c5 c6 c7 c8) (fun k => by rw [if_pos h]) (some_ev fun k => ?_)
    simp only [creelref19_Edges.j0, Option.bind_some]
    cases c4
    · rfl
    · rw [if_neg (by decide)]
      cases c3 <;> simp [h]
  · rw [if_neg h]
    refine Ev.congr (f := fun k => creelref19_Edges.j0 k a b false c0 c1 c2 c3 c4 c5 c6 c7 c8) (fun k => by rw [if_neg h]) (some_ev fun k => ?_)
    simp only [creelref19_Edges.j0, Option.bind_some]
    rw [if_neg (by decide)]
    cases c3 <;> simp [h]
theorem shown19_ev : Ev (fun k => creellaw19_shown.f k) true := by
  unfold creellaw19_shown.f
  simp only [Range_eq, Option.bind_some]
  refine Ev.bind (Edges_ev ..) (all_ev fun k => ?_)
  rw [show rangeS 10 3 2 = (6, 10) by decide]
  rfl

end Go.Proofs.Ytfhbeghmlfjfjaa.Plain
