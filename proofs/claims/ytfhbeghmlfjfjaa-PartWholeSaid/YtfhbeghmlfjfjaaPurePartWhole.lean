/- Each vertex is in one shard, shards follow each other and are alike but for one vertex: for every number of vertices up to 2^32, of shards up to 16, and every vertex. -/
import Derived.Test.YtfhbeghmlfjfjaaSpecPart
import Derived.Test.YtfhbeghmlfjfjaaPrint5
set_option linter.unusedVariables false
set_option linter.unusedSimpArgs false
namespace Go.Proofs.Ytfhbeghmlfjfjaa.Pure
open Go.RowKit Go.Proofs.Ytfhbeghmlfjfjaa.Print Go.Proofs.YtfhbeghmlfjfjaaW.PrintWords Go.Proofs.YtfhbeghmlfjfjaaW.PrintLast Go.Proofs.YtfhbeghmlfjfjaaW.PrintMore Go.Proofs.Ytfhbeghmlfjfjaa.Plain

theorem whole_end (n s : Nat) (v : Int) (hn : n ≤ 4294967296) (hs : 1 ≤ s) (hs6 : s ≤ 16) (hv0 : 0 ≤ v) (hv1 : v < 18446744073709551616) :
    Ev (fun k => creellaw19_PartWhole.l0 k v true n s n s s) true := by
  have hR : Right (n : Int) (s : Int) := by unfold Right; omega
  by_cases h0 : n = 0
  · subst h0
    refine Ev.step (f := fun k => (part_Of.f k ((0 : Nat) : Int) s (wrap64 (v / 2))).bind fun bt => (if true = true then (some (!bt.2)) else (some false))) (fun k => ?_) ?_
    · simp only [creellaw19_PartWhole.l0]
      rw [if_neg (by omega), if_pos trivial, if_pos (by omega)]
    · have e : ofS ((0 : Nat) : Int) s (wrap64 (v / 2)) = (0, false) := if_neg (fun h => by have := h.2; omega)
      exact Ev.bind (Ev.eq (Of_ev _ _ _) e) (all_ev fun k => rfl)
  · have hw0 := Int.emod_nonneg v (show (n : Int) ≠ 0 by omega)
    have hw1 := Int.emod_lt_of_pos v (show (0 : Int) < (n : Int) by omega)
    have hw : wrap64 (Int.tmod v (IntKind.u64.wrap (n : Int))) = v % (n : Int) := by
      rw [u64_in (by omega) (by omega), Int.tmod_eq_emod_of_nonneg hv0, w64_in (by omega) (by omega)]
    obtain ⟨x, hx⟩ := Int.eq_ofNat_of_zero_le hw0
    have hlt := shard_lt (show 0 < n by omega) (show 0 < s by omega) (show x < n by omega)
    have h1 := (lo_le (k := shardOf n s x) (v := x) (show 0 < n by omega) (show 0 < s by omega)).2 (by omega)
    have h2 := (lt_lo (k := shardOf n s x + 1) (v := x) (show 0 < n by omega) (show 0 < s by omega)).2 (by omega)
    have e1 : ofS n s x = ((shardOf n s x : Int), true) := by unfold ofS; rw [if_pos ⟨hR, by omega, by omega⟩]; rfl
    have e2 : ofS n s n = (0, false) := by unfold ofS; rw [if_neg (by omega)]
    refine Ev.step (f := fun k => (part_Of.f k n s x).bind fun bt1 => ((part_Range.f n s bt1.1).bind fun bt2 => ((part_Of.f k n s n).bind fun bt3 => (if true = true then (if bt1.2 = true then (if (x : Int) ≥ bt2.1 then (if (x : Int) < bt2.2 then (some (!bt3.2)) else (some false)) else (some false)) else (some false)) else (some false))))) (fun k => ?_) ?_
    · simp only [creellaw19_PartWhole.l0, hw, hx]
      rw [if_neg (by omega), if_pos trivial, if_neg (by omega), if_neg (by rw [u64_in (by omega) (by omega)]; omega)]
    · refine Ev.bind (Ev.eq (Of_ev n s x) e1) ?_
      simp only [Range_eq, Option.bind_some]
      refine Ev.bind (Ev.eq (Of_ev n s n) e2) (all_ev fun k => ?_)
      rw [range_at hn hs hs6 hlt]
      rw [if_pos (by trivial), if_pos (by trivial), if_pos (by show (x : Int) ≥ (lo n s (shardOf n s x) : Int); omega), if_pos (by show (x : Int) < (lo n s (shardOf n s x + 1) : Int); omega)]
      rfl
theorem whole_loop (n s : Nat) (v : Int) (hn : n ≤ 4294967296) (hs : 1 ≤ s) (hs6 : s ≤ 16) (hv0 : 0 ≤ v) (hv1 : v < 18446744073709551616) : ∀ (d k : Nat), k + d = s →
    Ev (fun r => creellaw19_PartWhole.l0 r v true n s (lo n s k : Int) s k) true := by
  intro d
  induction d with
  | zero =>
    intro k hk
    obtain rfl : k = s := by omega
    rw [lo_all (show 0 < k by omega)]
    exact whole_end n k v hn hs hs6 hv0 hv1
  | succ d ih =>
    intro k hk
    obtain ⟨h1, h2⟩ := lo_step (n := n) (k := k) (show 0 < s by omega)
    have hle : ∀ j, j ≤ s → lo n s j ≤ n := fun j hj => by
      have := Nat.div_le_div_right (c := s) (Nat.mul_le_mul_left n hj)
      rwa [Nat.mul_div_cancel _ (show 0 < s by omega)] at this
    have h3 := hle k (by omega)
    have h4 := hle (k + 1) (by omega)
    have h5 : n / s ≤ n := Nat.div_le_self _ _
    have h6 : (0 : Int) ≤ ((n / s : Nat) : Int) := Int.natCast_nonneg _
    refine Ev.step (f := fun r => creellaw19_PartWhole.l0 r v true n s (lo n s (k + 1) : Int) s ((k + 1 : Nat) : Int)) (fun r => ?_) (ih (k + 1) (by omega))
    simp only [creellaw19_PartWhole.l0, Range_eq, Option.bind_some]
    rw [if_pos (by omega), range_at hn hs hs6 (by omega)]
    simp only
    rw [if_pos (by trivial), if_neg (by omega), if_neg (by omega), Int.tdiv_eq_ediv_of_nonneg (by omega), ← Int.natCast_ediv, w64_in (n := ((n / s : Nat) : Int)) (by omega) (by omega), w64_in (n := (lo n s (k + 1) : Int) - (lo n s k : Int)) (by omega) (by omega), w64_in (n := ((n / s : Nat) : Int) + 1) (by omega) (by omega), if_neg (by omega), if_neg (by omega), w64_in (n := (k : Int) + 1) (by omega) (by omega)]
    rfl

theorem PartWhole : creellaw19_PartWhole.Pure := by
  intro n s v hn hs hv
  obtain ⟨hn0, hn1⟩ := wf_u64 hn
  obtain ⟨hs0, hs1⟩ := wf_u8 hs
  obtain ⟨hv0, hv1⟩ := wf_u64 hv
  obtain ⟨m, rfl⟩ := Int.eq_ofNat_of_zero_le hn0
  obtain ⟨t, rfl⟩ := Int.eq_ofNat_of_zero_le hs0
  refine Ev.rounds ?_
  unfold creellaw19_PartWhole.f
  refine Ev.bind shown19_ev ?_
  rw [Int.tmod_eq_emod_of_nonneg (show (0 : Int) ≤ (t : Int) by omega), Int.tmod_eq_emod_of_nonneg hn0, w64_in (n := (m : Int) % 4294967297) (by omega) (by omega), w64_in (n := (t : Int) % 16) (by omega) (by omega), w64_in (n := (t : Int) % 16 + 1) (by omega) (by omega),
    show (m : Int) % 4294967297 = ((m % 4294967297 : Nat) : Int) by omega, show (t : Int) % 16 + 1 = ((t % 16 + 1 : Nat) : Int) by omega]
  have := whole_loop (m % 4294967297) (t % 16 + 1) v (by omega) (by omega) (by omega) hv0 hv1 (t % 16 + 1) 0 (by omega)
  rw [lo_zero] at this
  exact this

end Go.Proofs.Ytfhbeghmlfjfjaa.Pure
