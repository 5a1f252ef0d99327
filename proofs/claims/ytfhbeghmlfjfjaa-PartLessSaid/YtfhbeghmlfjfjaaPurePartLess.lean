/- A greater vertex is in no lesser shard, and with one shard all are in it: for every number of vertices from 1 to 2^32, of shards up to 16, and every two vertices. -/
import Derived.Test.YtfhbeghmlfjfjaaSpecPart
import Derived.Test.YtfhbeghmlfjfjaaPrint6
set_option linter.unusedVariables false
set_option linter.unusedSimpArgs false
namespace Go.Proofs.Ytfhbeghmlfjfjaa.Pure
open Go.RowKit Go.Proofs.Ytfhbeghmlfjfjaa.Print Go.Proofs.YtfhbeghmlfjfjaaW.PrintWords Go.Proofs.YtfhbeghmlfjfjaaW.PrintLast Go.Proofs.YtfhbeghmlfjfjaaW.PrintMore Go.Proofs.Ytfhbeghmlfjfjaa.Plain

theorem PartLess : creellaw19_PartLess.Pure := by
  intro n s a b hn hs ha hb
  obtain ⟨hn0, hn1⟩ := wf_u32 hn
  obtain ⟨hs0, hs1⟩ := wf_u8 hs
  obtain ⟨ha0, ha1⟩ := wf_u32 ha
  obtain ⟨hb0, hb1⟩ := wf_u32 hb
  refine Ev.rounds ?_
  unfold creellaw19_PartLess.f
  refine Ev.bind shown19_ev ?_
  rw [w64_in (n := n) (by omega) (by omega), w64_in (n := n + 1) (by omega) (by omega), w64_in (n := a) (by omega) (by omega), w64_in (n := b) (by omega) (by omega), Int.tmod_eq_emod_of_nonneg hs0, Int.tmod_eq_emod_of_nonneg ha0, Int.tmod_eq_emod_of_nonneg hb0, w64_in (n := s % 16) (by omega) (by omega), w64_in (n := s % 16 + 1) (by omega) (by omega)]
  have h1 := Int.emod_nonneg a (show n + 1 ≠ 0 by omega)
  have h2 := Int.emod_lt_of_pos a (show 0 < n + 1 by omega)
  have h3 := Int.emod_nonneg b (show n + 1 ≠ 0 by omega)
  have h4 := Int.emod_lt_of_pos b (show 0 < n + 1 by omega)
  obtain ⟨x, hx0, hx1, hxe⟩ : ∃ x, 0 ≤ x ∧ x < n + 1 ∧ mn (a % (n + 1)) (b % (n + 1)) = x := ⟨_, by unfold mn; split <;> omega, by unfold mn; split <;> omega, rfl⟩
  obtain ⟨y, hxy, hy1, hye⟩ : ∃ y, x ≤ y ∧ y < n + 1 ∧ mx (a % (n + 1)) (b % (n + 1)) = y := ⟨_, by rw [← hxe]; unfold mn mx; split <;> split <;> omega, by unfold mx; split <;> omega, rfl⟩
  rw [hxe, hye]
  obtain ⟨m, hm⟩ := Int.eq_ofNat_of_zero_le (show 0 ≤ n + 1 by omega)
  obtain ⟨t, ht⟩ := Int.eq_ofNat_of_zero_le (show 0 ≤ s % 16 + 1 by omega)
  obtain ⟨x', rfl⟩ := Int.eq_ofNat_of_zero_le hx0
  obtain ⟨y', rfl⟩ := Int.eq_ofNat_of_zero_le (show 0 ≤ y by omega)
  rw [hm, ht]
  have hR : Right (m : Int) (t : Int) := by unfold Right; omega
  have hR1 : Right (m : Int) 1 := by unfold Right; omega
  have e1 : ofS m t x' = ((shardOf m t x' : Int), true) := by unfold ofS; rw [if_pos ⟨hR, by omega, by omega⟩]; rfl
  have e2 : ofS m t y' = ((shardOf m t y' : Int), true) := by unfold ofS; rw [if_pos ⟨hR, by omega, by omega⟩]; rfl
  have e3 : ofS m 1 x' = (0, true) := by
    unfold ofS; rw [if_pos ⟨hR1, by omega, by omega⟩]
    show ((shardOf m 1 x' : Int), true) = _
    rw [shard_one (by omega)]; rfl
  have hl := shard_lt (n := m) (s := t) (v := y') (by omega) (by omega) (by omega)
  have hmo := shard_mono (n := m) (s := t) (v := x') (w := y') (by omega)
  refine Ev.congr (f := fun k => (part_Of.f k m t x').bind fun bt1 => ((part_Of.f k m t y').bind fun bt2 => ((part_Of.f k m 1 x').bind fun bt3 => (if true = true then (if bt1.2 = true then (if bt2.2 = true then (if bt1.1 ≤ bt2.1 then (if bt2.1 < (t : Int) then (if bt3.2 = true then (some (bt3.1 == 0)) else (some false)) else (some false)) else (some false)) else (some false)) else (some false)) else (some false))))) (fun k => by rw [if_neg (by omega)]) ?_
  refine Ev.bind (Ev.eq (Of_ev m t x') e1) (Ev.bind (Ev.eq (Of_ev m t y') e2) (Ev.bind (Ev.eq (Of_ev m 1 x') e3) (all_ev fun k => ?_)))
  rw [if_pos rfl, if_pos rfl, if_pos rfl, if_pos (by show (shardOf m t x' : Int) ≤ (shardOf m t y' : Int); omega), if_pos (by show (shardOf m t y' : Int) < (t : Int); omega), if_pos rfl]
  rfl

end Go.Proofs.Ytfhbeghmlfjfjaa.Pure
