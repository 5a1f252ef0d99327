/- What is told is the caller's, and what was handed in, too. -/
import Derived.Test.YtnkjbgoibmbmoaaSpecRise18
import Derived.Test.YtnkjbgoibmbmoaaPrint6
set_option linter.unusedVariables false
set_option linter.unusedSimpArgs false
namespace Go.Proofs.Ytnkjbgoibmbmoaa.Pure
open Go.RowKit Go.Proofs.Ytnkjbgoibmbmoaa.Print Go.Proofs.YtnkjbgoibmbmoaaW.PrintWords Go.Proofs.YtnkjbgoibmbmoaaW.PrintLast Go.Proofs.YtnkjbgoibmbmoaaW.PrintMore Go.Proofs.Ytnkjbgoibmbmoaa.Plain

theorem ShardOwn : creellaw18_ShardOwn.Pure := by
  intro m at_ l hm hat hl hw
  obtain ⟨h1, h2, h3, h4⟩ := riseL_facts (wf_us hw)
  have hx : ∀ x ∈ riseL l, x.length ≤ 60 := fun y hy => by
    obtain ⟨x, hx, rfl⟩ := List.mem_map.1 hy
    have g := few60_facts l
    exact Nat.le_trans (riseN_facts (wf_us hw x (g.2 x hx).2)).2.2 (g.2 x hx).1
  have hok : m + (riseL l).length ≤ 4294967296 := by omega
  have hu := fileS_up (bodyS m (riseL l))
  have hb := bodyS_up (a := m) h1 hok
  have hbs := fileS_bs (bodyS_bs m (riseL l))
  have hne : 0 < (fileS (bodyS m (riseL l))).length := by
    have hf := frames_len (pieces (bodyS m (riseL l)))
    rw [pieces_flatten] at hf
    have hp := putN_ne m
    have : 0 < (bodyS m (riseL l)).length := by unfold bodyS; rw [List.length_append]; omega
    unfold fileS
    omega
  obtain ⟨K1, e1⟩ := shown18_ev
  obtain ⟨K2, e2⟩ := rise18_ev l hl
  obtain ⟨K3, e3⟩ := Build_ev m (riseL l) h1 (by omega) ⟨by omega, by omega⟩
  obtain ⟨K4, e4⟩ := Open_ev (fileS (bodyS m (riseL l))) hbs (by omega)
  rw [build_ok h3 hok] at e3
  rw [open_file h1 h3 hok] at e4
  obtain ⟨x, hxe⟩ : ∃ x, rd_L3 (riseL l) ((at_ % (riseL l).length : Nat) : Int) = x := ⟨_, rfl⟩
  by_cases h0 : 0 < (riseL l).length
  · have hxl : x.length ≤ 60 := by rw [← hxe]; exact hx _ (rdL_mem (Nat.mod_lt _ h0))
    obtain ⟨K5, e5⟩ := same17_ev x x (by omega)
    refine ⟨K1 + K2 + K3 + K4 + K5, riseL l, fileS (bodyS m (riseL l)), e1 _ (by omega), e2 _ (by omega), e3 _ (by omega), e4 _ (by omega), h4, hx, hne, by omega, fun _ => ?_⟩
    rw [hxe]
    have h := e5 (K1 + K2 + K3 + K4 + K5) (by omega)
    rw [decide_eq_true rfl] at h
    exact h
  · exact ⟨K1 + K2 + K3 + K4, riseL l, fileS (bodyS m (riseL l)), e1 _ (by omega), e2 _ (by omega), e3 _ (by omega), e4 _ (by omega), h4, hx, hne, by omega, fun h => absurd h h0⟩

end Go.Proofs.Ytnkjbgoibmbmoaa.Pure
