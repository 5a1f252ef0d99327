/- A cut file opens as no other labels, and two files in one not at all. -/
import Derived.Test.YtaiechbdcddalaaSpecDict
import Derived.Test.YtaiechbdcddalaaPrint9
import Derived.Test.YtaiechbdcddalaaPrint7
set_option linter.unusedVariables false
set_option linter.unusedSimpArgs false
namespace Go.Proofs.Ytaiechbdcddalaa.Pure
open Go.RowKit Go.Proofs.Ytaiechbdcddalaa.Print Go.Proofs.YtaiechbdcddalaaW.PrintWords Go.Proofs.YtaiechbdcddalaaW.PrintLast Go.Proofs.YtaiechbdcddalaaW.PrintMore Go.Proofs.Ytaiechbdcddalaa.Plain

theorem DictCut : creellaw16_DictCut.Pure := by
  intro l at_ hl hw hat
  have hb0 : Bsl l := fun y hy n hn => wf_u8 ((hw y hy).2 n hn)
  obtain ⟨hb, hL, hok⟩ := riseD_facts hb0
  have hl9 : l.length ≤ 9223372036854775807 := by unfold maxLen at hl; omega
  obtain ⟨K1, e1⟩ := shown16_ev
  obtain ⟨K2, e2⟩ := rise16_ev l hl9
  obtain ⟨L, hLe⟩ : ∃ L, riseD l = L := ⟨_, rfl⟩
  rw [hLe] at hb hL hok e2
  have hup := fileD_up hok hb
  have hbs := fileD_bs hok hb
  obtain ⟨c, hc⟩ : ∃ c, at_ % ((fileD L).length + 1) = c := ⟨_, rfl⟩
  have hcl : c ≤ (fileD L).length := by rw [← hc]; exact Nat.le_of_lt_succ (Nat.mod_lt _ (Nat.succ_pos _))
  obtain ⟨K3, e3⟩ := Build_ev L hb (by omega)
  obtain ⟨K4, e4⟩ := Open_ev ((fileD L).take c) (hbs.take c) (by rw [List.length_take]; omega)
  obtain ⟨K5, e5⟩ := Open_ev (fileD L ++ fileD L) (hbs.append hbs) (by rw [List.length_append]; omega)
  have hd : dictP L = (fileD L, 0) := if_pos hok
  rw [hd] at e3
  rcases openD_cut hok hb hcl with ⟨B, o1, o2, o3, o4, o5⟩ | ⟨o1, o2⟩
  · rw [o1] at e4
    obtain ⟨K6, e6⟩ := Same12_ev B.flatten (by omega)
    refine ⟨K1 + K2 + K3 + K4 + K5 + K6, L, fileD L, e1 _ (by omega), e2 _ (by omega), e3 _ (by omega), hL, by omega, fileD_zero hok hb, Or.inl ⟨B, ?_, DFit_of o2 (by rw [o4]; exact wordsOk_take hok _) (by omega), o3, ?_, o5⟩⟩
    · rw [hc]; exact e4 _ (by omega)
    · rw [← o4]; exact e6 _ (by omega)
  · rw [o1] at e4
    rw [openD_twice hok hb o2] at e5
    refine ⟨K1 + K2 + K3 + K4 + K5, L, fileD L, e1 _ (by omega), e2 _ (by omega), e3 _ (by omega), hL, by omega, fileD_zero hok hb, Or.inr ⟨?_, e5 _ (by omega)⟩⟩
    rw [hc]; exact e4 _ (by omega)

end Go.Proofs.Ytaiechbdcddalaa.Pure
