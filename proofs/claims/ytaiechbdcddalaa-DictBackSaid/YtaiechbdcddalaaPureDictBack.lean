/- What is built opens again as what it was built of. -/
import Derived.Test.YtaiechbdcddalaaSpecDict
import Derived.Test.YtaiechbdcddalaaPrint9
import Derived.Test.YtaiechbdcddalaaPrint7
set_option linter.unusedVariables false
set_option linter.unusedSimpArgs false
namespace Go.Proofs.Ytaiechbdcddalaa.Pure
open Go.RowKit Go.Proofs.Ytaiechbdcddalaa.Print Go.Proofs.YtaiechbdcddalaaW.PrintWords Go.Proofs.YtaiechbdcddalaaW.PrintLast Go.Proofs.YtaiechbdcddalaaW.PrintMore Go.Proofs.Ytaiechbdcddalaa.Plain

theorem DictBack : creellaw16_DictBack.Pure := by
  intro l x hl hw hxl hxw
  have hb0 : Bsl l := fun y hy n hn => wf_u8 ((hw y hy).2 n hn)
  have hx : Bs x := fun n hn => wf_u8 (hxw n hn)
  obtain ⟨hb, hL, hok⟩ := riseD_facts hb0
  have hl9 : l.length ≤ 9223372036854775807 := by unfold maxLen at hl; omega
  obtain ⟨K1, e1⟩ := shown16_ev
  obtain ⟨K2, e2⟩ := rise16_ev l hl9
  obtain ⟨L, hLe⟩ : ∃ L, riseD l = L := ⟨_, rfl⟩
  rw [hLe] at hb hL hok e2
  have hup := fileD_up hok hb
  obtain ⟨K3, e3⟩ := Build_ev L hb (by omega)
  obtain ⟨K4, e4⟩ := Open_ev (fileD L) (fileD_bs hok hb) (by omega)
  obtain ⟨K5, e5⟩ := Same12_ev L (by omega)
  rw [openD_put hok hb] at e4
  have hd : dictP L = (fileD L, 0) := if_pos hok
  rw [hd] at e3
  have hfl := blocks_flatten L
  have hr := (rising_all L [] hok).2
  have hbf : Bsl (blocks L).flatten := by rw [hfl]; exact hb
  have hrf : Rising (blocks L).flatten := by rw [hfl]; exact hr
  refine ⟨K1 + K2 + K3 + K4 + K5, L, fileD L, blocks L, e1 _ (by omega), e2 _ (by omega), e3 _ (by omega), e4 _ (by omega), hfl, ?_, e5 _ (by omega), hL, fun i hi => ⟨?_, ?_⟩, up_all hbf hrf hx, ?_⟩
  · exact DFit_of (blocks_Fit L) (by rw [hfl]; exact hok) (by rw [hfl]; omega)
  · exact up_all hbf hrf (bs_wf hb hi)
  · have := id_at hbf hrf (i := i) (by rw [hfl]; exact hi)
    rw [hfl] at this
    exact this
  · rw [anyEq_mem hb hx]
    by_cases h : x ∈ L
    · rw [decide_eq_true h]
      obtain ⟨i, hi, he⟩ := idx_of h
      have := id_at hbf hrf (i := i) (by rw [hfl]; exact hi)
      rw [hfl, he] at this
      rw [this]
    · rw [decide_eq_false h, id_no hbf hx (by rw [hfl]; exact h)]

end Go.Proofs.Ytaiechbdcddalaa.Pure
