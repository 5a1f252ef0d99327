/- Labels stand by their bytes. -/
import Derived.Test.YtaiechbdcddalaaSpecDict
import Derived.Test.YtaiechbdcddalaaPrint9
import Derived.Test.YtaiechbdcddalaaPrint7
set_option linter.unusedVariables false
set_option linter.unusedSimpArgs false
namespace Go.Proofs.Ytaiechbdcddalaa.Pure
open Go.RowKit Go.Proofs.Ytaiechbdcddalaa.Print Go.Proofs.YtaiechbdcddalaaW.PrintWords Go.Proofs.YtaiechbdcddalaaW.PrintLast Go.Proofs.YtaiechbdcddalaaW.PrintMore Go.Proofs.Ytaiechbdcddalaa.Plain

theorem lex_num {L : List (List Int)} (hr : Rising L) {i j : Nat} (hi : i < L.length) (hj : j < L.length) : decide ((i : Int) < (j : Int)) = lexLess (L.getD i []) (L.getD j []) := by
  by_cases h : i < j
  · rw [rising_at hr h hj, decide_eq_true (by omega)]
  · rw [decide_eq_false (by omega)]
    rcases Nat.lt_or_ge j i with h2 | h2
    · rw [lex_asymm (rising_at hr h2 hi)]
    · obtain rfl : i = j := by omega
      rw [lex_irrefl]
theorem DictOrder : creellaw16_DictOrder.Pure := by
  intro l a b hl hw ha hbb
  have hb0 : Bsl l := fun y hy n hn => wf_u8 ((hw y hy).2 n hn)
  obtain ⟨hb, hL, hok⟩ := riseD_facts hb0
  have hl9 : l.length ≤ 9223372036854775807 := by unfold maxLen at hl; omega
  obtain ⟨K1, e1⟩ := shown16_ev
  obtain ⟨K2, e2⟩ := rise16_ev l hl9
  obtain ⟨L, hLe⟩ : ∃ L, riseD l = L := ⟨_, rfl⟩
  rw [hLe] at hb hL hok e2
  have hup := fileD_up hok hb
  obtain ⟨K3, e3⟩ := Build_ev L hb (by omega)
  obtain ⟨K4, e4⟩ := Open_ev (fileD L) (fileD_bs hok hb) (by omega)
  rw [openD_put hok hb] at e4
  have hd : dictP L = (fileD L, 0) := if_pos hok
  rw [hd] at e3
  have hfl := blocks_flatten L
  have hr := (rising_all L [] hok).2
  have hbf : Bsl (blocks L).flatten := by rw [hfl]; exact hb
  have hrf : Rising (blocks L).flatten := by rw [hfl]; exact hr
  refine ⟨K1 + K2 + K3 + K4, L, fileD L, blocks L, e1 _ (by omega), e2 _ (by omega), e3 _ (by omega), e4 _ (by omega), hfl, ?_, hL, fun h => (fileD_zero hok hb).2 h, fun h0 => ?_⟩
  · exact DFit_of (blocks_Fit L) (by rw [hfl]; exact hok) (by rw [hfl]; omega)
  · have hi := Nat.mod_lt a h0
    have hj := Nat.mod_lt b h0
    generalize a % L.length = i at *
    generalize b % L.length = j at *
    have i1 := id_at hbf hrf (i := i) (by rw [hfl]; exact hi)
    have i2 := id_at hbf hrf (i := j) (by rw [hfl]; exact hj)
    rw [hfl] at i1 i2
    refine ⟨(i : Int), (j : Int), up_all hbf hrf (bs_wf hb hi), up_all hbf hrf (bs_wf hb hj), i1, i2, ?_⟩
    rw [less_lex (bs_wf hb hi) (bs_wf hb hj)]
    exact lex_num hr hi hj

end Go.Proofs.Ytaiechbdcddalaa.Pure
