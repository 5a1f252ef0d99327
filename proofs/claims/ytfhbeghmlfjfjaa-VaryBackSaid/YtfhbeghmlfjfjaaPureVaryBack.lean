/- What was put is taken, with what stands behind it, and of each number there is one way to put it: any number, any bytes behind, any bytes that are taken (the first 200 each). -/
import Derived.Test.YtfhbeghmlfjfjaaSpecVaryLaws
import Derived.Test.YtfhbeghmlfjfjaaSpecWalk
import Derived.Test.YtfhbeghmlfjfjaaPrint13
import Derived.Test.YtfhbeghmlfjfjaaPrint12
set_option linter.unusedVariables false
set_option linter.unusedSimpArgs false
namespace Go.Proofs.Ytfhbeghmlfjfjaa.Pure
open Go.RowKit Go.Proofs.Ytfhbeghmlfjfjaa.Print Go.Proofs.YtfhbeghmlfjfjaaW.PrintWords Go.Proofs.YtfhbeghmlfjfjaaW.PrintLast Go.Proofs.YtfhbeghmlfjfjaaW.PrintMore Go.Proofs.Ytfhbeghmlfjfjaa.Plain

theorem some200 (l : List Int) : creellaw01_some.f l = some (l.take 200) := by
  unfold creellaw01_some.f mn
  by_cases h : 200 < (l.length : Int)
  · rw [if_pos h, if_pos (by omega), if_pos (by omega)]; rfl
  · rw [if_neg h, if_pos (by omega), if_pos (by omega), Int.toNat_natCast, List.take_of_length_le (by omega), List.take_of_length_le (by omega)]
theorem sn_append (a b : List Int) : strOfNums a ++ strOfNums b = strOfNums (a ++ b) := by
  apply ByteArray.ext
  simp [strOfNums]
theorem sn_size (a : List Int) : (strOfNums a).size = a.length := by simp [strOfNums, ByteArray.size]
theorem VaryBack : creellaw01_VaryBack.Pure := by
  intro n b c hn _ _ hb _ _ hc
  obtain ⟨n0, n1⟩ := wf_u64 hn
  obtain ⟨m, rfl⟩ := Int.eq_ofNat_of_zero_le n0
  have hb' : Bs (b.take 200) := Bs.take (fun y hy => wf_u8 (hb y hy)) 200
  have hc' : Bs (c.take 200) := Bs.take (fun y hy => wf_u8 (hc y hy)) 200
  have hbl : (b.take 200).length ≤ 200 := by rw [List.length_take]; omega
  have hcl : (c.take 200).length ≤ 200 := by rw [List.length_take]; omega
  have h10 := putN_len10 (n := m) (by omega)
  refine Ev.rounds ?_
  unfold creellaw01_VaryBack.f
  have hput := vary_Put_ev [] m (by omega) (by decide)
  rw [List.nil_append] at hput
  have htake := vary_Take_ev (putN m ++ b.take 200) ((putN_bs m).append hb') (by rw [List.length_append]; omega)
  rw [takeN_put (by omega)] at htake
  refine ev_bind shown1_ev (ev_bind hput (ev_got (some200 b) (ev_pos (by omega) (ev_bind htake (ev_pos rfl (ev_pos rfl (ev_got (some200 b) ?_)))))))
  have hq : ((strOfNums ((((m : Int), b.take 200, (0 : Int)) : Int × List Int × Int).2.1)).toList != (strOfNums (b.take 200)).toList) = false := by simp
  rw [hq]
  have hct := vary_Take_ev (c.take 200) hc' (by omega)
  refine Ev.step (fun k => creellaw01_VaryBack.j0.eq_2 _ _ _ _) ?_
  refine ev_neg (by decide) (ev_got (some200 c) (ev_bind hct ?_))
  rcases takeN_only hc' with ⟨k, r, hk, he, ht⟩ | ht | ht
  · rw [ht]
    have hp2 := vary_Put_ev [] k (by omega) (by decide)
    rw [List.nil_append] at hp2
    have hkl := putN_len10 (n := k) (by omega)
    have hrl : r.length ≤ 200 := by
      have := congrArg List.length he
      rw [List.length_append] at this; omega
    refine ev_pos rfl (ev_pos rfl (ev_bind hp2 (ev_pos ?_ (ev_got (some200 c) (ev_val ?_)))))
    · show (strOfNums (putN k)).size + (strOfNums r).size ≤ _
      rw [sn_size, sn_size]; omega
    · show ((strOfNums (putN k) ++ strOfNums r).toList == (strOfNums (c.take 200)).toList) = true
      rw [sn_append, ← he]; exact beq_self_eq_true _
  · rw [ht]; exact ev_pos rfl (ev_neg (by decide) (ev_pos rfl (ev_pos rfl (ev_val rfl))))
  · rw [ht]; exact ev_pos rfl (ev_neg (by decide) (ev_pos rfl (ev_pos rfl (ev_val rfl))))

end Go.Proofs.Ytfhbeghmlfjfjaa.Pure
