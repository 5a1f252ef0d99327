/- What was put is told, and, cut, what is whole of it, and where it goes on. -/
import Derived.Test.YthnjeddcnkbebaaSpecDumpItems
import Derived.Test.YthnjeddcnkbebaaPrint8
set_option linter.unusedVariables false
set_option linter.unusedSimpArgs false
namespace Go.Proofs.Ythnjeddcnkbebaa.Pure
open Go.RowKit Go.Proofs.Ythnjeddcnkbebaa.Print Go.Proofs.YthnjeddcnkbebaaW.PrintWords Go.Proofs.YthnjeddcnkbebaaW.PrintLast Go.Proofs.YthnjeddcnkbebaaW.PrintMore Go.Proofs.Ythnjeddcnkbebaa.Plain

theorem sn_append (a b : List Int) : strOfNums a ++ strOfNums b = strOfNums (a ++ b) := by
  apply ByteArray.ext
  simp [strOfNums]
theorem sn_size (a : List Int) : (strOfNums a).size = a.length := by simp [strOfNums, ByteArray.size]
theorem sn_head : (⟨#[99, 114, 101, 101, 108, 100, 109, 112]⟩ : ByteArray) = strOfNums Hand.headN := by decide +kernel
theorem DumpBack : creellaw10_DumpBack.Pure := by
  intro l at_ _ hl hat
  have ha := wf_u16 hat
  have hw : WfE (l.take (min l.length 100)) := (wfE_of hl).take _
  have hn : (l.take (min l.length 100)).length ≤ 100 := by rw [List.length_take]; omega
  generalize hx : l.take (min l.length 100) = x at *
  have lx := putD_len x
  obtain ⟨k1, h1⟩ := shown10_ev
  obtain ⟨k2, h2⟩ := dump_Put_ev x hw (by omega)
  obtain ⟨N_, hN⟩ : ∃ N_, at_.toNat % ((putD x).length + 1) = N_ := ⟨_, rfl⟩
  have hlt : N_ < 9 + 8 * x.length := by rw [← hN, lx]; have := Nat.mod_lt at_.toNat (show 0 < 8 + 8 * x.length + 1 by omega); omega
  refine ⟨max k1 k2, at_.toNat, x, putD x, x.map itemOf, Hand.itemsR S36.mk ((putD x).take N_), N_, (Int.toNat_of_nonneg ha.1).symm, by omega, rfl, h1 _ (Nat.le_max_left _ _), h2 _ (Nat.le_max_right _ _), lx, itemsR_put x, List.length_map _, hN, rfl, ?_, ?_, ?_⟩
  · intro i hi
    have hm : x[i] ∈ x := List.getElem_mem hi
    rw [rd36_map x i hi, rd38 x i hi]
    obtain ⟨k3, h3⟩ := dump_Put_ev [x[i]] (fun y hy => by cases List.mem_singleton.1 hy; exact hw _ hm) (by show 1 ≤ 1000; decide)
    have s1 : (strOfNums (itemOf x[i]).f1).size = 4 := by rw [sn_size]; exact edgeA_len _
    have s2 : (strOfNums (itemOf x[i]).f2).size = 4 := by rw [sn_size]; exact edgeB_len _
    refine ⟨rfl, rfl, by omega, by omega, k3, putD [x[i]], h3 _ (Nat.le_refl _), ?_⟩
    rw [sn_head, sn_append, sn_append]
    have : putD [x[i]] = Hand.headN ++ (itemOf x[i]).f1 ++ (itemOf x[i]).f2 := by
      show Hand.headN ++ (edgeA x[i] ++ edgeB x[i] ++ []) = Hand.headN ++ edgeA x[i] ++ edgeB x[i]
      rw [List.append_nil, List.append_assoc]
    rw [this]
  · intro h8
    rw [itemsR_short _ (by rw [List.length_take]; omega)]
    exact ⟨rfl, rfl⟩
  · intro h8 want hwant
    rw [itemsR_cut x N_ (by omega) (by omega)]
    have hc : cutItems x 8 (N_ - 8) = want := by
      rw [hwant]
      unfold cutItems
      rw [show (N_ - 8) % 8 = N_ % 8 by omega]
    have hlen : (cutItems x 8 (N_ - 8)).length ≤ 10000000 := by
      unfold cutItems
      have : (if (N_ - 8) % 8 = 0 then ([] : List S36) else [⟨false, [], [], 5, 8 + ((8 * ((N_ - 8) / 8) : Nat) : Int)⟩]).length ≤ 1 := by split <;> simp
      rw [List.length_append, List.length_take, List.length_map]
      omega
    obtain ⟨k3, h3⟩ := sameAll_ev _ _ hc hlen
    exact ⟨k3, h3 _ (Nat.le_refl _)⟩

end Go.Proofs.Ythnjeddcnkbebaa.Pure
