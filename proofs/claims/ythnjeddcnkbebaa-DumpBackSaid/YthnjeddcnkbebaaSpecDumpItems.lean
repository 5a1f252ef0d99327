/- The items of edges that were put, cut anywhere. -/
import Derived.Test.YthnjeddcnkbebaaSpecDump
set_option linter.unusedVariables false
set_option linter.unusedSimpArgs false
namespace Go.Proofs.Ythnjeddcnkbebaa.Plain
open Go.RowKit Go.Proofs.YthnjeddcnkbebaaW.PrintWords Go.Proofs.YthnjeddcnkbebaaW.PrintLast Go.Proofs.YthnjeddcnkbebaaW.PrintMore Go.Proofs.Ythnjeddcnkbebaa.Print

def itemOf (x : S38) : S36 := ⟨true, edgeA x, edgeB x, 0, 0⟩
theorem putE_take4 (x : S38) (l : List S38) : (putE (x :: l)).take 4 = edgeA x := by
  show (edgeA x ++ edgeB x ++ putE l).take 4 = _
  rw [List.append_assoc]; exact List.take_left' (edgeA_len x)
theorem putE_mid4 (x : S38) (l : List S38) : ((putE (x :: l)).drop 4).take 4 = edgeB x := by
  show ((edgeA x ++ edgeB x ++ putE l).drop 4).take 4 = _
  rw [List.append_assoc, List.drop_left' (edgeA_len x)]; exact List.take_left' (edgeB_len x)
theorem edge8 (x : S38) : (edgeA x ++ edgeB x).length = 8 := by rw [List.length_append, edgeA_len, edgeB_len]
theorem putE_drop8 (x : S38) (l : List S38) : (putE (x :: l)).drop 8 = putE l := by
  show (edgeA x ++ edgeB x ++ putE l).drop 8 = _
  exact List.drop_left' (edge8 x)
/-- What is whole of a cut, and what is left. -/
def cutItems (l : List S38) (p : Int) (t : Nat) : List S36 := (l.map itemOf).take (t / 8) ++ if t % 8 = 0 then [] else [⟨false, [], [], 5, p + ((8 * (t / 8) : Nat) : Int)⟩]
theorem items_cut : ∀ (n : Nat) (l : List S38) (p : Int) (t : Nat), t ≤ 8 * l.length → t < 8 * n → Hand.itemsN S36.mk n ((putE l).take t) p = cutItems l p t
  | 0, l, p, t, _, h => by omega
  | n + 1, l, p, t, h1, h2 => by
    have hlen : ((putE l).take t).length = t := by rw [List.length_take, putE_len]; omega
    unfold Hand.itemsN
    rw [hlen]
    by_cases h8 : 8 ≤ t
    · rw [if_pos h8]
      obtain _ | ⟨x, l⟩ := l
      · simp at h1; omega
      rw [List.length_cons] at h1
      rw [List.take_take, Nat.min_eq_left (by omega), putE_take4, List.drop_take, List.take_take, Nat.min_eq_left (by omega), putE_mid4, List.drop_take, putE_drop8, items_cut n l (p + 8) (t - 8) (by omega) (by omega)]
      unfold cutItems
      have hd : t / 8 = (t - 8) / 8 + 1 := by omega
      have hm : t % 8 = (t - 8) % 8 := by omega
      rw [hm, hd, List.map_cons, List.take_succ_cons, show p + 8 + ((8 * ((t - 8) / 8) : Nat) : Int) = p + ((8 * ((t - 8) / 8 + 1) : Nat) : Int) by omega]
      rfl
    · rw [if_neg h8]
      unfold cutItems
      rw [show t / 8 = 0 by omega, List.take_zero, List.nil_append]
      by_cases h0 : 0 < t
      · rw [if_pos h0, if_neg (by omega)]; simp
      · rw [if_neg h0, if_pos (by omega)]
theorem isHead_take (l : List S38) (t : Nat) (h : 8 ≤ t) : Hand.isHead ((putD l).take t) := by
  have h8 : ((putD l).take t).take 8 = Hand.headN := by
    rw [List.take_take, Nat.min_eq_left h]
    unfold putD
    exact List.take_left' rfl
  refine ⟨?_, ?_⟩
  · have := congrArg List.length h8
    rw [List.length_take] at this
    have h9 : Hand.headN.length = 8 := rfl
    omega
  · rw [h8]; decide +kernel
theorem itemsR_cut (l : List S38) (t : Nat) (h : 8 ≤ t) (h2 : t ≤ 8 + 8 * l.length) : Hand.itemsR S36.mk ((putD l).take t) = cutItems l 8 (t - 8) := by
  unfold Hand.itemsR
  rw [if_pos (isHead_take l t h), List.drop_take, putD_drop, items_cut _ _ _ _ (by omega) (by rw [List.length_take, putD_len]; omega)]
theorem itemsR_short (l : List Int) (h : l.length < 8) : Hand.itemsR S36.mk l = [⟨false, [], [], 100, 0⟩] := by
  unfold Hand.itemsR
  rw [if_neg (fun hh => by have := hh.1; omega)]
theorem itemsR_put (l : List S38) : Hand.itemsR S36.mk (putD l) = l.map itemOf := by
  have h := itemsR_cut l (8 + 8 * l.length) (by omega) (Nat.le_refl _)
  rw [List.take_of_length_le (by rw [putD_len]; exact Nat.le_refl _)] at h
  rw [h]
  unfold cutItems
  rw [show 8 + 8 * l.length - 8 = 8 * l.length by omega, if_pos (by omega), List.append_nil, show 8 * l.length / 8 = l.length by omega]
  exact List.take_of_length_le (by rw [List.length_map]; exact Nat.le_refl _)
theorem putD_app (l m : List S38) : putD l ++ putE m = putD (l ++ m) := by unfold putD; rw [putE_app, List.append_assoc]
theorem rd36_map (l : List S38) (i : Nat) (h : i < l.length) : rd_T36 (l.map itemOf) (i : Int) = itemOf (l[i]) := by
  simp [rd_T36, List.getD_eq_getElem?_getD, List.getElem?_eq_getElem h]
theorem rd38 (l : List S38) (i : Nat) (h : i < l.length) : rd_T38 l (i : Int) = l[i] := by
  simp [rd_T38, List.getD_eq_getElem?_getD, List.getElem?_eq_getElem h]
end Go.Proofs.Ythnjeddcnkbebaa.Plain
