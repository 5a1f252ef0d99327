/- The reference's frames (layer 3), and what is told apart: lists of rows. -/
import Derived.Test.YtaiechbdcddalaaSpecUnseal
import Derived.Test.YtaiechbdcddalaaSpecOnly03
import Derived.Test.YtaiechbdcddalaaPrint13
set_option linter.unusedVariables false
set_option linter.unusedSimpArgs false
namespace Go.Proofs.Ytaiechbdcddalaa.Plain
open Go.RowKit Go.Proofs.YtaiechbdcddalaaW.PrintWords Go.Proofs.YtaiechbdcddalaaW.PrintLast Go.Proofs.YtaiechbdcddalaaW.PrintMore Go.Proofs.Ytaiechbdcddalaa.Print

theorem ref_Take03_ev (b : List Int) (hl : b.length ≤ 140737488340000) (hb : Bs b) : Ev (fun k => creelref03_Take.f k b) (takeFT b) := by
  unfold creelref03_Take.f
  refine Ev.bind (ref_Unfix_ev b 4 hb (by omega) (by omega)) ?_
  have hU : unfixS b 4 = if b.length < 4 then (0, [], 5) else ((uval 0 (b.take 4) : Int), b.drop 4, 0) := by
    unfold unfixS
    rw [if_neg (by decide)]
    by_cases h4 : b.length < 4
    · rw [if_pos h4, if_pos (by omega)]
    · rw [if_neg h4, if_neg (by omega)]; rfl
  rw [hU]
  unfold takeFT takeF
  by_cases h4 : b.length < 4
  · exact all_ev fun k => by rw [if_pos h4, if_pos h4, if_neg (by decide), if_neg (by decide)]
  · rw [if_neg h4, if_neg h4]
    have hu := uval_lt (b.take 4) (hb.take 4)
    rw [List.length_take, show min 4 b.length = 4 by omega] at hu
    generalize uval 0 (b.take 4) = n at *
    have w0 : wrap64 (n : Int) = (n : Int) := w64_in (by omega) (by omega)
    have w1 : wrap64 ((n : Int) + 4) = ((n + 4 : Nat) : Int) := by rw [w64_in (by omega) (by omega)]; omega
    have w2 : wrap64 (((n + 4 : Nat) : Int) + 4) = ((n + 8 : Nat) : Int) := by rw [w64_in (by omega) (by omega)]; omega
    simp only [w0, w1, w2]
    clear w0 w1 w2
    by_cases h1 : 4096 < n
    · exact all_ev fun k => by rw [if_pos (by trivial), if_pos (by omega), if_pos h1, if_neg (by decide)]
    · rw [if_neg h1]
      by_cases h2 : b.length < n + 8
      · exact all_ev fun k => by rw [if_pos (by trivial), if_neg (by omega), if_pos (by omega), if_pos h2, if_neg (by decide)]
      · rw [if_neg h2]
        have htl : (b.take (n + 8)).length = n + 8 := by rw [List.length_take]; omega
        have hun := ref_Unseal_ev (b.take (n + 8)) (by omega) (hb.take _)
        have hN : unsealF (b.take (n + 8)) = if sealS (b.take (n + 4)) = b.take (n + 8) then (b.take (n + 4), 0) else ([], 6) := by
          unfold unsealF
          rw [htl, if_neg (by omega), List.take_take, show min (n + 8 - 4) (n + 8) = n + 4 by omega]
        rw [hN] at hun
        refine Ev.congr (f := fun k => (creelref03_Unseal.f k (b.take (n + 8))).bind fun bt432 => (if bt432.2 = 0 then some ((b.take (n + 4)).drop 4, b.drop (n + 8), 0) else (some (([] : List Int), ([] : List Int), 6)))) (fun k => ?_) (Ev.bind hun (all_ev fun k => ?_))
        · rw [if_pos (by trivial), if_neg (by omega), if_neg (by omega), if_pos (by omega), if_pos (by omega)]
          simp only [Option.bind_some, List.nil_append, List.length_nil, Int.toNat_natCast]
          rw [if_pos (by omega), if_pos (by omega), if_pos (by rw [List.length_drop, List.length_take]; omega), if_pos (by rw [List.length_drop]; omega)]
        · by_cases hs : sealS (b.take (n + 4)) = b.take (n + 8)
          · have hxl : ((b.take (n + 4)).drop 4).length = n := by rw [List.length_drop, List.length_take]; omega
            rw [if_pos hs, if_pos (by trivial), if_pos hs, if_pos (by trivial), hxl]
          · rw [if_neg hs, if_neg (by decide), if_neg hs, if_neg (by decide)]

theorem ref_All_loop : ∀ (m : Nat) (b : List Int) (acc : List (List Int)) (at_ : Nat), Bs b → b.length ≤ m → acc.length + b.length ≤ 5000000 → at_ + b.length ≤ 5000000 →
    Ev (fun k => creelref03_All.l0 k b acc at_) (acc ++ (allF b).1, ((at_ + (allF b).2 : Nat) : Int)) := by
  intro m
  induction m with
  | zero =>
    intro b acc at_ hb hm hc ha
    have hne : (takeF b).2.2 ≠ 0 := by unfold takeF; rw [if_pos (by omega)]; decide
    rw [allF_stop hne]
    refine Ev.step (f := fun k => (creelref03_Take.f k b).bind fun bt450 => (if bt450.2.2 = 0 then (if acc.length < 5864062014805 then (creelref03_All.l0 k bt450.2.1 (acc ++ [bt450.1]) (wrap64 ((wrap64 ((at_ : Int) + (bt450.1.length : Int))) + 8))) else (none)) else (some (acc, (at_ : Int))))) (fun k => rfl) (Ev.bind (ref_Take03_ev b (by omega) hb) (all_ev fun k => ?_))
    unfold takeFT
    rw [if_neg hne, if_neg hne]; simp
  | succ m ih =>
    intro b acc at_ hb hm hc ha
    refine Ev.step (f := fun k => (creelref03_Take.f k b).bind fun bt450 => (if bt450.2.2 = 0 then (if acc.length < 5864062014805 then (creelref03_All.l0 k bt450.2.1 (acc ++ [bt450.1]) (wrap64 ((wrap64 ((at_ : Int) + (bt450.1.length : Int))) + 8))) else (none)) else (some (acc, (at_ : Int))))) (fun k => rfl) (Ev.bind (ref_Take03_ev b (by omega) hb) ?_)
    unfold takeFT
    by_cases h : (takeF b).2.2 = 0
    · obtain ⟨h1, h2, h3, h4⟩ := takeF_inv hb h
      have hx := h1.2
      rw [if_pos h, allF_step hb h]
      have hd : (b.drop ((takeF b).1.length + 8)).length = b.length - ((takeF b).1.length + 8) := List.length_drop ..
      have := ih (b.drop ((takeF b).1.length + 8)) (acc ++ [(takeF b).1]) (at_ + ((takeF b).1.length + 8)) (hb.drop _) (by omega) (by rw [List.length_append, List.length_singleton]; omega) (by omega)
      refine Ev.congr (f := fun k => creelref03_All.l0 k (b.drop ((takeF b).1.length + 8)) (acc ++ [(takeF b).1]) ((at_ + ((takeF b).1.length + 8) : Nat) : Int)) (fun k => ?_) (Ev.eq this ?_)
      · have w1 : wrap64 ((wrap64 ((at_ : Int) + ((takeF b).1.length : Int))) + 8) = ((at_ + ((takeF b).1.length + 8) : Nat) : Int) := by
          rw [w64_in (n := (at_ : Int) + ((takeF b).1.length : Int)) (by omega) (by omega), w64_in (by omega) (by omega)]; omega
        show (if (0 : Int) = 0 then (if acc.length < 5864062014805 then (creelref03_All.l0 k (b.drop ((takeF b).1.length + 8)) (acc ++ [(takeF b).1]) (wrap64 ((wrap64 ((at_ : Int) + ((takeF b).1.length : Int))) + 8))) else (none)) else (some (acc, (at_ : Int)))) = _
        rw [if_pos rfl, if_pos (by omega), w1]
      · rw [List.append_assoc]
        simp only [List.singleton_append]
        congr 2
        omega
    · rw [allF_stop h, if_neg h]
      refine all_ev fun k => ?_
      show (if (takeF b).2.2 = 0 then _ else _) = _
      rw [if_neg h]; simp
theorem ref_All_ev (b : List Int) (hb : Bs b) (hl : b.length ≤ 1000000) : Ev (fun k => creelref03_All.f k b) ((allF b).1, ((allF b).2 : Int)) := by
  unfold creelref03_All.f
  have := ref_All_loop b.length b [] 0 hb (by omega) (by simp; omega) (by omega)
  rw [List.nil_append, Nat.zero_add] at this
  exact this
theorem ref_Only_ev (b : List Int) (hb : Bs b) (hl : b.length ≤ 1000000) : Ev (fun k => creelref03_Only.f k b) (onlyF b) := by
  unfold creelref03_Only.f onlyF
  refine Ev.bind (ref_All_ev b hb hl) ?_
  by_cases h : (allF b).2 < b.length
  · refine Ev.congr (f := fun k => (creelref03_Take.f k (b.drop (allF b).2)).bind fun bt465 => (some (([] : List (List Int)), bt465.2.2))) (fun k => ?_) (Ev.bind (ref_Take03_ev (b.drop (allF b).2) (by rw [List.length_drop]; omega) (hb.drop _)) (all_ev fun k => ?_))
    · show (if ((allF b).2 : Int) < (b.length : Int) then _ else _) = _
      rw [if_pos (by omega), if_pos (by omega), if_pos (by omega)]; rfl
    · rw [if_pos h]
      unfold takeFT
      by_cases h0 : (takeF (b.drop (allF b).2)).2.2 = 0
      · rw [if_pos h0, h0]
      · rw [if_neg h0]
  · refine all_ev fun k => ?_
    show (if ((allF b).2 : Int) < (b.length : Int) then _ else _) = _
    rw [if_neg (by omega), if_neg h]
end Go.Proofs.Ytaiechbdcddalaa.Plain
