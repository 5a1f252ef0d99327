/- What is told apart: lists of rows. -/
import Derived.Test.YtdaieafampimhaaSpecFrameAll
import Derived.Test.YtdaieafampimhaaPrint7
set_option linter.unusedVariables false
set_option linter.unusedSimpArgs false
namespace Go.Proofs.Ytdaieafampimhaa.Plain
open Go.RowKit Go.Proofs.YtdaieafampimhaaW.PrintWords Go.Proofs.YtdaieafampimhaaW.PrintLast Go.Proofs.YtdaieafampimhaaW.PrintMore Go.Proofs.Ytdaieafampimhaa.Print

/-- Rows of bytes. -/
def Bss (l : List (List Int)) : Prop := ∀ x ∈ l, Bs x
theorem rdL_drop {l : List (List Int)} {i : Nat} (h : i < l.length) : l.drop i = rd_L1 l (i : Int) :: l.drop (i + 1) := by
  rw [List.drop_eq_getElem_cons h]; congr 1
  simp [rd_L1, List.getD_eq_getElem?_getD, List.getElem?_eq_getElem h]
theorem rdL_bs {l : List (List Int)} (hb : Bss l) {i : Nat} (h : i < l.length) : Bs (rd_L1 l (i : Int)) := by
  refine hb _ ?_
  simp [rd_L1, List.getD_eq_getElem?_getD, List.getElem?_eq_getElem h]
theorem Same_loop (a b : List (List Int)) (ha : Bss a) (hb : Bss b) (hl : a.length ≤ 140737488355328) (he : a.length = b.length) : ∀ (d i : Nat), i + d = a.length → Ev (fun k => creelref03_Same.l0 k a b i) (decide (a.drop i = b.drop i)) := by
  intro d
  induction d with
  | zero =>
    intro i hi
    refine some_ev fun k => ?_
    simp only [creelref03_Same.l0]
    rw [if_neg (by omega), List.drop_eq_nil_of_le (by omega), List.drop_eq_nil_of_le (by omega)]; rfl
  | succ d ih =>
    intro i hi
    have h1 := rdL_drop (show i < a.length by omega)
    have h2 := rdL_drop (show i < b.length by omega)
    have hs := sn_inj (rdL_bs ha (show i < a.length by omega)) (rdL_bs hb (show i < b.length by omega))
    by_cases hc : rd_L1 a i = rd_L1 b i
    · refine Ev.step (f := fun k => creelref03_Same.l0 k a b ((i + 1 : Nat) : Int)) (fun k => ?_) (Ev.eq (ih (i + 1) (by omega)) ?_)
      · simp only [creelref03_Same.l0]
        rw [if_pos (by omega), if_pos (by omega), if_pos (by omega), if_pos (hs.2 hc), w64_in (by omega) (by omega)]; rfl
      · rw [h1, h2, hc]; simp
    · refine some_ev fun k => ?_
      simp only [creelref03_Same.l0]
      rw [if_pos (by omega), if_pos (by omega), if_pos (by omega), if_neg (fun h => hc (hs.1 h)), h1, h2]
      simp [hc]
theorem Same_ev (a b : List (List Int)) (ha : Bss a) (hb : Bss b) (hl : a.length ≤ 140737488355328) : Ev (fun k => creelref03_Same.f k a b) (decide (a = b)) := by
  unfold creelref03_Same.f
  by_cases he : a.length = b.length
  · refine Ev.congr (f := fun k => creelref03_Same.l0 k a b ((0 : Nat) : Int)) (fun k => by rw [if_pos (by omega)]; rfl) ?_
    exact Same_loop a b ha hb hl he a.length 0 (by omega)
  · refine all_ev fun k => ?_
    rw [if_neg (by omega), decide_eq_false (fun h => he (by rw [h]))]

theorem allF_bss {b : List Int} (hb : Bs b) : Bss (allF b).1 := fun x hx => ((allF_inv b.length b (Nat.le_refl _) hb).1 x hx).1
theorem allF_len {b : List Int} (hb : Bs b) : 8 * (allF b).1.length ≤ b.length := by
  obtain ⟨_, _, h3, h4, _⟩ := allF_inv b.length b (Nat.le_refl _) hb
  have := frames_count (allF b).1
  omega

end Go.Proofs.Ytdaieafampimhaa.Plain
