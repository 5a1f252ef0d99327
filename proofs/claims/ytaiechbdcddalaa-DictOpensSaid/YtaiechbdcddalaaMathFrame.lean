/- Plain laws of frames (layer 3): what was put is taken, alone and one behind the other. -/
import Derived.Test.YtaiechbdcddalaaSpecFrame
set_option linter.unusedVariables false
set_option linter.unusedSimpArgs false
namespace Go.Proofs.Ytaiechbdcddalaa.Plain
open Go.RowKit Go.Proofs.YtaiechbdcddalaaW.PrintWords Go.Proofs.YtaiechbdcddalaaW.PrintLast Go.Proofs.YtaiechbdcddalaaW.PrintMore Go.Proofs.Ytaiechbdcddalaa.Print

/-- Bytes that a frame may have. -/
def Ok4 (x : List Int) : Prop := Bs x ∧ x.length ≤ 4096
theorem frame_split (x : List Int) : frameS x = fixN 4 x.length ++ (x ++ le4 (addS 0 (fixN 4 x.length ++ x))) := by
  unfold frameS sealS; rw [List.append_assoc]
theorem head4 {x : List Int} (hx : x.length ≤ 4096) (r : List Int) : uval 0 ((frameS x ++ r).take 4) = x.length := by
  have hf := fixN_len 4 x.length
  rw [frame_split, List.append_assoc, List.take_append_of_le_length (by omega), List.take_of_length_le (by omega), uval_fix' (by omega)]
theorem takeF_put {x : List Int} (hx : x.length ≤ 4096) (r : List Int) : takeF (frameS x ++ r) = (x, ((x.length + 8 : Nat) : Int), 0) := by
  have hf := fixN_len 4 x.length
  have hl := frameS_len x
  have h4 := head4 hx r
  unfold takeF
  rw [h4, if_neg (by rw [List.length_append]; omega), if_neg (by omega), if_neg (by rw [List.length_append]; omega)]
  have h8 : (frameS x ++ r).take (x.length + 8) = frameS x := by rw [← hl]; simp
  have hb : (frameS x ++ r).take (x.length + 4) = fixN 4 x.length ++ x := by
    rw [List.take_append_of_le_length (by omega)]
    unfold frameS sealS
    rw [List.take_append_of_le_length (by rw [List.length_append]; omega), List.take_of_length_le (by rw [List.length_append]; omega)]
  rw [h8, hb, if_pos (by rfl)]
  have hd : (fixN 4 x.length ++ x).drop 4 = x := by
    have := List.drop_left (l₁ := fixN 4 x.length) (l₂ := x)
    rw [hf] at this; exact this
  rw [hd]
/-- What is taken was put. -/
theorem takeF_inv {b : List Int} (hb : Bs b) (h : (takeF b).2.2 = 0) :
    Ok4 (takeF b).1 ∧ (takeF b).2.1 = (((takeF b).1.length + 8 : Nat) : Int) ∧ b = frameS (takeF b).1 ++ b.drop ((takeF b).1.length + 8) ∧ (takeF b).1.length + 8 ≤ b.length := by
  unfold takeF at h ⊢
  by_cases h4 : b.length < 4
  · rw [if_pos h4] at h; exact absurd h (by decide)
  · rw [if_neg h4] at h ⊢
    have hu := uval_lt (b.take 4) (hb.take 4)
    have hfix := fix_uval (b.take 4) (hb.take 4) 0
    have ht4 : (b.take 4).length = 4 := by rw [List.length_take]; omega
    rw [ht4] at hfix
    generalize hn : uval 0 (b.take 4) = n at *
    by_cases h1 : 4096 < n
    · rw [if_pos h1] at h; exact absurd h (by decide)
    · rw [if_neg h1] at h ⊢
      by_cases h2 : b.length < n + 8
      · rw [if_pos h2] at h; exact absurd h (by decide)
      · rw [if_neg h2] at h ⊢
        by_cases hs : sealS (b.take (n + 4)) = b.take (n + 8)
        · rw [if_pos hs]
          have hxl : ((b.take (n + 4)).drop 4).length = n := by rw [List.length_drop, List.length_take]; omega
          have hbt : b.take (n + 4) = fixN 4 n ++ (b.take (n + 4)).drop 4 := by
            conv => lhs; rw [← List.take_append_drop 4 (b.take (n + 4))]
            rw [List.take_take, show min 4 (n + 4) = 4 by omega, hfix]
          refine ⟨⟨(hb.take _).drop _, ?_⟩, ?_, ?_, ?_⟩
          · show ((b.take (n + 4)).drop 4).length ≤ 4096
            omega
          · show ((n + 8 : Nat) : Int) = ((((b.take (n + 4)).drop 4).length + 8 : Nat) : Int)
            rw [hxl]
          · show b = frameS ((b.take (n + 4)).drop 4) ++ b.drop (((b.take (n + 4)).drop 4).length + 8)
            unfold frameS
            rw [hxl, ← hbt, hs, List.take_append_drop]
          · show ((b.take (n + 4)).drop 4).length + 8 ≤ b.length
            omega
        · rw [if_neg hs] at h; exact absurd h (by decide)

/-! ### All -/
def allN : Nat → List Int → List (List Int) × Nat
  | 0, _ => ([], 0)
  | f + 1, b => if (takeF b).2.2 = 0 then ((takeF b).1 :: (allN f (b.drop ((takeF b).1.length + 8))).1, (takeF b).1.length + 8 + (allN f (b.drop ((takeF b).1.length + 8))).2) else ([], 0)
def allF (b : List Int) : List (List Int) × Nat := allN b.length b
theorem allN_enough (f : Nat) : ∀ (g : Nat) (b : List Int), Bs b → b.length ≤ f → b.length ≤ g → allN f b = allN g b := by
  induction f with
  | zero =>
    intro g b hb hf hg
    cases g with
    | zero => rfl
    | succ g =>
      have : (takeF b).2.2 ≠ 0 := by
        unfold takeF; rw [if_pos (by omega)]; decide
      show ([], 0) = if (takeF b).2.2 = 0 then _ else _
      rw [if_neg this]
  | succ f ih =>
    intro g b hb hf hg
    cases g with
    | zero =>
      have : (takeF b).2.2 ≠ 0 := by
        unfold takeF; rw [if_pos (by omega)]; decide
      show (if (takeF b).2.2 = 0 then _ else _) = ([], 0)
      rw [if_neg this]
    | succ g =>
      unfold allN
      by_cases h : (takeF b).2.2 = 0
      · obtain ⟨_, _, _, h4⟩ := takeF_inv hb h
        have hd : (b.drop ((takeF b).1.length + 8)).length = b.length - ((takeF b).1.length + 8) := List.length_drop ..
        rw [if_pos h, if_pos h, ih g (b.drop ((takeF b).1.length + 8)) (hb.drop _) (by omega) (by omega)]
      · rw [if_neg h, if_neg h]
theorem allF_step {b : List Int} (hb : Bs b) (h : (takeF b).2.2 = 0) :
    allF b = ((takeF b).1 :: (allF (b.drop ((takeF b).1.length + 8))).1, (takeF b).1.length + 8 + (allF (b.drop ((takeF b).1.length + 8))).2) := by
  obtain ⟨_, _, _, h4⟩ := takeF_inv hb h
  have hd : (b.drop ((takeF b).1.length + 8)).length = b.length - ((takeF b).1.length + 8) := List.length_drop ..
  obtain ⟨m, hm⟩ : ∃ m, b.length = m + 1 := ⟨b.length - 1, by omega⟩
  unfold allF
  rw [hm]
  show (if (takeF b).2.2 = 0 then _ else _) = _
  rw [if_pos h, allN_enough m _ (b.drop ((takeF b).1.length + 8)) (hb.drop _) (by omega) (Nat.le_refl _)]
theorem allF_stop {b : List Int} (h : (takeF b).2.2 ≠ 0) : allF b = ([], 0) := by
  unfold allF
  cases b.length with
  | zero => rfl
  | succ m =>
    show (if (takeF b).2.2 = 0 then _ else _) = _
    rw [if_neg h]
/-- Frames, one behind the other. -/
def frames (l : List (List Int)) : List Int := (l.map frameS).flatten
theorem frames_cons (x : List Int) (l : List (List Int)) : frames (x :: l) = frameS x ++ frames l := rfl
theorem frames_bs {l : List (List Int)} (h : ∀ x ∈ l, Ok4 x) : Bs (frames l) := by
  induction l with
  | nil => exact Bs.nil
  | cons x l ih => rw [frames_cons]; exact (frameS_bs (h x (by simp)).1).append (ih fun y hy => h y (by simp [hy]))
theorem allF_put (l : List (List Int)) (h : ∀ x ∈ l, Ok4 x) (r : List Int) (hr : Bs r) : allF (frames l ++ r) = (l ++ (allF r).1, (frames l).length + (allF r).2) := by
  induction l with
  | nil => simp [frames]
  | cons x l ih =>
    have hx := h x (by simp)
    have hl := frameS_len x
    have hb : Bs (frames (x :: l) ++ r) := (frames_bs h).append hr
    rw [frames_cons, List.append_assoc] at hb ⊢
    have ht := takeF_put hx.2 (frames l ++ r)
    rw [allF_step hb (by rw [ht]), ht]
    have hd : (frameS x ++ (frames l ++ r)).drop (x.length + 8) = frames l ++ r := by
      have := List.drop_left (l₁ := frameS x) (l₂ := frames l ++ r)
      rw [hl] at this; exact this
    simp only [hd, ih fun y hy => h y (by simp [hy]), List.cons_append, List.length_append, hl]
    congr 1
    omega
theorem allF_inv (m : Nat) : ∀ b : List Int, b.length ≤ m → Bs b → (∀ x ∈ (allF b).1, Ok4 x) ∧ b = frames (allF b).1 ++ b.drop (allF b).2 ∧ (frames (allF b).1).length = (allF b).2 ∧ (allF b).2 ≤ b.length ∧ (takeF (b.drop (allF b).2)).2.2 ≠ 0 := by
  induction m with
  | zero =>
    intro b hm hb
    have h : (takeF b).2.2 ≠ 0 := by unfold takeF; rw [if_pos (by omega)]; decide
    rw [allF_stop h]
    exact ⟨by simp, by simp [frames], rfl, by simp, by simpa using h⟩
  | succ m ih =>
    intro b hm hb
    by_cases h : (takeF b).2.2 = 0
    · obtain ⟨h1, h2, h3, h4⟩ := takeF_inv hb h
      rw [allF_step hb h]
      generalize (takeF b).1 = x at *
      have hd : (b.drop (x.length + 8)).length = b.length - (x.length + 8) := List.length_drop ..
      obtain ⟨i1, i2, i3, i4, i5⟩ := ih (b.drop (x.length + 8)) (by omega) (hb.drop _)
      generalize allF (b.drop (x.length + 8)) = r at *
      have hl := frameS_len x
      rw [List.drop_drop] at i2 i5
      refine ⟨?_, ?_, ?_, ?_, i5⟩
      · intro y hy
        rcases List.mem_cons.1 hy with rfl | hy
        · exact h1
        · exact i1 y hy
      · show b = frames (x :: r.1) ++ b.drop (x.length + 8 + r.2)
        rw [frames_cons, List.append_assoc, ← i2]
        exact h3
      · show (frames (x :: r.1)).length = x.length + 8 + r.2
        rw [frames_cons, List.length_append, hl, i3]
      · show x.length + 8 + r.2 ≤ b.length
        omega
    · rw [allF_stop h]
      exact ⟨by simp, by simp [frames], rfl, by simp, by simpa using h⟩
theorem frames_count (l : List (List Int)) : 8 * l.length ≤ (frames l).length := by
  induction l with
  | nil => simp
  | cons x l ih => rw [frames_cons, List.length_append, frameS_len, List.length_cons]; omega

end Go.Proofs.Ytaiechbdcddalaa.Plain
