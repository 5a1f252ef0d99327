/- Plain laws of files of labels (layer 16): blocks of sixteen, a frame each. No program in sight. -/
import Derived.Test.YtaiechbdcddalaaSpecSorted
import Derived.Test.YtaiechbdcddalaaSpecOnly03
import Derived.Test.YtaiechbdcddalaaPrint7
set_option linter.unusedVariables false
set_option linter.unusedSimpArgs false
namespace Go.Proofs.Ytaiechbdcddalaa.Plain
open Go.RowKit Go.Proofs.Ytaiechbdcddalaa.Print Go.Proofs.YtaiechbdcddalaaW.PrintWords Go.Proofs.YtaiechbdcddalaaW.PrintLast Go.Proofs.YtaiechbdcddalaaW.PrintMore

/-! ### Labels that rise -/
def lastW (a : List Int) : List (List Int) → List Int
  | [] => a
  | x :: r => lastW x r
theorem lastW_append (x y : List (List Int)) : ∀ a, lastW a (x ++ y) = lastW (lastW a x) y := by
  induction x with
  | nil => intro a; rfl
  | cons b x ih => intro a; exact ih b
theorem lastW_snoc (l : List (List Int)) (x a : List Int) : lastW a (l ++ [x]) = x := by rw [lastW_append]; rfl
theorem lastW_getD : ∀ (l : List (List Int)) (a : List Int), 0 < l.length → lastW a l = l.getD (l.length - 1) []
  | [], _, h => by simp at h
  | [x], _, _ => rfl
  | x :: y :: l, a, _ => by
    have := lastW_getD (y :: l) x (by simp)
    show lastW x (y :: l) = _
    rw [this]
    simp [List.getD_cons_succ]
theorem wordsOk_append (x y : List (List Int)) : ∀ a, wordsOk a (x ++ y) = (wordsOk a x && wordsOk (lastW a x) y) := by
  induction x with
  | nil => intro a; simp [wordsOk, lastW]
  | cons b x ih => intro a; simp [wordsOk, lastW, ih, Bool.and_assoc]
theorem wordOk_weak {a x : List Int} (h : wordOk a x = true) : wordOk [] x = true := by
  obtain ⟨h1, h2, h3⟩ := wordOk_iff.1 h
  exact wordOk_iff.2 ⟨h1, h2, lex_nil h1⟩
theorem wordsOk_weak {a : List Int} {l : List (List Int)} (h : wordsOk a l = true) : wordsOk [] l = true := by
  cases l with
  | nil => rfl
  | cons x l =>
    simp only [wordsOk, Bool.and_eq_true] at h ⊢
    exact ⟨wordOk_weak h.1, h.2⟩
theorem wordsOk_first {a : List Int} {l : List (List Int)} (h : wordsOk [] l = true) (hl : 0 < l.length) (hf : lexLess a (l.getD 0 []) = true) : wordsOk a l = true := by
  cases l with
  | nil => simp at hl
  | cons x l =>
    simp only [wordsOk, Bool.and_eq_true] at h ⊢
    obtain ⟨h1, h2, h3⟩ := wordOk_iff.1 h.1
    exact ⟨wordOk_iff.2 ⟨h1, h2, hf⟩, h.2⟩
theorem wordsOk_less {a : List Int} {l : List (List Int)} (h : wordsOk a l = true) (hl : 0 < l.length) : lexLess a (l.getD 0 []) = true := by
  cases l with
  | nil => simp at hl
  | cons x l =>
    simp only [wordsOk, Bool.and_eq_true] at h
    exact (wordOk_iff.1 h.1).2.2
theorem rising_all : ∀ (l : List (List Int)) (a : List Int), wordsOk a l = true → (∀ x ∈ l, lexLess a x = true) ∧ Rising l
  | [], _, _ => ⟨fun x hx => absurd hx List.not_mem_nil, List.Pairwise.nil⟩
  | x :: l, a, h => by
    simp only [wordsOk, Bool.and_eq_true] at h
    obtain ⟨h1, h2, h3⟩ := wordOk_iff.1 h.1
    obtain ⟨i1, i2⟩ := rising_all l x h.2
    refine ⟨fun y hy => ?_, List.pairwise_cons.2 ⟨i1, i2⟩⟩
    rcases List.mem_cons.1 hy with rfl | hy
    · exact h3
    · exact lex_trans a x y h3 (i1 y hy)
theorem wordsOk_short : ∀ (l : List (List Int)) (a : List Int), wordsOk a l = true → ∀ x ∈ l, 1 ≤ x.length ∧ x.length ≤ 32
  | [], _, _, x, hx => absurd hx List.not_mem_nil
  | x :: l, a, h, y, hy => by
    simp only [wordsOk, Bool.and_eq_true] at h
    rcases List.mem_cons.1 hy with rfl | hy
    · obtain ⟨h1, h2, _⟩ := wordOk_iff.1 h.1; exact ⟨h1, h2⟩
    · exact wordsOk_short l x h.2 y hy
theorem wordsOk_take {a : List Int} {l : List (List Int)} (h : wordsOk a l = true) (n : Nat) : wordsOk a (l.take n) = true := by
  have := wordsOk_append (l.take n) (l.drop n) a
  rw [List.take_append_drop, h] at this
  exact (Bool.and_eq_true _ _ ▸ this.symm).1
theorem wordsOk_drop {a : List Int} {l : List (List Int)} (h : wordsOk a l = true) (n : Nat) : wordsOk [] (l.drop n) = true := by
  have := wordsOk_append (l.take n) (l.drop n) a
  rw [List.take_append_drop, h] at this
  exact wordsOk_weak (Bool.and_eq_true _ _ ▸ this.symm).2
theorem lex_irrefl : ∀ a : List Int, lexLess a a = false
  | [] => rfl
  | x :: a => by simp [lexLess, lex_irrefl a]
theorem lex_asymm {a b : List Int} (h : lexLess a b = true) : lexLess b a = false := by
  cases hb : lexLess b a with
  | false => rfl
  | true => have := lex_trans a b a h hb; rw [lex_irrefl] at this; exact absurd this (by simp)

/-! ### Bytes of a block -/
theorem wordsB_up (l : List (List Int)) : ∀ a, wordsOk a l = true → (wordsB a l).length ≤ 34 * l.length ∧ l.length ≤ (wordsB a l).length := by
  induction l with
  | nil => intro a _; simp [wordsB]
  | cons x l ih =>
    intro a h
    simp only [wordsOk, Bool.and_eq_true] at h
    obtain ⟨h1, h2, _⟩ := wordOk_iff.1 h.1
    have hw := wordB_len (a := a) (x := x) (by omega)
    have hs := shN_le a x
    have hi := ih x h.2
    simp only [wordsB, List.length_append, List.length_cons]
    omega
theorem block_ok4 {l : List (List Int)} (hb : Bsl l) (h1 : 1 ≤ l.length) (h2 : l.length ≤ 16) (h : wordsOk [] l = true) : Ok4 (wordsP l).1 := by
  refine ⟨wordsP_bs hb, ?_⟩
  rw [wordsP_ok h1 h2 h]
  have := wordsB_up l [] h
  have := putN_len10 (n := l.length) (by omega)
  simp only [List.length_append]
  omega
theorem block_len {l : List (List Int)} (h1 : 1 ≤ l.length) (h2 : l.length ≤ 16) (h : wordsOk [] l = true) : l.length ≤ (wordsP l).1.length := by
  rw [wordsP_ok h1 h2 h]
  have := wordsB_up l [] h
  simp only [List.length_append]
  omega

/-! ### Blocks -/
def blk : Nat → List (List Int) → List (List (List Int))
  | 0, _ => []
  | f + 1, l => if l.length = 0 then [] else l.take 16 :: blk f (l.drop 16)
/-- Labels in blocks of sixteen. -/
def blocks (l : List (List Int)) : List (List (List Int)) := blk l.length l
theorem blk_fuel : ∀ (f g : Nat) (l : List (List Int)), l.length ≤ f → l.length ≤ g → blk f l = blk g l
  | 0, 0, _, _, _ => rfl
  | 0, g + 1, l, h, _ => by rw [blk.eq_2, if_pos (by omega)]; rfl
  | f + 1, 0, l, _, h => by rw [blk.eq_2, if_pos (by omega)]; rfl
  | f + 1, g + 1, l, h1, h2 => by
    rw [blk, blk]
    split
    · rfl
    · rw [blk_fuel f g (l.drop 16) (by rw [List.length_drop]; omega) (by rw [List.length_drop]; omega)]
theorem blocks_nil : blocks [] = [] := rfl
theorem blocks_cons {l : List (List Int)} (h : 0 < l.length) : blocks l = l.take 16 :: blocks (l.drop 16) := by
  unfold blocks
  obtain ⟨m, hm⟩ : ∃ m, l.length = m + 1 := ⟨l.length - 1, by omega⟩
  rw [hm, blk, if_neg (by omega), blk_fuel m (l.drop 16).length (l.drop 16) (by rw [List.length_drop]; omega) (Nat.le_refl _)]
theorem blocks_full {x l : List (List Int)} (h : x.length = 16) : blocks (x ++ l) = x :: blocks l := by
  rw [blocks_cons (by rw [List.length_append]; omega), ← h, List.take_left, List.drop_left]
theorem blocks_short {l : List (List Int)} (h1 : 0 < l.length) (h2 : l.length ≤ 16) : blocks l = [l] := by
  rw [blocks_cons h1, List.take_of_length_le h2, List.drop_eq_nil_of_le h2]; rfl
theorem len_ind {P : List (List Int) → Prop} (h0 : P []) (hs : ∀ l : List (List Int), 0 < l.length → P (l.drop 16) → P l) : ∀ l, P l := by
  suffices ∀ (n : Nat) (l : List (List Int)), l.length ≤ n → P l from fun l => this l.length l (Nat.le_refl _)
  intro n
  induction n with
  | zero => intro l h; obtain rfl : l = [] := List.eq_nil_of_length_eq_zero (by omega); exact h0
  | succ n ih =>
    intro l h
    rcases Nat.eq_zero_or_pos l.length with h' | h'
    · obtain rfl : l = [] := List.eq_nil_of_length_eq_zero h'; exact h0
    · exact hs l h' (ih _ (by rw [List.length_drop]; omega))
theorem blocks_flatten (l : List (List Int)) : (blocks l).flatten = l := by
  induction l using len_ind with
  | h0 => rfl
  | hs l h ih => rw [blocks_cons h, List.flatten_cons, ih, List.take_append_drop]
theorem blocks_Fit (l : List (List Int)) : Fit (blocks l) := by
  induction l using len_ind with
  | h0 => exact trivial
  | hs l h ih =>
    rw [blocks_cons h]
    refine ⟨by rw [List.length_take]; omega, by rw [List.length_take]; omega, ?_, ih⟩
    by_cases hl : l.length ≤ 16
    · exact .inl (by rw [List.drop_eq_nil_of_le hl]; rfl)
    · exact .inr (by rw [List.length_take]; omega)
theorem Fit_blocks : ∀ {B : List (List (List Int))}, Fit B → blocks B.flatten = B
  | [], _ => rfl
  | l :: r, ⟨h1, h2, h3, h4⟩ => by
    rcases h3 with rfl | h3
    · rw [List.flatten_cons, List.flatten_nil, List.append_nil, blocks_short (by omega) h2]
    · rw [List.flatten_cons, blocks_full h3, Fit_blocks h4]
/-- Each block of labels that rise is one that can be put. -/
theorem blocks_ok (l : List (List Int)) : wordsOk [] l = true → Bsl l → ∀ t ∈ blocks l, Bsl t ∧ 1 ≤ t.length ∧ t.length ≤ 16 ∧ wordsOk [] t = true := by
  induction l using len_ind with
  | h0 => intro _ _ t ht; exact absurd ht List.not_mem_nil
  | hs l h ih =>
    intro hw hb t ht
    rw [blocks_cons h] at ht
    rcases List.mem_cons.1 ht with rfl | ht
    · exact ⟨fun x hx => hb x (List.mem_of_mem_take hx), by rw [List.length_take]; omega, by rw [List.length_take]; omega, wordsOk_take hw 16⟩
    · exact ih (wordsOk_drop hw 16) (fun x hx => hb x (List.mem_of_mem_drop hx)) t ht

/-! ### A file of labels -/
def pay (B : List (List (List Int))) : List (List Int) := B.map fun t => (wordsP t).1
def fileD (l : List (List Int)) : List Int := frames (pay (blocks l))
def dictP (l : List (List Int)) : List Int × Int := if wordsOk [] l = true then (fileD l, 0) else ([], 1)
theorem pay_ok {B : List (List (List Int))} (h : ∀ t ∈ B, Bsl t ∧ 1 ≤ t.length ∧ t.length ≤ 16 ∧ wordsOk [] t = true) : ∀ x ∈ pay B, Ok4 x := by
  intro x hx
  obtain ⟨t, ht, rfl⟩ := List.mem_map.1 hx
  obtain ⟨h1, h2, h3, h4⟩ := h t ht
  exact block_ok4 h1 h2 h3 h4
theorem fileD_bs {l : List (List Int)} (h : wordsOk [] l = true) (hb : Bsl l) : Bs (fileD l) := frames_bs (pay_ok (blocks_ok l h hb))
theorem pay_len : ∀ {B : List (List (List Int))}, (∀ t ∈ B, Bsl t ∧ 1 ≤ t.length ∧ t.length ≤ 16 ∧ wordsOk [] t = true) → B.flatten.length + 8 * B.length ≤ (frames (pay B)).length
  | [], _ => by simp [pay, frames]
  | t :: B, h => by
    have ih := pay_len (B := B) (fun s hs => h s (by simp [hs]))
    obtain ⟨_, h2, h3, h4⟩ := h t (by simp)
    have h5 := block_len h2 h3 h4
    have h6 := frameS_len (wordsP t).1
    show _ ≤ (frames ((wordsP t).1 :: pay B)).length
    rw [frames_cons, List.flatten_cons, List.length_append, List.length_append, List.length_cons]
    omega
/-! ### What a file tells -/
def openW : List (List Int) → List (List (List Int)) → List Int → Option (List (List (List Int)))
  | [], B, _ => some B
  | x :: fs, B, last => if (wordsT x).2 = 0 then (if (wordsT x).1.length < 16 ∧ fs.length ≠ 0 then none else if lexLess last ((wordsT x).1.getD 0 []) = true then openW fs (B ++ [(wordsT x).1]) ((wordsT x).1.getD ((wordsT x).1.length - 1) []) else none) else none
def openD (b : List Int) : Option (List (List (List Int))) := if (onlyF b).2 = 0 then openW (onlyF b).1 [] [] else none
theorem openW_inv : ∀ (fs : List (List Int)) (B : List (List (List Int))) (last : List Int) (R : List (List (List Int))), (∀ x ∈ fs, Bs x) → openW fs B last = some R →
    ∃ C, R = B ++ C ∧ Fit C ∧ pay C = fs ∧ wordsOk last C.flatten = true ∧ Bsl C.flatten ∧ ∀ t ∈ C, Bsl t ∧ 1 ≤ t.length ∧ t.length ≤ 16 ∧ wordsOk [] t = true
  | [], B, last, R, _, h => by
    rw [openW] at h
    exact ⟨[], by rw [List.append_nil]; exact (Option.some.inj h).symm, trivial, rfl, rfl, fun x hx => absurd hx List.not_mem_nil, fun t ht => absurd ht List.not_mem_nil⟩
  | x :: fs, B, last, R, hf, h => by
    rw [openW] at h
    split at h
    · rename_i h0
      rcases wordsT_only (hf x (by simp)) with ⟨t, hb, h1, h16, hok, hT, hX⟩ | hT
      · rw [hT] at h
        simp only at h
        split at h
        · exact absurd h (by simp)
        · rename_i hn
          split at h
          · rename_i hlt
            obtain ⟨C, e1, e2, e3, e4, e5, e6⟩ := openW_inv fs _ _ R (fun y hy => hf y (by simp [hy])) h
            have hfs : fs.length = C.length := by rw [← e3]; exact List.length_map _
            refine ⟨t :: C, by rw [e1, List.append_assoc]; rfl, ⟨h1, h16, ?_, e2⟩, by show (wordsP t).1 :: pay C = _; rw [e3, ← hX], ?_, ?_, ?_⟩
            · by_cases hC : C = []
              · exact .inl hC
              · refine .inr ?_
                have : C.length ≠ 0 := fun h_ => hC (List.eq_nil_of_length_eq_zero h_)
                rcases Nat.lt_or_ge t.length 16 with h_ | h_
                · exact absurd ⟨h_, by omega⟩ hn
                · omega
            · rw [List.flatten_cons, wordsOk_append, wordsOk_first hok h1 hlt, Bool.true_and, lastW_getD t last h1]
              exact e4
            · intro y hy
              rw [List.flatten_cons] at hy
              rcases List.mem_append.1 hy with hy | hy
              · exact hb y hy
              · exact e5 y hy
            · intro s hs
              rcases List.mem_cons.1 hs with rfl | hs
              · exact ⟨hb, h1, h16, hok⟩
              · exact e6 s hs
          · exact absurd h (by simp)
      · rw [hT] at h0
        exact absurd h0 (by decide)
    · exact absurd h (by simp)
theorem openW_put : ∀ (C B : List (List (List Int))) (last : List Int), Fit C → (∀ t ∈ C, Bsl t ∧ 1 ≤ t.length ∧ t.length ≤ 16 ∧ wordsOk [] t = true) → wordsOk last C.flatten = true → openW (pay C) B last = some (B ++ C)
  | [], B, _, _, _, _ => by rw [List.append_nil]; rfl
  | t :: C, B, last, ⟨h1, h16, hf, hC⟩, h, hw => by
    obtain ⟨_, _, _, hok⟩ := h t (by simp)
    have hT := wordsT_put h1 h16 hok
    show openW ((wordsP t).1 :: pay C) B last = _
    rw [List.flatten_cons, wordsOk_append, Bool.and_eq_true] at hw
    have hlt := wordsOk_less hw.1 h1
    have hl : (pay C).length = C.length := List.length_map _
    rw [openW, hT, if_pos rfl]
    simp only
    rw [if_neg (fun h_ => by
      rcases hf with rfl | hf
      · exact h_.2 rfl
      · have := h_.1; omega), if_pos hlt, ← lastW_getD t last h1, openW_put C _ _ hC (fun s hs => h s (by simp [hs])) hw.2, List.append_assoc]
    rfl
theorem allF_frames {F : List (List Int)} (h : ∀ x ∈ F, Ok4 x) : allF (frames F) = (F, (frames F).length) := by
  have h0 : allF [] = ([], 0) := rfl
  have := allF_put F h [] Bs.nil
  rw [List.append_nil, h0] at this
  simpa using this
theorem onlyF_frames {F : List (List Int)} (h : ∀ x ∈ F, Ok4 x) : onlyF (frames F) = (F, 0) := by
  unfold onlyF
  rw [allF_frames h, if_neg (Nat.lt_irrefl _)]
theorem onlyF_inv {b : List Int} (hb : Bs b) (h : (onlyF b).2 = 0) : b = frames (onlyF b).1 ∧ ∀ x ∈ (onlyF b).1, Ok4 x := by
  obtain ⟨h1, h2, h3, h4, h5⟩ := allF_inv b.length b (Nat.le_refl _) hb
  unfold onlyF at h ⊢
  split
  · rename_i hlt
    rw [if_pos hlt] at h
    exact absurd h h5
  · rename_i hge
    refine ⟨?_, h1⟩
    rw [List.drop_eq_nil_of_le (by omega), List.append_nil] at h2
    exact h2
theorem openD_inv {b : List Int} (hb : Bs b) {B : List (List (List Int))} (h : openD b = some B) : Fit B ∧ (onlyF b).1 = pay B ∧ b = fileD B.flatten ∧ wordsOk [] B.flatten = true ∧ Bsl B.flatten ∧ ∀ t ∈ B, Bsl t ∧ 1 ≤ t.length ∧ t.length ≤ 16 ∧ wordsOk [] t = true := by
  unfold openD at h
  split at h
  · rename_i h0
    obtain ⟨g1, g2⟩ := onlyF_inv hb h0
    obtain ⟨C, e1, e2, e3, e4, e5, e6⟩ := openW_inv _ _ _ _ (fun x hx => (g2 x hx).1) h
    rw [List.nil_append] at e1
    subst e1
    refine ⟨e2, e3.symm, ?_, e4, e5, e6⟩
    unfold fileD
    rw [Fit_blocks e2, e3]
    exact g1
  · exact absurd h (by simp)
theorem openD_put {l : List (List Int)} (h : wordsOk [] l = true) (hb : Bsl l) : openD (fileD l) = some (blocks l) := by
  have hok := blocks_ok l h hb
  unfold openD fileD
  rw [onlyF_frames (pay_ok hok), if_pos rfl, openW_put _ _ _ (blocks_Fit l) hok (by rw [blocks_flatten]; exact h), List.nil_append]

/-! ### A file that is cut -/
end Go.Proofs.Ytaiechbdcddalaa.Plain
