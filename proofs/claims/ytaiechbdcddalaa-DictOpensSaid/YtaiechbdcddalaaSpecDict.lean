/- What the functions of layer 16 (dict, and its reference) build and tell, told by the plain laws. -/
import Derived.Test.YtaiechbdcddalaaMathDict
import Derived.Test.YtaiechbdcddalaaSpecRef03
import Derived.Test.YtaiechbdcddalaaSpecTake15
import Derived.Test.YtaiechbdcddalaaSpecRefTake
import Derived.Test.YtaiechbdcddalaaPrint3
import Derived.Test.YtaiechbdcddalaaPrint7
import Derived.Test.YtaiechbdcddalaaPrint11
import Derived.Test.YtaiechbdcddalaaPrint14
import Derived.Test.YtaiechbdcddalaaPrint9
import Derived.Test.YtaiechbdcddalaaPrint8
set_option linter.unusedVariables false
set_option linter.unusedSimpArgs false
namespace Go.Proofs.Ytaiechbdcddalaa.Plain
open Go.RowKit Go.Proofs.YtaiechbdcddalaaW.PrintWords Go.Proofs.YtaiechbdcddalaaW.PrintLast Go.Proofs.YtaiechbdcddalaaW.PrintMore Go.Proofs.Ytaiechbdcddalaa.Print

/-! ### Build -/
abbrev S3 := List Int × List (List Int) × List Int
def addW (s : S3) (x : List Int) : S3 × Int := if wordOk s.2.2 x = true then (if s.2.1.length + 1 < 16 then ((s.1, s.2.1 ++ [x], x), 0) else ((s.1 ++ frameS (wordsP (s.2.1 ++ [x])).1, [], x), 0)) else (s, 1)
def runW : List (List Int) → S3 → S3 × Int
  | [], s => (s, 0)
  | x :: xs, s => if (addW s x).2 = 0 then runW xs (addW s x).1 else addW s x
/-- What stands between two labels. -/
def GoodW (s : S3) : Prop := wordsOk [] s.2.1 = true ∧ Bsl s.2.1 ∧ s.2.1.length < 16 ∧ (0 < s.2.1.length → lastW [] s.2.1 = s.2.2) ∧ Bs s.2.2
theorem good_snoc {s : S3} (h : GoodW s) {x : List Int} (hx : Bs x) (hw : wordOk s.2.2 x = true) : wordsOk [] (s.2.1 ++ [x]) = true ∧ Bsl (s.2.1 ++ [x]) := by
  obtain ⟨h1, h2, h3, h4, h5⟩ := h
  refine ⟨?_, fun y hy => ?_⟩
  · rw [wordsOk_append, h1, Bool.true_and]
    simp only [wordsOk, Bool.and_true]
    by_cases h0 : 0 < s.2.1.length
    · rw [h4 h0]; exact hw
    · have e : s.2.1 = [] := List.eq_nil_of_length_eq_zero (by omega)
      rw [e]
      exact wordOk_weak hw
  · rcases List.mem_append.1 hy with hy | hy
    · exact h2 y hy
    · rw [List.mem_singleton.1 hy]; exact hx
theorem good_add {s : S3} (h : GoodW s) {x : List Int} (hx : Bs x) : GoodW (addW s x).1 ∧ (addW s x).1.1.length ≤ s.1.length + 4104 := by
  unfold addW
  split
  · rename_i hw
    obtain ⟨g1, g2⟩ := good_snoc h hx hw
    split
    · rename_i hl
      refine ⟨⟨g1, g2, by simp only [List.length_append, List.length_singleton]; exact hl, fun _ => lastW_snoc _ _ _, hx⟩, by simp⟩
    · rename_i hl
      have h3 := h.2.2.1
      have hk := block_ok4 g2 (by simp) (by rw [List.length_append, List.length_singleton]; omega) g1
      refine ⟨⟨rfl, fun y hy => absurd hy List.not_mem_nil, (by show 0 < 16; decide), fun h0 => absurd h0 (by simp), hx⟩, ?_⟩
      have h8 := frameS_len (wordsP (s.2.1 ++ [x])).1
      have h4 := hk.2
      simp only [List.length_append] at *
      omega
  · exact ⟨h, by simp⟩
def finW (r : S3 × Int) : List Int × Int := if r.2 = 0 then ((if r.1.2.1.length = 0 then r.1.1 else r.1.1 ++ frameS (wordsP r.1.2.1).1), 0) else ([], r.2)
theorem finW_run : ∀ (xs : List (List Int)) (s : S3), s.2.1.length < 16 → finW (runW xs s) = if wordsOk s.2.2 xs = true then (s.1 ++ frames (pay (blocks (s.2.1 ++ xs))), 0) else ([], 1)
  | [], s, h => by
    rw [if_pos (show wordsOk s.2.2 [] = true from rfl), List.append_nil]
    unfold runW finW
    rw [if_pos rfl]
    by_cases h0 : s.2.1.length = 0
    · rw [if_pos h0, List.eq_nil_of_length_eq_zero h0]
      simp [blocks_nil, pay, frames]
    · rw [if_neg h0, blocks_short (by omega) (by omega)]
      simp [pay, frames]
  | x :: xs, s, h => by
    unfold runW
    cases hw : wordOk s.2.2 x with
    | false =>
      have he : addW s x = (s, 1) := by unfold addW; rw [if_neg (by rw [hw]; simp)]
      rw [he, if_neg (show ¬ (1:Int) = 0 by decide)]
      unfold finW
      rw [if_neg (show ¬ (1:Int) = 0 by decide), if_neg (by simp [wordsOk, hw])]
    | true =>
      have hws : wordsOk s.2.2 (x :: xs) = wordsOk x xs := by simp [wordsOk, hw]
      rw [hws]
      by_cases hl : s.2.1.length + 1 < 16
      · have he : addW s x = ((s.1, s.2.1 ++ [x], x), 0) := by unfold addW; rw [if_pos hw, if_pos hl]
        rw [he, if_pos rfl, finW_run xs _ (by simp only [List.length_append, List.length_singleton]; exact hl)]
        simp only [List.append_assoc, List.singleton_append]
      · have he : addW s x = ((s.1 ++ frameS (wordsP (s.2.1 ++ [x])).1, [], x), 0) := by unfold addW; rw [if_pos hw, if_neg hl]
        rw [he, if_pos rfl, finW_run xs _ (by simp)]
        simp only [List.nil_append]
        have hb : blocks (s.2.1 ++ x :: xs) = (s.2.1 ++ [x]) :: blocks xs := by
          rw [show s.2.1 ++ x :: xs = (s.2.1 ++ [x]) ++ xs by simp]
          exact blocks_full (by rw [List.length_append, List.length_singleton]; omega)
        rw [hb, show pay ((s.2.1 ++ [x]) :: blocks xs) = (wordsP (s.2.1 ++ [x])).1 :: pay (blocks xs) from rfl, frames_cons, List.append_assoc]
theorem flush_ev (out : List Int) (opn : List (List Int)) (h : wordsOk [] opn = true) (hb : Bsl opn) (h16 : opn.length ≤ 16) (ho : out.length ≤ 1000000000) :
    Ev (fun k => dict_builder_flush.f k out opn) (if opn.length = 0 then out else out ++ frameS (wordsP opn).1, 0) := by
  unfold dict_builder_flush.f
  by_cases h0 : opn.length = 0
  · rw [if_pos h0]; exact ev_pos h0 (ev_val rfl)
  · rw [if_neg h0]
    have hs := wordsOk_short opn [] h
    have hk := block_ok4 hb (by omega) h16 h
    refine ev_neg h0 (ev_bind (words_Put_ev opn hb ⟨by omega, fun x hx => by have := hs x hx; omega⟩) (ev_pos (by rw [wordsP_ok (by omega) h16 h]) ?_))
    refine Ev.eq (Put_ev out _ (by omega)) ?_
    unfold putF
    rw [if_neg (by have := hk.2; omega)]
theorem add_ev (s : S3) (x : List Int) (hs : GoodW s) (hx : Bs x) (ho : s.1.length ≤ 1000000000) : Ev (fun k => dict_builder_add.f k s.1 s.2.1 s.2.2 x) (addW s x) := by
  unfold dict_builder_add.f addW
  by_cases hl : x.length < 1 ∨ 32 < x.length
  · rw [if_neg (by intro hw; obtain ⟨h1, h2, _⟩ := wordOk_iff.1 hw; omega)]
    exact ev_pos hl (ev_val rfl)
  · refine ev_neg hl ?_
    have hc := compare_lex hs.2.2.2.2 hx
    refine ev_got (show bytes_Compare.f s.2.2 x = some _ from rfl) ?_
    by_cases hlt : lexLess s.2.2 x = true
    · have hw : wordOk s.2.2 x = true := wordOk_iff.2 ⟨by omega, by omega, hlt⟩
      obtain ⟨g1, g2⟩ := good_snoc hs hx hw
      have h3 := hs.2.2.1
      rw [if_pos hw]
      refine ev_neg (by have := hc.2 hlt; omega) (ev_pos (by omega) ?_)
      by_cases h16 : s.2.1.length + 1 < 16
      · rw [if_pos h16]; exact ev_pos h16 (ev_val rfl)
      · rw [if_neg h16]
        refine ev_neg h16 (ev_bind (flush_ev s.1 _ g1 g2 (by rw [List.length_append, List.length_singleton]; omega) ho) (ev_val ?_))
        simp only
        rw [if_neg (by rw [List.length_append, List.length_singleton]; omega)]
    · rw [if_neg (by intro hw; exact hlt (wordOk_iff.1 hw).2.2)]
      exact ev_pos (by rcases Int.lt_or_le (Lib.compareBytes (Lib.bytesOf s.2.2) (Lib.bytesOf x)) 0 with h | h; exact absurd (hc.1 h) hlt; exact h) (ev_val rfl)
theorem run_ev : ∀ (xs : List (List Int)) (s : S3), GoodW s → Bsl xs → s.1.length + 4104 * xs.length ≤ 1000000000 → Ev (fun k => dict_Build.l k xs s) (runW xs s)
  | [], s, _, _, _ => Ev.congr (fun k => dict_Build.l.eq_1 k s) (ev_val rfl)
  | x :: xs, s, hs, hb, ho => by
    simp only [List.length_cons] at ho
    obtain ⟨g1, g2⟩ := good_add hs hb.head
    refine Ev.congr (fun k => dict_Build.l.eq_2 k s x xs) (ev_bind (add_ev s x hs hb.head (by omega)) ?_)
    unfold runW
    by_cases h0 : (addW s x).2 = 0
    · rw [if_pos h0]
      exact ev_pos h0 (run_ev xs _ g1 hb.tail (by omega))
    · rw [if_neg h0]
      exact ev_neg h0 (ev_val rfl)
theorem run_good : ∀ (xs : List (List Int)) (s : S3), GoodW s → Bsl xs → GoodW (runW xs s).1 ∧ (runW xs s).1.1.length ≤ s.1.length + 4104 * xs.length
  | [], s, hs, _ => ⟨hs, by simp [runW]⟩
  | x :: xs, s, hs, hb => by
    obtain ⟨g1, g2⟩ := good_add hs hb.head
    have e : s.1.length + 4104 ≤ s.1.length + 4104 * (x :: xs).length := by
      rw [List.length_cons]
      generalize s.1.length = p
      generalize xs.length = q
      omega
    rw [runW]
    by_cases h0 : (addW s x).2 = 0
    · rw [if_pos h0]
      obtain ⟨i1, i2⟩ := run_good xs _ g1 hb.tail
      refine ⟨i1, Nat.le_trans i2 ?_⟩
      rw [List.length_cons]
      generalize (addW s x).1.1.length = p at *
      omega
    · rw [if_neg h0]
      exact ⟨g1, Nat.le_trans g2 e⟩
theorem Build_ev (l : List (List Int)) (hb : Bsl l) (hl : l.length ≤ 100000) : Ev (fun k => dict_Build.f k l) (dictP l) := by
  have hg : GoodW ([], [], []) := ⟨rfl, fun y hy => absurd hy List.not_mem_nil, (by show 0 < 16; decide), fun h0 => absurd h0 (by simp), Bs.nil⟩
  have hr := finW_run l ([], [], []) (by show 0 < 16; decide)
  obtain ⟨g1, g2⟩ := run_good l ([], [], []) hg hb
  unfold dict_Build.f
  refine ev_pos (by omega) (ev_bind (run_ev l _ hg hb (by simp; omega)) ?_)
  have hd : dictP l = finW (runW l ([], [], [])) := by
    rw [hr]; unfold dictP fileD; simp
  rw [hd]
  unfold finW
  by_cases h0 : (runW l ([], [], [])).2 = 0
  · rw [if_pos h0]
    have h3 := g1.2.2.1
    refine ev_pos h0 (ev_pos (by omega) (ev_bind (flush_ev _ _ g1.1 g1.2.1 (by omega) (by simp at g2; omega)) (ev_pos rfl (ev_val rfl))))
  · rw [if_neg h0]
    exact ev_neg h0 (ev_val rfl)

/-! ### The reference's Build -/
theorem ref16_files (l : List (List Int)) (hb : Bsl l) (hl : l.length ≤ 5000) (hok : wordsOk [] l = true) : ∀ (d i : Nat) (out : List Int), l.length ≤ 16 * i + d → 16 * i ≤ l.length + 16 → out.length ≤ 5000 * i →
    Ev (fun k => creelref16_Build.l1 k l out ((16 * i : Nat) : Int)) (out ++ frames (pay (blocks (l.drop (16 * i)))), 0) := by
  intro d
  induction d using Nat.strongRecOn with
  | _ d ih =>
    intro i out hd hi ho
    have hw : wrap64 (((16 * i : Nat) : Int) + 16) = ((16 * (i + 1) : Nat) : Int) := by rw [w64_in (by omega) (by omega)]; omega
    refine Ev.step (fun k => creelref16_Build.l1.eq_2 _ _ _ _) ?_
    rw [hw]
    by_cases hlt : 16 * i < l.length
    · have hmn : mn ((16 * (i + 1) : Nat) : Int) (l.length : Int) = ((min (16 * (i + 1)) l.length : Nat) : Int) := by unfold mn; split <;> omega
      rw [hmn, Int.toNat_natCast, Int.toNat_natCast]
      have hch : (l.take (min (16 * (i + 1)) l.length)).drop (16 * i) = (l.drop (16 * i)).take 16 := by
        rw [List.drop_take]
        by_cases h : 16 * (i + 1) ≤ l.length
        · rw [Nat.min_eq_left h, show 16 * (i + 1) - 16 * i = 16 by omega]
        · rw [Nat.min_eq_right (by omega), List.take_of_length_le (by rw [List.length_drop]; omega), List.take_of_length_le (by rw [List.length_drop]; omega)]
      rw [hch]
      obtain ⟨t, ht⟩ : ∃ t, (l.drop (16 * i)).take 16 = t := ⟨_, rfl⟩
      have htl : 1 ≤ t.length ∧ t.length ≤ 16 := by rw [← ht, List.length_take, List.length_drop]; omega
      have htb : Bsl t := fun x hx => hb x (by rw [← ht] at hx; exact List.mem_of_mem_drop (List.mem_of_mem_take hx))
      have htw : wordsOk [] t = true := by rw [← ht]; exact wordsOk_take (wordsOk_drop hok _) _
      have hk := block_ok4 htb htl.1 htl.2 htw
      have hs := wordsOk_short t [] htw
      rw [ht, blocks_cons (by rw [List.length_drop]; omega), ht, List.drop_drop]
      refine ev_pos (by omega) (ev_pos (by omega) (ev_pos (by omega) (ev_pos (by omega) (ev_bind (ref15_Put_ev t htb ⟨by omega, fun x hx => by have := hs x hx; omega⟩) (ev_bind (ref_Put_ev out _ (by omega) hk.1) ?_)))))
      have hp : putF out (wordsP t).1 = (out ++ frameS (wordsP t).1, 0) := by unfold putF; rw [if_neg (by have := hk.2; omega)]
      rw [hp]
      have h8 := frameS_len (wordsP t).1
      have h4 := hk.2
      refine Ev.eq (ih (d - 16) (by omega) (i + 1) (out ++ frameS (wordsP t).1) (by omega) (by omega) (by rw [List.length_append]; omega)) ?_
      rw [show pay (t :: blocks (l.drop (16 * i + 16))) = (wordsP t).1 :: pay (blocks (l.drop (16 * i + 16))) from rfl, frames_cons, List.append_assoc, show 16 * (i + 1) = 16 * i + 16 by omega]
    · refine ev_neg (by omega) (ev_val ?_)
      rw [List.drop_eq_nil_of_le (by omega)]
      simp [blocks_nil, pay, frames]
theorem ref16_check (l : List (List Int)) (hb : Bsl l) (hl : l.length ≤ 5000) (r : List Int × Int) (hr : okRest l 0 = true → Ev (fun k => creelref16_Build.l1 k l [] 0) r) (hn : okRest l 0 = false → r = ([], 1)) : ∀ (d i : Nat), i + d = l.length → (okRest l i = okRest l 0) →
    Ev (fun k => creelref16_Build.l0 k l i) r := by
  intro d
  induction d with
  | zero =>
    intro i hi ho
    refine Ev.step (fun k => creelref16_Build.l0.eq_2 _ _ _) (ev_neg (by omega) (hr ?_))
    rw [← ho]; unfold okRest; rw [List.drop_eq_nil_of_le (by omega)]; rfl
  | succ d ih =>
    intro i hi ho
    have hw1 : wrap64 ((i : Int) + 1) = ((i + 1 : Nat) : Int) := by rw [w64_in (by omega) (by omega)]; omega
    have hx := hb _ (getD_mem (show i < l.length by omega))
    have hok1 : okRest l (i + 1) = wordsOk (l.getD i []) (l.drop (i + 1)) := by unfold okRest; rw [if_neg (by omega), Nat.add_sub_cancel]
    have hok0 : okRest l i = (wordOk (if i = 0 then [] else l.getD (i - 1) []) (l.getD i []) && wordsOk (l.getD i []) (l.drop (i + 1))) := by
      unfold okRest; rw [getD_drop (show i < l.length by omega)]; rfl
    have hbad : wordOk (if i = 0 then [] else l.getD (i - 1) []) (l.getD i []) = false → r = ([], 1) := fun h => hn (by rw [← ho, hok0, h]; rfl)
    have hgood : wordOk (if i = 0 then [] else l.getD (i - 1) []) (l.getD i []) = true → Ev (fun k => creelref16_Build.l0 k l ((i + 1 : Nat) : Int)) r := fun h => ih (i + 1) (by omega) (by rw [← ho, hok0, h, hok1]; rfl)
    refine Ev.step (fun k => creelref16_Build.l0.eq_2 _ _ _) ?_
    rw [hw1, rdw]
    refine ev_pos (by omega) (ev_pos (by omega) ?_)
    by_cases c1 : (l.getD i []).length < 1
    · rw [hbad (by unfold wordOk; rw [decide_eq_false (by omega)]; rfl)]
      exact ev_pos (by omega) (ev_val rfl)
    · refine ev_neg (by omega) ?_
      by_cases c2 : 32 < (l.getD i []).length
      · rw [hbad (by unfold wordOk; rw [decide_eq_false (show ¬ (l.getD i []).length ≤ 32 by omega)]; simp)]
        exact ev_pos (by omega) (ev_val rfl)
      · refine ev_neg (by omega) ?_
        by_cases c3 : i = 0
        · refine ev_neg (by omega) (hgood ?_)
          rw [if_pos c3]
          exact wordOk_iff.2 ⟨by omega, by omega, lex_nil (by omega)⟩
        · have hp := hb _ (getD_mem (show i - 1 < l.length by omega))
          have hw2 : wrap64 ((i : Int) - 1) = ((i - 1 : Nat) : Int) := by rw [w64_in (by omega) (by omega)]; omega
          rw [hw2, rdw]
          refine ev_pos (by omega) (ev_pos (by omega) (ev_pos (by omega) ?_))
          have hless := less_lex hp hx
          rw [if_neg c3] at hbad hgood
          cases hlx : lexLess (l.getD (i - 1) []) (l.getD i []) with
          | true => exact ev_pos (by rw [hless, hlx]) (hgood (wordOk_iff.2 ⟨by omega, by omega, hlx⟩))
          | false =>
            rw [hbad (by unfold wordOk; rw [hlx, Bool.and_false])]
            exact ev_neg (by rw [hless, hlx]; decide) (ev_val rfl)
theorem ref16_Build_ev (l : List (List Int)) (hb : Bsl l) (hl : l.length ≤ 5000) : Ev (fun k => creelref16_Build.f k l) (dictP l) := by
  have h0 : okRest l 0 = wordsOk [] l := by unfold okRest; rw [if_pos rfl, List.drop_zero]
  unfold creelref16_Build.f
  refine ref16_check l hb hl (dictP l) (fun h => ?_) (fun h => ?_) l.length 0 (by omega) rfl
  · rw [h0] at h
    have := ref16_files l hb hl h l.length 0 [] (by omega) (by omega) (by simp)
    rw [Nat.mul_zero, List.drop_zero, List.nil_append] at this
    unfold dictP fileD
    rw [if_pos h]
    exact this
  · rw [h0] at h
    unfold dictP
    rw [if_neg (by rw [h]; simp)]

/-! ### Open -/
theorem openL_ev : ∀ (fs : List (List Int)) (B : List (List (List Int))) (last : List Int), (∀ x ∈ fs, Bs x ∧ x.length ≤ 1000000) → Bs last → B.length + fs.length ≤ 1000000 → Ev (fun k => dict_Open.l k fs B last) (openW fs B last)
  | [], B, last, _, _, _ => Ev.congr (fun k => dict_Open.l.eq_1 k B last) (ev_val rfl)
  | x :: fs, B, last, hf, hla, hl => by
    simp only [List.length_cons] at hl
    obtain ⟨hx, hxl⟩ := hf x (by simp)
    refine Ev.congr (fun k => dict_Open.l.eq_2 k B last x fs) (ev_pos (by omega) (ev_bind (words_Take_ev x hx hxl) ?_))
    rw [openW]
    rcases wordsT_only hx with ⟨t, hb, h1, h16, hok, hT, hX⟩ | hT
    · rw [hT]
      refine ev_pos rfl (ev_neg (by show ¬ (t.length = 0 ∨ 1000 < t.length); omega) ?_)
      rw [if_pos (show (t, (0:Int)).2 = 0 from rfl)]
      by_cases hn : t.length < 16 ∧ fs.length ≠ 0
      · rw [if_pos hn]; exact ev_pos hn (ev_val rfl)
      · rw [if_neg hn]
        have h0 : Bs (t.getD 0 []) := hb _ (getD_mem (by omega))
        have hz : Bs (t.getD (t.length - 1) []) := hb _ (getD_mem (by omega))
        have hc := compare_lex hla h0
        refine ev_neg hn (ev_got (show bytes_Compare.f last (t.getD 0 []) = some _ from rfl) ?_)
        by_cases hlt : lexLess last (t.getD 0 []) = true
        · rw [if_pos hlt]
          exact ev_neg (by have := hc.2 hlt; omega) (openL_ev fs _ _ (fun y hy => hf y (by simp [hy])) hz (by rw [List.length_append, List.length_singleton]; omega))
        · rw [if_neg hlt]
          exact ev_pos (by rcases Int.lt_or_le (Lib.compareBytes (Lib.bytesOf last) (Lib.bytesOf (t.getD 0 []))) 0 with h | h; exact absurd (hc.1 h) hlt; exact h) (ev_val rfl)
    · rw [hT]
      rw [if_neg (show ¬ (6:Int) = 0 by decide)]
      exact ev_neg (show ¬ (6:Int) = 0 by decide) (ev_val rfl)
theorem only_facts {b : List Int} (hb : Bs b) : (∀ x ∈ (onlyF b).1, Ok4 x ∧ x.length ≤ b.length) ∧ 8 * (onlyF b).1.length ≤ b.length := by
  have h8 := allF_len hb
  obtain ⟨h1, h2, h3, h4, _⟩ := allF_inv b.length b (Nat.le_refl _) hb
  unfold onlyF
  split
  · exact ⟨fun x hx => absurd hx List.not_mem_nil, by simp⟩
  · refine ⟨fun x hx => ⟨h1 x hx, ?_⟩, h8⟩
    have hm : ∀ (F : List (List Int)), x ∈ F → x.length ≤ (frames F).length := by
      intro F
      induction F with
      | nil => intro h; exact absurd h List.not_mem_nil
      | cons y F ih =>
        intro h
        have hy := frameS_len y
        rw [frames_cons, List.length_append]
        rcases List.mem_cons.1 h with rfl | h
        · omega
        · have := ih h; omega
    have := hm (allF b).1 hx
    omega
theorem Open_ev (b : List Int) (hb : Bs b) (hl : b.length ≤ 1000000) : Ev (fun k => dict_Open.f k b) (openD b) := by
  obtain ⟨h1, h2⟩ := only_facts hb
  unfold dict_Open.f openD
  refine ev_bind (Only_ev b hb hl) ?_
  by_cases h0 : (onlyF b).2 = 0
  · rw [if_pos h0]
    exact ev_pos h0 (ev_pos (by omega) (openL_ev _ _ _ (fun x hx => ⟨(h1 x hx).1.1, by have := (h1 x hx).2; omega⟩) Bs.nil (by simp; omega)))
  · rw [if_neg h0]
    exact ev_neg h0 (ev_val rfl)

/-! ### The reference's Open -/
def refW (b : List Int) : List (List Int) → List (List Int) → List (List Int) × Int
  | [], acc => if (dictP acc).2 = 0 ∧ (dictP acc).1 = b then (acc, 0) else ([], 6)
  | x :: fs, acc => if (wordsT x).2 = 0 then refW b fs (acc ++ (wordsT x).1) else ([], 6)
def refD (b : List Int) : List (List Int) × Int := if (onlyF b).2 = 0 then refW b (onlyF b).1 [] else ([], 6)
theorem dictP_bs {l : List (List Int)} (hb : Bsl l) : Bs (dictP l).1 := by
  unfold dictP
  split
  · rename_i h; exact fileD_bs h hb
  · exact Bs.nil
theorem refL_ev (b : List Int) (hbb : Bs b) (F : List (List Int)) (hF : ∀ x ∈ F, Bs x ∧ x.length ≤ 5000) (hFl : F.length ≤ 300) : ∀ (d i : Nat) (acc : List (List Int)), i + d = F.length → Bsl acc → acc.length ≤ 16 * i →
    Ev (fun k => creelref16_Open.l0 k b F acc i) (refW b (F.drop i) acc) := by
  intro d
  induction d with
  | zero =>
    intro i acc hi ha hal
    rw [List.drop_eq_nil_of_le (by omega)]
    refine Ev.step (fun k => creelref16_Open.l0.eq_2 _ _ _ _ _) (ev_neg (by omega) (ev_bind (ref16_Build_ev acc ha (by omega)) ?_))
    have hR : refW b [] acc = (if (dictP acc).2 = 0 ∧ (dictP acc).1 = b then (acc, 0) else ([], 6)) := rfl
    by_cases h0 : (dictP acc).2 = 0
    · by_cases he : (dictP acc).1 = b
      · rw [hR.trans (if_pos ⟨h0, he⟩)]
        exact ev_pos h0 (ev_pos (by rw [he]) (ev_val rfl))
      · rw [hR.trans (if_neg (fun h => he h.2))]
        exact ev_pos h0 (ev_neg (fun h => he ((sn_inj (dictP_bs ha) hbb).1 h)) (ev_val rfl))
    · rw [hR.trans (if_neg (fun h => h0 h.1))]
      exact ev_neg h0 (ev_val rfl)
  | succ d ih =>
    intro i acc hi ha hal
    have hw1 : wrap64 ((i : Int) + 1) = ((i + 1 : Nat) : Int) := by rw [w64_in (by omega) (by omega)]; omega
    obtain ⟨hx, hxl⟩ := hF _ (getD_mem (show i < F.length by omega))
    rw [getD_drop (show i < F.length by omega), refW]
    refine Ev.step (fun k => creelref16_Open.l0.eq_2 _ _ _ _ _) ?_
    rw [hw1, rdw]
    refine ev_pos (by omega) (ev_pos (by omega) (ev_bind (ref15_Take_ev _ hx hxl) ?_))
    rcases wordsT_only hx with ⟨t, hb, h1, h16, hok, hT, hX⟩ | hT
    · rw [hT]
      refine ev_pos rfl (ev_pos (by simp only; omega) ?_)
      rw [if_pos rfl]
      exact ih (i + 1) _ (by omega) (fun y hy => by rcases List.mem_append.1 hy with hy | hy; exact ha y hy; exact hb y hy) (by rw [List.length_append]; simp only; omega)
    · rw [hT]
      refine ev_neg (by decide) (ev_val ?_)
      rw [if_neg (by decide)]
theorem refOpen_ev (b : List Int) (hb : Bs b) (hl : b.length ≤ 2000) : Ev (fun k => creelref16_Open.f k b) (refD b) := by
  obtain ⟨h1, h2⟩ := only_facts hb
  unfold creelref16_Open.f refD
  refine ev_bind (ref_Only_ev b hb (by omega)) ?_
  by_cases h0 : (onlyF b).2 = 0
  · rw [if_pos h0]
    have := refL_ev b hb (onlyF b).1 (fun x hx => ⟨(h1 x hx).1.1, by have := (h1 x hx).2; omega⟩) (by omega) (onlyF b).1.length 0 [] (by omega) (fun y hy => absurd hy List.not_mem_nil) (by simp)
    rw [List.drop_zero] at this
    exact ev_pos h0 this
  · rw [if_neg h0]
    exact ev_neg h0 (ev_val rfl)
theorem refW_inv (b : List Int) : ∀ (fs acc : List (List Int)), Bsl acc → (∀ x ∈ fs, Bs x) → (refW b fs acc).2 = 0 → ∃ l, refW b fs acc = (l, 0) ∧ Bsl l ∧ wordsOk [] l = true ∧ b = fileD l
  | [], acc, ha, _, h => by
    unfold refW at h ⊢
    split at h
    · rename_i hc
      rw [if_pos hc]
      unfold dictP at hc
      split at hc
      · rename_i hw; exact ⟨acc, rfl, ha, hw, hc.2.symm⟩
      · exact absurd hc.1 (by decide)
    · exact absurd h (by decide)
  | x :: fs, acc, ha, hf, h => by
    rw [refW] at h ⊢
    rcases wordsT_only (hf x (by simp)) with ⟨t, hb, h1, h16, hok, hT, hX⟩ | hT
    · rw [hT, if_pos rfl] at h ⊢
      exact refW_inv b fs _ (fun y hy => by rcases List.mem_append.1 hy with hy | hy; exact ha y hy; exact hb y hy) (fun y hy => hf y (by simp [hy])) h
    · rw [hT, if_neg (by decide)] at h
      exact absurd h (by decide)
theorem refW_no (b : List Int) : ∀ (fs acc : List (List Int)), (refW b fs acc).2 ≠ 0 → refW b fs acc = ([], 6)
  | [], acc, h => by
    unfold refW at h ⊢
    split at h
    · exact absurd rfl h
    · rename_i hc; rw [if_neg hc]
  | x :: fs, acc, h => by
    rw [refW] at h ⊢
    split at h
    · rename_i hc; rw [if_pos hc]; exact refW_no b fs _ h
    · rename_i hc; rw [if_neg hc]
theorem refW_put (b : List Int) : ∀ (B : List (List (List Int))) (acc : List (List Int)), (∀ t ∈ B, Bsl t ∧ 1 ≤ t.length ∧ t.length ≤ 16 ∧ wordsOk [] t = true) → refW b (pay B) acc = refW b [] (acc ++ B.flatten)
  | [], acc, _ => by rw [List.flatten_nil, List.append_nil]; rfl
  | t :: B, acc, h => by
    obtain ⟨_, h1, h16, hok⟩ := h t (by simp)
    show refW b ((wordsP t).1 :: pay B) acc = _
    rw [refW.eq_2, wordsT_put h1 h16 hok, if_pos (show ((0:Int)) = 0 from rfl), refW_put b B _ (fun s hs => h s (by simp [hs])), List.flatten_cons, List.append_assoc]
/-- Both tell the same of bytes. -/
theorem refD_eq {b : List Int} (hb : Bs b) : refD b = (dLabels (openD b), if openD b = none then 6 else 0) := by
  cases ho : openD b with
  | some B =>
    obtain ⟨g1, g2, g3, g4, g5, g6⟩ := openD_inv hb ho
    have h0 : (onlyF b).2 = 0 := by
      unfold openD at ho
      split at ho
      · rename_i h; exact h
      · exact absurd ho (by simp)
    unfold refD
    rw [if_pos h0, g2, refW_put b B [] g6, List.nil_append]
    unfold refW dictP
    rw [if_pos g4, if_pos ⟨rfl, g3.symm⟩]
    rfl
  | none =>
    show refD b = ([], 6)
    unfold refD
    split
    · rename_i h0
      obtain ⟨h1, h2⟩ := only_facts hb
      by_cases hc : (refW b (onlyF b).1 []).2 = 0
      · obtain ⟨l, _, i2, i3, i4⟩ := refW_inv b _ [] (fun y hy => absurd hy List.not_mem_nil) (fun x hx => (h1 x hx).1.1) hc
        rw [i4, openD_put i3 i2] at ho
        exact absurd ho (by simp)
      · exact refW_no b _ _ hc
    · rfl

/-! ### Numbers of labels -/
theorem bs_wf {L : List (List Int)} (hb : Bsl L) {i : Nat} (h : i < L.length) : Bs (L.getD i []) := hb _ (getD_mem h)
theorem rising_at {L : List (List Int)} (h : Rising L) {i j : Nat} (hij : i < j) (hj : j < L.length) : lexLess (L.getD i []) (L.getD j []) = true := by
  have h1 := List.pairwise_iff_getElem.1 h i j (by omega) hj hij
  simpa [List.getD_eq_getElem?_getD, List.getElem?_eq_getElem hj, List.getElem?_eq_getElem (show i < L.length by omega)] using h1
theorem dcmp_lt {a b : List Int} (ha : Bs a) (hb : Bs b) : dcmp a b < 0 ↔ lexLess a b = true := compare_lex ha hb
theorem up_all {B : List (List (List Int))} (hb : Bsl B.flatten) (hr : Rising B.flatten) {x : List Int} (hx : Bs x) : DUp (some B) x := by
  intro i j hij hj h
  have hj : j < B.flatten.length := hj
  have h : 0 ≤ dcmp (B.flatten.getD i []) x := h
  show 0 ≤ dcmp (B.flatten.getD j []) x
  rcases Nat.lt_or_ge i j with hlt | hge
  · rcases Int.lt_or_le (dcmp (B.flatten.getD j []) x) 0 with hn | hn
    · have h1 := (dcmp_lt (bs_wf hb hj) hx).1 hn
      have h2 := lex_trans _ _ _ (rising_at hr hlt hj) h1
      have h3 := (dcmp_lt (bs_wf hb (by omega)) hx).2 h2
      omega
    · exact hn
  · obtain rfl : i = j := by omega
    exact h
theorem id_at {B : List (List (List Int))} (hb : Bsl B.flatten) (hr : Rising B.flatten) {i : Nat} (hi : i < B.flatten.length) : dId (some B) (B.flatten.getD i []) = ((i : Int), true) := by
  have he : dSe (fun j : Nat => decide (0 ≤ dcmp (dAt (some B) j) (B.flatten.getD i []))) (dN (some B)) = i := by
    refine dSe_eq (Nat.le_of_lt hi) (fun j hj => decide_eq_false ?_) (fun j h1 h2 => decide_eq_true ?_)
    · have := (dcmp_lt (bs_wf hb (show j < B.flatten.length by omega)) (bs_wf hb hi)).2 (rising_at hr hj hi)
      show ¬ 0 ≤ dcmp (B.flatten.getD j []) _
      omega
    · have h2 : j < B.flatten.length := h2
      show 0 ≤ dcmp (B.flatten.getD j []) _
      rcases Int.lt_or_le (dcmp (B.flatten.getD j []) (B.flatten.getD i [])) 0 with hn | hn
      · have h3 := (dcmp_lt (bs_wf hb h2) (bs_wf hb hi)).1 hn
        rcases Nat.lt_or_ge i j with hlt | hge
        · rw [lex_asymm (rising_at hr hlt h2)] at h3
          exact absurd h3 (by simp)
        · obtain rfl : i = j := by omega
          rw [lex_irrefl] at h3
          exact absurd h3 (by simp)
      · exact hn
  unfold dId
  rw [he, if_pos ⟨hi, beq_self_eq_true _⟩]
theorem id_no {B : List (List (List Int))} (hb : Bsl B.flatten) {x : List Int} (hx : Bs x) (h : x ∉ B.flatten) : dId (some B) x = (0, false) := by
  unfold dId
  refine if_neg (fun hc => h ?_)
  obtain ⟨h1, h2⟩ := hc
  have h1 : _ < B.flatten.length := h1
  have h3 := (sn_inj (bs_wf hb h1) hx).1 (beq_iff_eq.1 h2)
  rw [← h3]
  exact getD_mem h1
theorem idx_of {L : List (List Int)} {x : List Int} (h : x ∈ L) : ∃ i, i < L.length ∧ L.getD i [] = x := by
  obtain ⟨i, hi, he⟩ := List.getElem_of_mem h
  exact ⟨i, hi, by simp [List.getD_eq_getElem?_getD, List.getElem?_eq_getElem hi, he]⟩
theorem refId_loop (L : List (List Int)) (x : List Int) (hb : Bsl L) (hx : Bs x) (hl : L.length ≤ 100000) (r : Nat) (hr : r ≤ L.length) (hlo : ∀ i, i < r → L.getD i [] ≠ x) (hhi : r < L.length → L.getD r [] = x) : ∀ (d i : Nat), i + d = r →
    Ev (fun k => creelref16_Id.l0 k L x i) (if r < L.length then ((r : Int), true) else (0, false)) := by
  intro d
  induction d with
  | zero =>
    intro i hi
    obtain rfl : i = r := by omega
    refine Ev.step (fun k => creelref16_Id.l0.eq_2 _ _ _ _) ?_
    by_cases h : i < L.length
    · rw [if_pos h, rdw, hhi h]
      exact ev_pos (by omega) (ev_pos (by omega) (ev_pos rfl (ev_val rfl)))
    · rw [if_neg h]
      exact ev_neg (by omega) (ev_val rfl)
  | succ d ih =>
    intro i hi
    have hw1 : wrap64 ((i : Int) + 1) = ((i + 1 : Nat) : Int) := by rw [w64_in (by omega) (by omega)]; omega
    refine Ev.step (fun k => creelref16_Id.l0.eq_2 _ _ _ _) ?_
    rw [hw1, rdw]
    exact ev_pos (by omega) (ev_pos (by omega) (ev_neg (fun h => hlo i (by omega) ((sn_inj (bs_wf hb (by omega)) hx).1 h)) (ih (i + 1) (by omega))))
theorem refId_ev {B : List (List (List Int))} (hb : Bsl B.flatten) (hr : Rising B.flatten) (hl : B.flatten.length ≤ 100000) {x : List Int} (hx : Bs x) : Ev (fun k => creelref16_Id.f k B.flatten x) (dId (some B) x) := by
  unfold creelref16_Id.f
  by_cases h : x ∈ B.flatten
  · obtain ⟨i, hi, he⟩ := idx_of h
    have h1 := id_at hb hr hi
    rw [he] at h1
    rw [h1]
    have := refId_loop B.flatten x hb hx hl i (by omega) (fun j hj hje => by
      have h2 := rising_at hr hj hi
      rw [hje, he, lex_irrefl] at h2
      exact absurd h2 (by simp)) (fun _ => he) i 0 (by omega)
    rw [if_pos hi] at this
    exact this
  · rw [id_no hb hx h]
    have := refId_loop B.flatten x hb hx hl B.flatten.length (Nat.le_refl _) (fun j hj hje => h (by rw [← hje]; exact getD_mem hj)) (fun h_ => absurd h_ (Nat.lt_irrefl _)) B.flatten.length 0 (by omega)
    rw [if_neg (Nat.lt_irrefl _)] at this
    exact this
/-! ### few, rise, the examples -/
theorem Fit_le : ∀ {B : List (List (List Int))}, Fit B → B.length ≤ B.flatten.length
  | [], _ => Nat.le_refl _
  | t :: B, ⟨h1, _, _, h4⟩ => by
    have := Fit_le h4
    rw [List.flatten_cons, List.length_append, List.length_cons]
    omega
theorem DFit_of {B : List (List (List Int))} (hf : Fit B) (hw : wordsOk [] B.flatten = true) (hl : B.flatten.length ≤ 1000000) : DFit (some B) := by
  have h1 := Fit_le hf
  have h2 := wordsOk_short _ _ hw
  exact ⟨by omega, hf, fun l hl x hx => by have := h2 x (List.mem_flatten.2 ⟨l, hl, hx⟩); omega⟩
theorem shown16_ev : Ev (fun k => creellaw16_shown.f k) true := by
  have hb : Bsl ([[97], [98]] : List (List Int)) := by
    intro x hx y hy
    revert y
    revert x
    decide
  have hok : wordsOk [] ([[97], [98]] : List (List Int)) = true := by decide
  have hbl : blocks ([[97], [98]] : List (List Int)) = [[[97], [98]]] := rfl
  have hP : wordsP ([[97], [98]] : List (List Int)) = ([2, 0, 1, 97, 0, 1, 98], 0) := by
    rw [wordsP_ok (by decide) (by decide) (by decide)]
    simp only [wordsB, wordB, shN, List.length_cons, List.length_nil]
    simp [putN_small]
  have hd : dictP ([[97], [98]] : List (List Int)) = (frameS [2, 0, 1, 97, 0, 1, 98], 0) := by
    unfold dictP fileD
    rw [if_pos hok, hbl]
    unfold pay frames
    simp only [List.map_cons, List.map_nil, List.flatten_cons, List.flatten_nil, List.append_nil, hP]
  have hfl : fileD ([[97], [98]] : List (List Int)) = frameS [2, 0, 1, 97, 0, 1, 98] := by
    have := congrArg Prod.fst hd
    unfold dictP at this
    rw [if_pos hok] at this
    exact this
  unfold creellaw16_shown.f
  refine ev_bind (Build_ev _ hb (by decide)) ?_
  rw [hd]
  have hbs : Bs (frameS [2, 0, 1, 97, 0, 1, 98]) := frameS_bs (by intro y hy; revert y; decide)
  have hol := openD_put hok hb
  rw [hfl, hbl] at hol
  refine ev_bind (Open_ev _ hbs (by rw [frameS_len]; decide)) (ev_pos ⟨rfl, by rw [frameS_len]; rfl, ?_, hol⟩ (ev_val rfl))
  rw [frame_split]
  have h4 : (fixN 4 ([2, 0, 1, 97, 0, 1, 98] : List Int).length).length = 4 := fixN_len _ _
  have hdr : ∀ (r : List Int), (fixN 4 ([2, 0, 1, 97, 0, 1, 98] : List Int).length ++ r).drop 4 = r := fun r => by
    have := List.drop_left (l₁ := fixN 4 ([2, 0, 1, 97, 0, 1, 98] : List Int).length) (l₂ := r)
    rw [h4] at this; exact this
  rw [hdr]
  rfl

end Go.Proofs.Ytaiechbdcddalaa.Plain
