/- What was built is told, and cut it is none. -/
import Derived.Test.YtnkjbgoibmbmoaaSpecRise18
import Derived.Test.YtnkjbgoibmbmoaaSpecFind18
import Derived.Test.YtnkjbgoibmbmoaaPrint6
set_option linter.unusedVariables false
set_option linter.unusedSimpArgs false
namespace Go.Proofs.Ytnkjbgoibmbmoaa.Pure
open Go.RowKit Go.Proofs.Ytnkjbgoibmbmoaa.Print Go.Proofs.YtnkjbgoibmbmoaaW.PrintWords Go.Proofs.YtnkjbgoibmbmoaaW.PrintLast Go.Proofs.YtnkjbgoibmbmoaaW.PrintMore Go.Proofs.Ytnkjbgoibmbmoaa.Plain

theorem ev_all {α : Type} {P : α → Nat → Prop} : ∀ (l : List α), (∀ a ∈ l, ∃ K, ∀ k, K ≤ k → P a k) → ∃ K, ∀ k, K ≤ k → ∀ a ∈ l, P a k
  | [], _ => ⟨0, fun _ _ _ h => absurd h List.not_mem_nil⟩
  | a :: l, h => by
    obtain ⟨K1, h1⟩ := h a (by simp)
    obtain ⟨K2, h2⟩ := ev_all l (fun b hb => h b (by simp [hb]))
    refine ⟨K1 + K2, fun k hk b hb => ?_⟩
    rcases List.mem_cons.1 hb with rfl | hb
    · exact h1 k (by omega)
    · exact h2 k (by omega) b hb

/-! ### Bytes that are cut -/
theorem vertS_cut {v : Int} {l : List Int} (hv : 0 ≤ v ∧ v < 4294967296) (hu : Us l) (hl : l.length ≤ 100000) {j : Nat} (hj : j < (vtx v l).length) : (vertS v ((vtx v l).take j)).2.2 = false := by
  have h1 := gapsP_up hv hu (by omega)
  unfold vtx at hj ⊢
  rw [List.length_append] at hj
  by_cases h : j < (putN (gapsP v l).1.length).length
  · have ht : takeN ((putN (gapsP v l).1.length ++ (gapsP v l).1).take j) = (0, [], 5) := by
      rw [List.take_append_of_le_length (Nat.le_of_lt h)]
      exact takeN_cut (by omega) h
    unfold vertS
    rw [ht]
    rw [if_neg (fun h_ => absurd h_.1 (by show ¬ ((5 : Int) = 0); decide))]
  · obtain ⟨i, rfl⟩ : ∃ i, j = (putN (gapsP v l).1.length).length + i := ⟨j - (putN (gapsP v l).1.length).length, by omega⟩
    have ht : takeN ((putN (gapsP v l).1.length ++ (gapsP v l).1).take ((putN (gapsP v l).1.length).length + i)) = (((gapsP v l).1.length : Int), (gapsP v l).1.take i, 0) := by
      rw [List.take_length_add_append]
      exact takeN_put (by omega) _
    unfold vertS
    rw [ht]
    rw [if_neg (fun h_ => by
      have h2 : (((gapsP v l).1.length : Nat) : Int) ≤ (((gapsP v l).1.take i).length : Int) := h_.2
      rw [List.length_take] at h2
      omega)]
theorem openL_cut : ∀ (L : List (List Int)) (v : Int) (j : Nat), UsL L → L.all rises = true → 0 ≤ v → v + L.length ≤ 4294967296 → j < (vtxs v L).length → openL v L.length ((vtxs v L).take j) = none
  | [], v, j, _, _, _, _, h => absurd h (Nat.not_lt_zero _)
  | l :: L, v, j, hL, hr, h0, h1, hj => by
    simp only [List.length_cons] at h1
    simp only [List.all_cons, Bool.and_eq_true] at hr
    have hu := hL l (by simp)
    show openL v (L.length + 1) ((vtx v l ++ vtxs (v + 1) L).take j) = none
    have hj2 : j < (vtx v l).length + (vtxs (v + 1) L).length := by rw [← List.length_append]; exact hj
    rw [openL]
    by_cases h : j < (vtx v l).length
    · rw [List.take_append_of_le_length (Nat.le_of_lt h), vertS_cut ⟨h0, by omega⟩ hu.1 hu.2 h, if_neg (by decide)]
    · obtain ⟨i, rfl⟩ : ∃ i, j = (vtx v l).length + i := ⟨j - (vtx v l).length, by omega⟩
      rw [List.take_length_add_append]
      have hv := vertS_put (v := v) ⟨h0, by omega⟩ hu.1 hu.2 hr.1 ((vtxs (v + 1) L).take i)
      have ih := openL_cut L (v + 1) i (fun x hx => hL x (by simp [hx])) hr.2 (by omega) (by omega) (by omega)
      rw [hv, if_pos rfl]
      show (openL (v + 1) L.length ((vtxs (v + 1) L).take i)).map _ = none
      rw [ih]
      rfl
theorem openB_code {b : List Int} (h : (takeN b).2.2 ≠ 0) : openB b = none := by unfold openB; exact if_neg (fun h_ => h h_.1)
theorem openB_code2 {b : List Int} (h : (takeN (takeN b).2.1).2.2 ≠ 0) : openB b = none := by unfold openB; exact if_neg (fun h_ => h h_.2.1)
theorem openB_none {b : List Int} (h : openL (takeN b).1 (takeN (takeN b).2.1).1.toNat (takeN (takeN b).2.1).2.1 = none) : openB b = none := by
  unfold openB
  split
  · rw [h]
  · rfl
theorem body_cut {a : Nat} {L : List (List Int)} (hL : UsL L) (hr : L.all rises = true) (h : a + L.length ≤ 4294967296) {j : Nat} (hj : j < (bodyS a L).length) : openB ((bodyS a L).take j) = none := by
  unfold bodyS at hj ⊢
  rw [List.length_append, List.length_append] at hj
  by_cases h1 : j < (putN a).length
  · refine openB_code ?_
    rw [List.take_append_of_le_length (Nat.le_of_lt h1), takeN_cut (by omega) h1]
    decide
  · obtain ⟨i, rfl⟩ : ∃ i, j = (putN a).length + i := ⟨j - (putN a).length, by omega⟩
    rw [List.take_length_add_append]
    have t1 := takeN_put (m := a) (by omega) ((putN L.length ++ vtxs a L).take i)
    by_cases h2 : i < (putN L.length).length
    · refine openB_code2 ?_
      rw [t1]
      show (takeN ((putN L.length ++ vtxs a L).take i)).2.2 ≠ 0
      rw [List.take_append_of_le_length (Nat.le_of_lt h2), takeN_cut (by omega) h2]
      decide
    · obtain ⟨n, rfl⟩ : ∃ n, i = (putN L.length).length + n := ⟨i - (putN L.length).length, by omega⟩
      refine openB_none ?_
      rw [t1]
      show openL (a : Int) (takeN ((putN L.length ++ vtxs a L).take ((putN L.length).length + n))).1.toNat (takeN ((putN L.length ++ vtxs a L).take ((putN L.length).length + n))).2.1 = none
      rw [List.take_length_add_append, takeN_put (m := L.length) (by omega) ((vtxs a L).take n)]
      show openL (a : Int) ((L.length : Int)).toNat ((vtxs a L).take n) = none
      rw [Int.toNat_natCast]
      exact openL_cut L a n hL hr (by omega) (by omega) (by omega)
theorem frames_cut : ∀ (F : List (List Int)), (∀ x ∈ F, Ok4 x) → ∀ c, c ≤ (frames F).length → (∃ k, (frames F).take c = frames (F.take k) ∧ (c < (frames F).length → k < F.length)) ∨ (∃ k r, (frames F).take c = frames (F.take k) ++ r ∧ 0 < r.length ∧ Bs r ∧ (takeF r).2.2 ≠ 0)
  | [], _, c, _ => .inl ⟨0, by simp [frames], fun h => absurd h (Nat.not_lt_zero _)⟩
  | x :: F, h, c, hc => by
    have hx := h x (by simp)
    have hl := frameS_len x
    rw [frames_cons] at hc ⊢
    rw [List.length_append] at hc ⊢
    by_cases h1 : c < (frameS x).length
    · rw [List.take_append_of_le_length (Nat.le_of_lt h1)]
      rcases Nat.eq_zero_or_pos c with h0 | h0
      · subst h0
        exact .inl ⟨0, by simp [frames], fun _ => by simp⟩
      · refine .inr ⟨0, (frameS x).take c, by simp [frames], by rw [List.length_take]; omega, (frameS_bs hx.1).take _, ?_⟩
        rw [takeF_cut hx.2 (by omega)]
        decide
    · obtain ⟨i, rfl⟩ : ∃ i, c = (frameS x).length + i := ⟨c - (frameS x).length, by omega⟩
      rw [List.take_length_add_append]
      rcases frames_cut F (fun y hy => h y (by simp [hy])) i (by omega) with ⟨k, h2, h3⟩ | ⟨k, r, h2, h3, h4, h5⟩
      · refine .inl ⟨k + 1, ?_, fun h_ => ?_⟩
        · rw [h2, List.take_succ_cons, frames_cons]
        · have := h3 (by omega)
          simp only [List.length_cons]; omega
      · refine .inr ⟨k + 1, r, ?_, h3, h4, h5⟩
        rw [h2, List.take_succ_cons, frames_cons, List.append_assoc]
theorem wholeS_eq {b : List Int} {l : List (List Int)} {n : Nat} (h : allF b = (l, n)) : wholeS b = if n = b.length ∧ okP l = true then (l.flatten, true) else ([], false) := by unfold wholeS; rw [h]
theorem openS_bad {b : List Int} (h : wholeS b = ([], false)) : openS b = none := by unfold openS; rw [h]; exact if_neg (by decide)
theorem openS_good {b x : List Int} (h : wholeS b = (x, true)) : openS b = openB x := by unfold openS; rw [h]; exact if_pos rfl
theorem file_cut {a : Nat} {L : List (List Int)} (hL : UsL L) (hr : L.all rises = true) (h : a + L.length ≤ 4294967296) {c : Nat} (hc : c < (fileS (bodyS a L)).length) : openS ((fileS (bodyS a L)).take c) = none := by
  have hbs := bodyS_bs a L
  have ho := pieces_ok4 hbs
  have hpf := pieces_flatten (bodyS a L)
  have hp1 : ∀ x ∈ pieces (bodyS a L), 1 ≤ x.length := fun x hx => (chk_ok 1024 (by decide) _ _ x hx).1
  unfold fileS at hc ⊢
  generalize pieces (bodyS a L) = F at *
  have hok : ∀ k, ∀ x ∈ F.take k, Ok4 x := fun k x hx => ho x (List.mem_of_mem_take hx)
  rcases frames_cut F ho c (Nat.le_of_lt hc) with ⟨k, h2, h3⟩ | ⟨k, r, h2, h3, h4, h5⟩
  · rw [h2]
    have hk := h3 hc
    have hw := wholeS_eq (allF_frames (hok k))
    by_cases hp : okP (F.take k) = true
    · rw [if_pos ⟨rfl, hp⟩] at hw
      have hsplit : bodyS a L = (F.take k).flatten ++ (F.drop k).flatten := by rw [← List.flatten_append, List.take_append_drop, hpf]
      have hd : 0 < (F.drop k).flatten.length := by
        rw [List.drop_eq_getElem_cons hk, List.flatten_cons, List.length_append]
        have := hp1 F[k] (List.getElem_mem _)
        omega
      have he : (F.take k).flatten = (bodyS a L).take (F.take k).flatten.length := by rw [hsplit, List.take_left']; rfl
      rw [openS_good hw, he]
      exact body_cut hL hr h (by rw [hsplit, List.length_append]; omega)
    · rw [if_neg (fun h_ => hp h_.2)] at hw
      exact openS_bad hw
  · rw [h2]
    have ha := allF_put (F.take k) (hok k) r h4
    rw [allF_stop h5] at ha
    have hw := wholeS_eq ha
    rw [if_neg (fun h_ => by
      have h6 : (frames (F.take k)).length + 0 = (frames (F.take k) ++ r).length := h_.1
      rw [List.length_append] at h6
      omega)] at hw
    exact openS_bad hw
theorem ShardBack : creellaw18_ShardBack.Pure := by
  intro m at_ l hm hat hl hw
  obtain ⟨h1, h2, h3, h4⟩ := riseL_facts (wf_us hw)
  have hx : ∀ x ∈ riseL l, x.length ≤ 60 := fun y hy => by
    obtain ⟨x, hx, rfl⟩ := List.mem_map.1 hy
    have g := few60_facts l
    exact Nat.le_trans (riseN_facts (wf_us hw x (g.2 x hx).2)).2.2 (g.2 x hx).1
  have hok : m + (riseL l).length ≤ 4294967296 := by omega
  have hu := fileS_up (bodyS m (riseL l))
  have hb := bodyS_up (a := m) h1 hok
  have hbs := fileS_bs (bodyS_bs m (riseL l))
  have hne : 0 < (fileS (bodyS m (riseL l))).length := by
    have hf := frames_len (pieces (bodyS m (riseL l)))
    rw [pieces_flatten] at hf
    have hp := putN_ne m
    have : 0 < (bodyS m (riseL l)).length := by unfold bodyS; rw [List.length_append]; omega
    unfold fileS
    omega
  have hri : ∀ x ∈ riseL l, Rise x := fun x hx_ => (rises_iff x).1 (List.all_eq_true.1 h3 x hx_)
  obtain ⟨c, hc⟩ : ∃ c, at_ % (fileS (bodyS m (riseL l))).length = c := ⟨_, rfl⟩
  have hcl : c < (fileS (bodyS m (riseL l))).length := by rw [← hc]; exact Nat.mod_lt _ hne
  obtain ⟨K1, e1⟩ := shown18_ev
  obtain ⟨K2, e2⟩ := rise18_ev l hl
  obtain ⟨K3, e3⟩ := Build_ev m (riseL l) h1 (by omega) ⟨by omega, by omega⟩
  obtain ⟨K4, e4⟩ := Open_ev (fileS (bodyS m (riseL l))) hbs (by omega)
  obtain ⟨K5, e5⟩ := Open_ev ((fileS (bodyS m (riseL l))).take c) (hbs.take _) (by rw [List.length_take]; omega)
  rw [build_ok h3 hok] at e3
  rw [open_file h1 h3 hok] at e4
  rw [file_cut h1 h3 hok hcl] at e5
  obtain ⟨K6, e6⟩ := ev_all (P := fun x k => creelref17_Same.f k x x = some true) (riseL l) (fun x hx_ => by
    obtain ⟨K, e⟩ := same17_ev x x (by have := hx x hx_; omega)
    rw [decide_eq_true rfl] at e
    exact ⟨K, e⟩)
  obtain ⟨K7, e7⟩ := ev_all (P := fun (i : Nat) k => ∀ t ∈ rd_L3 (riseL l) (i : Int), shHas k (some ((m : Int), riseL l)) ((m : Int) + (i : Int)) t = some true) (List.range (riseL l).length) (fun i hi => by
    have hi2 := List.mem_range.1 hi
    have hm := rdL_mem hi2
    have hs := shNext_in (m : Int) (riseL l) i hi2
    exact ev_all (P := fun t k => shHas k (some ((m : Int), riseL l)) ((m : Int) + (i : Int)) t = some true) _ (fun t ht => by
      obtain ⟨K, e⟩ := has_ev (some ((m : Int), riseL l)) ((m : Int) + (i : Int)) t (by rw [hs]; exact hri _ hm) (by rw [hs]; have := hx _ hm; show (rd_L3 (riseL l) (i : Int)).length ≤ _; omega)
      rw [hs, decide_eq_true ht] at e
      exact ⟨K, e⟩))
  refine ⟨K1 + K2 + K3 + K4 + K5 + K6 + K7, riseL l, fileS (bodyS m (riseL l)), e1 _ (by omega), e2 _ (by omega), e3 _ (by omega), e4 _ (by omega), h4, hx, hne, by omega, e6 _ (by omega), fun i hi => e7 _ (by omega) i (List.mem_range.2 hi), ?_⟩
  rw [hc]
  exact e5 _ (by omega)

end Go.Proofs.Ytnkjbgoibmbmoaa.Pure
