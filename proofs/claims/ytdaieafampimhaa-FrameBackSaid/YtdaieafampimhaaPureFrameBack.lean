/- What was put is taken, in order, with what stands behind it, and cut it goes on: any lists of bytes (the first 20, of up to 400 bytes), any bytes behind (the first 400), where it is cut. -/
import Derived.Test.YtdaieafampimhaaSpecOnly03
import Derived.Test.YtdaieafampimhaaSpecWalk
import Derived.Test.YtdaieafampimhaaPrint12
set_option linter.unusedVariables false
set_option linter.unusedSimpArgs false
namespace Go.Proofs.Ytdaieafampimhaa.Pure
open Go.RowKit Go.Proofs.Ytdaieafampimhaa.Print Go.Proofs.YtdaieafampimhaaW.PrintWords Go.Proofs.YtdaieafampimhaaW.PrintLast Go.Proofs.YtdaieafampimhaaW.PrintMore Go.Proofs.Ytdaieafampimhaa.Plain

theorem allF_nil : allF [] = ([], 0) := allF_stop (by unfold takeF; decide)
theorem allF_frames {L : List (List Int)} (h : ∀ x ∈ L, Ok4 x) : allF (frames L) = (L, (frames L).length) := by
  have := allF_put L h [] Bs.nil
  rw [List.append_nil, allF_nil] at this
  rw [this, List.append_nil]; rfl
/-- What is told of a beginning of frames. -/
theorem cut_tells {L : List (List Int)} (h : ∀ x ∈ L, Ok4 x) (c : Nat) {S : List (List Int)} {n : Nat} (hX : allF ((frames L).take c) = (S, n)) :
    S = L.take S.length ∧ (n < ((frames L).take c).length → (takeF (((frames L).take c).drop n)).2.2 = 5) := by
  have hB := frames_bs h
  obtain ⟨i1, i2, i3, i4, i5⟩ := allF_inv ((frames L).take c).length _ (Nat.le_refl _) (hB.take c)
  rw [hX] at i1 i2 i3 i4 i5
  dsimp only at i1 i2 i3 i4 i5
  generalize hY : ((frames L).take c).drop n = Y at *
  have hYb : Bs Y := by rw [← hY]; exact (hB.take c).drop n
  have hb : frames L = frames S ++ (Y ++ (frames L).drop c) := by
    rw [← List.append_assoc, ← i2, List.take_append_drop]
  have h1 := allF_put S i1 (Y ++ (frames L).drop c) (hYb.append (hB.drop c))
  rw [← hb, allF_frames h] at h1
  have hL : L = S ++ (allF (Y ++ (frames L).drop c)).1 := congrArg Prod.fst h1
  refine ⟨by conv => rhs; rw [hL]
             simp, fun hn => ?_⟩
  generalize (allF (Y ++ (frames L).drop c)).1 = M at hL
  have hM : frames M = Y ++ (frames L).drop c := by
    have h2 := hb
    conv at h2 => lhs; rw [hL, frames_append]
    exact List.append_cancel_left h2
  have hYl : 0 < Y.length := by rw [← hY, List.length_drop]; omega
  cases M with
  | nil =>
    have := congrArg List.length hM
    rw [List.length_append] at this
    simp [frames] at this
    omega
  | cons x M =>
    have hx : Ok4 x := h x (by rw [hL]; simp)
    have hx4 := hx.2
    rw [frames_cons] at hM
    have hfl := frameS_len x
    by_cases hlt : Y.length < x.length + 8
    · have hYe : Y = (frameS x).take Y.length := by
        have h3 := congrArg (List.take Y.length) hM
        rw [List.take_left, List.take_append_of_le_length (by omega)] at h3
        exact h3.symm
      rw [hYe, takeF_cut hx4 hlt]
    · exfalso
      apply i5
      have hYe : Y = frameS x ++ Y.drop (x.length + 8) := by
        have h3 := congrArg (List.take (x.length + 8)) hM
        rw [List.take_append_of_le_length (by omega), List.take_of_length_le (by omega), List.take_append_of_le_length (by omega)] at h3
        conv => lhs; rw [← List.take_append_drop (x.length + 8) Y, ← h3]
      rw [hYe, takeF_put hx4]
theorem frames_le : ∀ (L : List (List Int)), (∀ x ∈ L, Bs x ∧ x.length ≤ 400) → (frames L).length ≤ 408 * L.length
  | [], _ => by simp [frames]
  | x :: L, h => by
    have h1 := frames_le L (fun y hy => h y (by simp [hy]))
    have h2 := (h x (by simp)).2
    rw [frames_cons, List.length_append, frameS_len, List.length_cons]; omega
theorem back_end (L : List (List Int)) (h4 : ∀ x ∈ L, Ok4 x) (T : List Int) (hT : Bs T) (hl : (frames L).length ≤ 10000) (hTl : T.length ≤ 400) :
    ∃ (A : List (List Int)) (n : Nat), Ev (fun k => frame_All.f k (frames L ++ T)) (A, (n : Int)) ∧ (frames L).length ≤ n ∧ L.length ≤ A.length ∧ A.take L.length = L := by
  have hA := All_ev (frames L ++ T) ((frames_bs h4).append hT) (by rw [List.length_append]; omega)
  rw [allF_put L h4 T hT] at hA
  refine ⟨_, _, hA, by omega, by rw [List.length_append]; omega, List.take_left ..⟩
theorem FrameBack : creellaw03_FrameBack.Pure := by
  intro l0 l1 a2 hl0 hr0 hl1 _ hb1 ha2
  obtain ⟨a20, a21⟩ := wf_u16 ha2
  have hb1' : Bs l1 := fun y hy => wf_u8 (hb1 y hy)
  have hrow : ∀ i : Nat, i < l0.length → Bs (rd_L1 l0 (i : Int)) := fun i hi => by
    have : rd_L1 l0 (i : Int) ∈ l0 := by simp [rd_L1, List.getD_eq_getElem?_getD, List.getElem?_eq_getElem hi]
    exact fun y hy => wf_u8 ((hr0 _ this).2 y hy)
  have hmx : l0.length ≤ 9223372036854775807 := Nat.le_trans hl0 (by decide)
  refine Ev.rounds ?_
  unfold creellaw03_FrameBack.f
  refine ev_bind shown03_ev ?_
  suffices hs : ∀ (d i : Nat) (L : List (List Int)), i + d = l0.length → L.length ≤ i → L.length ≤ 20 → (∀ x ∈ L, Bs x ∧ x.length ≤ 400) → Ev (fun k => creellaw03_FrameBack.l0 k l1 a2 true (frames L) L l0 (l0.length : Int) i) true from hs l0.length 0 [] (by omega) (by simp) (by simp) (by simp)
  intro d
  induction d with
  | zero =>
    intro i L hi hL hL20 hok
    have h4 : ∀ x ∈ L, Ok4 x := fun x hx => ⟨(hok x hx).1, by have := (hok x hx).2; omega⟩
    have hss : Bss L := fun x hx => (hok x hx).1
    have hfl := frames_le L hok
    have hB := frames_bs h4
    have hOnly : Ev (fun k => frame_Only.f k (frames L)) (L, (0 : Int)) := by
      have h1 := Only_ev (frames L) hB (by omega)
      unfold onlyF at h1
      rw [allF_frames h4, if_neg (by show ¬ ((frames L).length < (frames L).length); omega)] at h1
      exact h1
    have hsame := Same_ev L L hss hss (by omega)
    rw [decide_eq_true rfl] at hsame
    refine Ev.step (fun k => creellaw03_FrameBack.l0.eq_2 _ _ _ _ _ _ _ _ _) ?_
    refine ev_neg (by omega) (ev_bind hOnly (ev_pos rfl (ev_bind hsame ?_)))
    refine Ev.step (fun k => creellaw03_FrameBack.j1.eq_2 _ _ _ _ _ _ _) ?_
    refine ev_neg (by decide) ?_
    obtain ⟨c, hc, hcl⟩ : ∃ c : Nat, Int.tmod (wrap64 a2) (wrap64 (((frames L).length : Int) + 1)) = (c : Int) ∧ c ≤ (frames L).length := by
      rw [w64_in (n := a2) (by omega) (by omega), w64_in (by omega) (by omega), Int.tmod_eq_emod_of_nonneg a20]
      have h0 := Int.emod_nonneg a2 (show ((frames L).length : Int) + 1 ≠ 0 by omega)
      have h1 := Int.emod_lt_of_pos a2 (show (0 : Int) < ((frames L).length : Int) + 1 by omega)
      exact ⟨(a2 % (((frames L).length : Int) + 1)).toNat, by omega, by omega⟩
    have hne : ¬ wrap64 (((frames L).length : Int) + 1) = 0 := by rw [w64_in (by omega) (by omega)]; omega
    refine ev_neg hne ?_
    rw [hc]
    clear hc hne
    refine ev_pos (by omega) (ev_pos (by omega) ?_)
    rw [Int.toNat_natCast]
    have hXl : ((frames L).take c).length = c := by rw [List.length_take]; omega
    obtain ⟨S, n, hX⟩ : ∃ S n, allF ((frames L).take c) = (S, n) := ⟨_, _, rfl⟩
    obtain ⟨hS, hcut⟩ := cut_tells h4 c hX
    obtain ⟨i1, i2, i3, i4, i5⟩ := allF_inv ((frames L).take c).length _ (Nat.le_refl _) (hB.take c)
    have hlen := allF_len (hB.take c)
    have hall := All_ev ((frames L).take c) (hB.take c) (by omega)
    have hon := Only_ev ((frames L).take c) (hB.take c) (by omega)
    unfold onlyF at hon
    rw [hX] at i1 i2 i3 i4 i5 hlen hall hon
    dsimp only at i1 i2 i3 i4 i5 hlen hall hon
    rw [hXl] at hcut hon hlen i4
    have hSL : S.length ≤ L.length := by
      have := congrArg List.length hS
      rw [List.length_take] at this; omega
    have hSs : Bss S := fun x hx => (i1 x hx).1
    have hsame2 := Same_ev S S hSs hSs (by omega)
    rw [decide_eq_true rfl] at hsame2
    refine ev_bind hall (ev_neg (by show ¬ ((n : Int) > (c : Int)); omega) (ev_neg (by show ¬ ((S.length : Int) > (L.length : Int)); omega) (ev_pos (by show (0 : Int) ≤ (S.length : Int); omega) (ev_pos (by show (S.length : Int) ≤ (L.length : Int); omega) ?_))))
    rw [Int.toNat_natCast, ← hS]
    refine ev_bind hsame2 ?_
    refine Ev.step (fun k => creellaw03_FrameBack.j2.eq_2 _ _ _ _ _ _ _ _) ?_
    refine ev_neg (by decide) (ev_pos (by omega) (ev_pos (by omega) ?_))
    rw [Int.toNat_natCast]
    refine ev_bind hon ?_
    have hm : 0 ≤ mn (l1.length : Int) 400 ∧ mn (l1.length : Int) 400 ≤ (l1.length : Int) ∧ mn (l1.length : Int) 400 ≤ 400 := by unfold mn; split <;> omega
    obtain ⟨p, hp⟩ := Int.eq_ofNat_of_zero_le hm.1
    rw [hp] at hm ⊢
    rw [Int.toNat_natCast]
    have hTl : (l1.take p).length ≤ 400 := by rw [List.length_take]; omega
    obtain ⟨A, q, hA, hq, hAl, hAt⟩ := back_end L h4 (l1.take p) (hb1'.take p) (by omega) hTl
    by_cases hnc : n < c
    · rw [if_pos hnc, hcut hnc]
      refine ev_pos (by omega) (ev_pos rfl (ev_pos hm.1 (ev_pos hm.2.1 (ev_some (ev_pos (by rw [List.length_nil]; omega) (ev_some ?_))))))
      rw [List.nil_append]
      refine ev_pos (by omega) (ev_bind hA (ev_pos rfl (ev_pos (by show (q : Int) ≥ _; omega) (ev_pos (by show (A.length : Int) ≥ _; omega) (ev_pos (by omega) (ev_pos (by show _ ≤ (A.length : Int); omega) ?_))))))
      rw [Int.toNat_natCast]
      show Ev (fun k => (creelref03_Same.f k (A.take L.length) L).bind _) true
      rw [hAt]
      refine ev_bind hsame ?_
      exact ev_val rfl
    · rw [if_neg hnc]
      refine ev_neg (by omega) (ev_pos hm.1 (ev_pos hm.2.1 (ev_some (ev_pos (by rw [List.length_nil]; omega) (ev_some ?_)))))
      rw [List.nil_append]
      refine ev_pos (by omega) (ev_bind hA (ev_pos rfl (ev_pos (by show (q : Int) ≥ _; omega) (ev_pos (by show (A.length : Int) ≥ _; omega) (ev_pos (by omega) (ev_pos (by show _ ≤ (A.length : Int); omega) ?_))))))
      rw [Int.toNat_natCast]
      show Ev (fun k => (creelref03_Same.f k (A.take L.length) L).bind _) true
      rw [hAt]
      refine ev_bind hsame ?_
      exact ev_val rfl
  | succ d ih =>
    intro i L hi hL hL20 hok
    have hw : wrap64 ((i : Int) + 1) = ((i + 1 : Nat) : Int) := by rw [w64_in (by omega) (by omega)]; omega
    have hfl := frames_le L hok
    have hr := hrow i (by omega)
    have hp := Put_ev (frames L) (rd_L1 l0 (i : Int)) (by omega)
    refine Ev.step (fun k => creellaw03_FrameBack.l0.eq_2 _ _ _ _ _ _ _ _ _) ?_
    rw [hw]
    clear hw
    refine ev_pos (by omega) (ev_pos (by omega) (ev_pos (by omega) ?_))
    by_cases h20 : (i : Int) < 20
    · refine ev_pos h20 ?_
      by_cases h400 : ((rd_L1 l0 (i : Int)).length : Int) ≤ 400
      · refine ev_pos h400 ?_
        have hput : putF (frames L) (rd_L1 l0 (i : Int)) = (frames (L ++ [rd_L1 l0 (i : Int)]), 0) := by
          unfold putF; rw [if_neg (by omega), frames_append, frames_cons]
          simp [frames]
        rw [hput] at hp
        generalize rd_L1 l0 (i : Int) = x at *
        refine ev_bind hp (ev_pos rfl (ev_pos (by omega) ?_))
        refine ih (i + 1) (L ++ [x]) (by omega) (by rw [List.length_append, List.length_singleton]; omega) (by rw [List.length_append, List.length_singleton]; omega) ?_
        intro y hy
        rcases List.mem_append.1 hy with hy | hy
        · exact hok y hy
        · rw [List.mem_singleton.1 hy]; exact ⟨hr, by omega⟩
      · exact ev_neg h400 (ih (i + 1) L (by omega) (by omega) hL20 hok)
    · exact ev_neg h20 (ih (i + 1) L (by omega) (by omega) hL20 hok)

end Go.Proofs.Ytdaieafampimhaa.Pure
