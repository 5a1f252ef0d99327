/- Frames one behind the other are taken as both, and what All tells is as many bytes as put again: any bytes, any others (the first 2,000 each). -/
import Derived.Test.YtdaieafampimhaaSpecSame03
import Derived.Test.YtdaieafampimhaaSpecWalk
import Derived.Test.YtdaieafampimhaaPrint8
set_option linter.unusedVariables false
set_option linter.unusedSimpArgs false
namespace Go.Proofs.Ytdaieafampimhaa.Pure
open Go.RowKit Go.Proofs.Ytdaieafampimhaa.Print Go.Proofs.YtdaieafampimhaaW.PrintWords Go.Proofs.YtdaieafampimhaaW.PrintLast Go.Proofs.YtdaieafampimhaaW.PrintMore Go.Proofs.Ytdaieafampimhaa.Plain

theorem frames_snoc (l : List (List Int)) (i : Nat) (h : i < l.length) : frames (l.take (i + 1)) = frames (l.take i) ++ frameS (rd_L1 l (i : Int)) := by
  rw [List.take_add_one, frames_append, List.getElem?_eq_getElem h]
  simp [frames, rd_L1, List.getD_eq_getElem?_getD, List.getElem?_eq_getElem h]
theorem frames_take_len (l : List (List Int)) (i : Nat) : (frames (l.take i)).length ≤ (frames l).length := by
  have := frames_append (l.take i) (l.drop i)
  rw [List.take_append_drop] at this
  rw [this, List.length_append]; omega
theorem parts_loop (X Y : List Int) (hY : Bs Y) (hlX : X.length ≤ 2000) (hlY : Y.length ≤ 2000) (l m : List (List Int)) (n kk : Nat) (hl : ∀ x ∈ l, Ok4 x) (hn : (frames l).length = n) (hnX : n ≤ X.length)
    (hXt : X.take n = frames l) (hYa : allF Y = (m, kk)) (hk : kk ≤ Y.length) (hm : Bss m) (hml : m.length ≤ 2000) (hll : l.length ≤ 2000) : ∀ (d i : Nat), i + d = l.length →
    Ev (fun k => creellaw03_FrameParts.l0 k true X Y l n m kk (frames (l.take i)) l l.length i) true := by
  intro d
  induction d with
  | zero =>
    intro i hi
    obtain rfl : i = l.length := by omega
    rw [List.take_length]
    have hb := frames_bs hl
    have hall := All_ev (frames l ++ Y) (hb.append hY) (by rw [List.length_append]; omega)
    rw [allF_put l hl Y hY, hYa] at hall
    refine Ev.step (fun k => creellaw03_FrameParts.l0.eq_2 _ _ _ _ _ _ _ _ _ _ _ _) ?_
    refine ev_neg (by omega) (ev_some (ev_pos (by omega) (ev_pos (by omega) ?_)))
    rw [Int.toNat_natCast, hXt, List.nil_append]
    refine ev_pos (by rw [List.length_nil]; omega) (ev_some (ev_pos (by omega) (ev_bind hall ?_)))
    refine ev_pos rfl (ev_pos rfl (ev_pos ?_ (ev_some (ev_pos (by rw [List.length_nil]; omega) (ev_some ?_)))))
    · show (((frames l).length + kk : Nat) : Int) = _
      rw [w64_in (by omega) (by omega)]; omega
    · rw [List.nil_append]
      refine ev_pos (by omega) (ev_bind (Same_ev (l ++ m) (l ++ m) ?_ ?_ ?_) (ev_val (decide_eq_true rfl)))
      · intro x hx
        rcases List.mem_append.1 hx with hx | hx
        · exact (hl x hx).1
        · exact hm x hx
      · intro x hx
        rcases List.mem_append.1 hx with hx | hx
        · exact (hl x hx).1
        · exact hm x hx
      · rw [List.length_append]; omega
  | succ d ih =>
    intro i hi
    have hx : Ok4 (rd_L1 l (i : Int)) := by
      refine hl _ ?_
      simp [rd_L1, List.getD_eq_getElem?_getD, List.getElem?_eq_getElem (show i < l.length by omega)]
    have hle := frames_take_len l i
    have b0 : (0 : Int) ≤ (i : Int) := by omega
    have b1 : (i : Int) < (l.length : Int) := by omega
    have hp := Put_ev (frames (l.take i)) (rd_L1 l (i : Int)) (by omega)
    have hput : putF (frames (l.take i)) (rd_L1 l (i : Int)) = (frames (l.take (i + 1)), 0) := by
      have := hx.2
      unfold putF; rw [if_neg (by omega), frames_snoc l i (by omega)]
    rw [hput] at hp
    have hw : wrap64 ((i : Int) + 1) = ((i + 1 : Nat) : Int) := by rw [w64_in (by omega) (by omega)]; omega
    refine Ev.step (fun k => creellaw03_FrameParts.l0.eq_2 _ _ _ _ _ _ _ _ _ _ _ _) ?_
    refine ev_pos b1 ?_
    refine ev_pos b0 ?_
    refine ev_pos b1 ?_
    rw [hw]
    clear hw
    refine ev_bind hp ?_
    refine ev_pos rfl ?_
    exact ih (i + 1) (by omega)

theorem FrameParts : creellaw03_FrameParts.Pure := by
  intro a b _ _ ha _ _ hb
  have ha' : Bs a := fun y hy => wf_u8 (ha y hy)
  have hb' : Bs b := fun y hy => wf_u8 (hb y hy)
  have hmn : ∀ l : List Int, 0 ≤ mn (l.length : Int) 2000 ∧ mn (l.length : Int) 2000 ≤ (l.length : Int) ∧ mn (l.length : Int) 2000 ≤ 2000 := fun l => by unfold mn; split <;> omega
  obtain ⟨p, hp⟩ := Int.eq_ofNat_of_zero_le (hmn a).1
  obtain ⟨q, hq⟩ := Int.eq_ofNat_of_zero_le (hmn b).1
  have h1 := hmn a
  have h2 := hmn b
  clear hmn
  refine Ev.rounds ?_
  unfold creellaw03_FrameParts.f
  rw [hp] at h1
  rw [hq] at h2
  rw [hp, hq]
  have hXb : Bs (a.take p) := ha'.take _
  have hYb : Bs (b.take q) := hb'.take _
  have hXl : (a.take p).length ≤ 2000 := by rw [List.length_take]; omega
  have hYl : (b.take q).length ≤ 2000 := by rw [List.length_take]; omega
  refine ev_bind shown03_ev (ev_pos (by omega) (ev_pos (by omega) (ev_pos (by omega) (ev_pos (by omega) ?_))))
  rw [Int.toNat_natCast, Int.toNat_natCast]
  generalize a.take p = X at *
  generalize b.take q = Y at *
  obtain ⟨i1, i2, i3, i4, _⟩ := allF_inv X.length X (Nat.le_refl _) hXb
  obtain ⟨j1, j2, j3, j4, _⟩ := allF_inv Y.length Y (Nat.le_refl _) hYb
  have il := allF_len hXb
  have jl := allF_len hYb
  refine ev_bind (All_ev X hXb (by omega)) (ev_bind (All_ev Y hYb (by omega)) ?_)
  obtain ⟨l, n, hX⟩ : ∃ l n, allF X = (l, n) := ⟨_, _, rfl⟩
  obtain ⟨m, kk, hY⟩ : ∃ m kk, allF Y = (m, kk) := ⟨_, _, rfl⟩
  rw [hX] at i1 i2 i3 i4 il ⊢
  rw [hY] at j1 j2 j3 j4 jl ⊢
  dsimp only at i1 i2 i3 i4 il j1 j2 j3 j4 jl ⊢
  have hXt : X.take n = frames l := by
    rw [i2, ← i3]; simp
  refine ev_neg (by omega) (ev_neg (by omega) (ev_neg (by omega) ?_))
  rw [decide_eq_false (show ¬ (kk : Int) > (Y.length : Int) by omega)]
  refine Ev.step (fun k => creellaw03_FrameParts.j0.eq_2 _ _ _ _ _ _ _ _ _) ?_
  refine ev_neg (by decide) ?_
  exact parts_loop X Y hYb hXl hYl l m n kk i1 i3 i4 hXt hY j4 (fun x hx => (j1 x hx).1) (by omega) (by omega) l.length 0 (by omega)

end Go.Proofs.Ytdaieafampimhaa.Pure
