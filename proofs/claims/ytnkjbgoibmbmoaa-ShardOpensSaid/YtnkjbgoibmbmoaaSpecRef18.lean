/- The reference's frames, and what it makes of a file (layer 18). -/
import Derived.Test.YtnkjbgoibmbmoaaSpecShard
import Derived.Test.YtnkjbgoibmbmoaaPrint8
import Derived.Test.YtnkjbgoibmbmoaaPrint9
import Derived.Test.YtnkjbgoibmbmoaaPrint11
import Derived.Test.YtnkjbgoibmbmoaaPrint10
set_option linter.unusedVariables false
set_option linter.unusedSimpArgs false
namespace Go.Proofs.Ytnkjbgoibmbmoaa.Plain
open Go.RowKit Go.Proofs.YtnkjbgoibmbmoaaW.PrintWords Go.Proofs.YtnkjbgoibmbmoaaW.PrintLast Go.Proofs.YtnkjbgoibmbmoaaW.PrintMore Go.Proofs.Ytnkjbgoibmbmoaa.Print

def unsealF (b : List Int) : List Int × Int := if b.length < 4 then ([], 5) else if sealS (b.take (b.length - 4)) = b then (b.take (b.length - 4), 0) else ([], 6)
theorem ref_Unseal_ev (b : List Int) (hl : b.length ≤ 140737488340000) (hb : Bs b) : Ev (fun k => creelref03_Unseal.f k b) (unsealF b) := by
  unfold creelref03_Unseal.f unsealF
  by_cases h4 : b.length < 4
  · exact all_ev fun k => by rw [if_pos (by omega), if_pos h4]
  · have hw : wrap64 ((b.length : Int) - 4) = ((b.length - 4 : Nat) : Int) := by rw [w64_in (by omega) (by omega)]; omega
    have htl : (b.take (b.length - 4)).length = b.length - 4 := by rw [List.length_take]; omega
    refine Ev.congr (f := fun k => (creelref03_Seal.f k (b.take (b.length - 4))).bind fun t393 => (if (strOfNums t393).toList = (strOfNums b).toList then (some (b.take (b.length - 4), 0)) else (some (([] : List Int), 6)))) (fun k => ?_) (Ev.bind (ref_Seal_ev _ (by omega) (hb.take _)) (all_ev fun k => ?_))
    · rw [if_neg (by omega), hw]
      simp only [Option.bind_some, List.nil_append, List.length_nil, Int.toNat_natCast]
      rw [if_pos (by omega), if_pos (by omega), if_pos (by omega)]
    · rw [if_neg h4]
      by_cases hs : sealS (b.take (b.length - 4)) = b
      · rw [if_pos ((sn_inj (sealS_bs (hb.take _)) hb).2 hs), if_pos hs]
      · rw [if_neg (fun h => hs ((sn_inj (sealS_bs (hb.take _)) hb).1 h)), if_neg hs]
def takeFT (b : List Int) : List Int × List Int × Int := if (takeF b).2.2 = 0 then ((takeF b).1, b.drop ((takeF b).1.length + 8), 0) else ([], [], (takeF b).2.2)
theorem ref03_Take_ev (b : List Int) (hl : b.length ≤ 140737488340000) (hb : Bs b) : Ev (fun k => creelref03_Take.f k b) (takeFT b) := by
  unfold creelref03_Take.f
  refine Ev.bind (ref_Unfix_ev b 4 hb (by omega) (by omega)) ?_
  have hU : unfixS b 4 = if b.length < 4 then (0, [], 5) else ((uval 0 (b.take 4) : Int), b.drop 4, 0) := by
    unfold unfixS
    rw [if_neg (by decide)]
    by_cases h4 : b.length < 4
    · rw [if_pos h4, if_pos (by omega)]
    · rw [if_neg h4, if_neg (by omega)]; rfl
  rw [hU]
  unfold takeFT takeF
  by_cases h4 : b.length < 4
  · exact all_ev fun k => by rw [if_pos h4, if_pos h4, if_neg (by decide), if_neg (by decide)]
  · rw [if_neg h4, if_neg h4]
    have hu := uval_lt (b.take 4) (hb.take 4)
    rw [List.length_take, show min 4 b.length = 4 by omega] at hu
    generalize uval 0 (b.take 4) = n at *
    have w0 : wrap64 (n : Int) = (n : Int) := w64_in (by omega) (by omega)
    have w1 : wrap64 ((n : Int) + 4) = ((n + 4 : Nat) : Int) := by rw [w64_in (by omega) (by omega)]; omega
    have w2 : wrap64 (((n + 4 : Nat) : Int) + 4) = ((n + 8 : Nat) : Int) := by rw [w64_in (by omega) (by omega)]; omega
    simp only [w0, w1, w2]
    clear w0 w1 w2
    by_cases h1 : 4096 < n
    · exact all_ev fun k => by rw [if_pos (by trivial), if_pos (by omega), if_pos h1, if_neg (by decide)]
    · rw [if_neg h1]
      by_cases h2 : b.length < n + 8
      · exact all_ev fun k => by rw [if_pos (by trivial), if_neg (by omega), if_pos (by omega), if_pos h2, if_neg (by decide)]
      · rw [if_neg h2]
        have htl : (b.take (n + 8)).length = n + 8 := by rw [List.length_take]; omega
        have hun := ref_Unseal_ev (b.take (n + 8)) (by omega) (hb.take _)
        have hN : unsealF (b.take (n + 8)) = if sealS (b.take (n + 4)) = b.take (n + 8) then (b.take (n + 4), 0) else ([], 6) := by
          unfold unsealF
          rw [htl, if_neg (by omega), List.take_take, show min (n + 8 - 4) (n + 8) = n + 4 by omega]
        rw [hN] at hun
        refine Ev.congr (f := fun k => (creelref03_Unseal.f k (b.take (n + 8))).bind fun bt432 => (if bt432.2 = 0 then some ((b.take (n + 4)).drop 4, b.drop (n + 8), 0) else (some (([] : List Int), ([] : List Int), 6)))) (fun k => ?_) (Ev.bind hun (all_ev fun k => ?_))
        · rw [if_pos (by trivial), if_neg (by omega), if_neg (by omega), if_pos (by omega), if_pos (by omega)]
          simp only [Option.bind_some, List.nil_append, List.length_nil, Int.toNat_natCast]
          rw [if_pos (by omega), if_pos (by omega), if_pos (by rw [List.length_drop, List.length_take]; omega), if_pos (by rw [List.length_drop]; omega)]
        · by_cases hs : sealS (b.take (n + 4)) = b.take (n + 8)
          · have hxl : ((b.take (n + 4)).drop 4).length = n := by rw [List.length_drop, List.length_take]; omega
            rw [if_pos hs, if_pos (by trivial), if_pos hs, if_pos (by trivial), hxl]
          · rw [if_neg hs, if_neg (by decide), if_neg hs, if_neg (by decide)]
def onlyF (b : List Int) : List (List Int) × Int := if (allF b).2 < b.length then ([], (takeF (b.drop (allF b).2)).2.2) else ((allF b).1, 0)
theorem ref_All_loop : ∀ (m : Nat) (b : List Int) (acc : List (List Int)) (at_ : Nat), Bs b → b.length ≤ m → acc.length + b.length ≤ 5000000 → at_ + b.length ≤ 5000000 →
    Ev (fun k => creelref03_All.l0 k b acc at_) (acc ++ (allF b).1, ((at_ + (allF b).2 : Nat) : Int)) := by
  intro m
  induction m with
  | zero =>
    intro b acc at_ hb hm hc ha
    have hne : (takeF b).2.2 ≠ 0 := by unfold takeF; rw [if_pos (by omega)]; decide
    rw [allF_stop hne]
    refine Ev.step (f := fun k => (creelref03_Take.f k b).bind fun bt450 => (if bt450.2.2 = 0 then (if acc.length < 5864062014805 then (creelref03_All.l0 k bt450.2.1 (acc ++ [bt450.1]) (wrap64 ((wrap64 ((at_ : Int) + (bt450.1.length : Int))) + 8))) else (none)) else (some (acc, (at_ : Int))))) (fun k => rfl) (Ev.bind (ref03_Take_ev b (by omega) hb) (all_ev fun k => ?_))
    unfold takeFT
    rw [if_neg hne, if_neg hne]; simp
  | succ m ih =>
    intro b acc at_ hb hm hc ha
    refine Ev.step (f := fun k => (creelref03_Take.f k b).bind fun bt450 => (if bt450.2.2 = 0 then (if acc.length < 5864062014805 then (creelref03_All.l0 k bt450.2.1 (acc ++ [bt450.1]) (wrap64 ((wrap64 ((at_ : Int) + (bt450.1.length : Int))) + 8))) else (none)) else (some (acc, (at_ : Int))))) (fun k => rfl) (Ev.bind (ref03_Take_ev b (by omega) hb) ?_)
    unfold takeFT
    by_cases h : (takeF b).2.2 = 0
    · obtain ⟨h1, h2, h3, h4⟩ := takeF_inv hb h
      have hx := h1.2
      rw [if_pos h, allF_step hb h]
      have hd : (b.drop ((takeF b).1.length + 8)).length = b.length - ((takeF b).1.length + 8) := List.length_drop ..
      have := ih (b.drop ((takeF b).1.length + 8)) (acc ++ [(takeF b).1]) (at_ + ((takeF b).1.length + 8)) (hb.drop _) (by omega) (by rw [List.length_append, List.length_singleton]; omega) (by omega)
      refine Ev.congr (f := fun k => creelref03_All.l0 k (b.drop ((takeF b).1.length + 8)) (acc ++ [(takeF b).1]) ((at_ + ((takeF b).1.length + 8) : Nat) : Int)) (fun k => ?_) (Ev.eq this ?_)
      · have w1 : wrap64 ((wrap64 ((at_ : Int) + ((takeF b).1.length : Int))) + 8) = ((at_ + ((takeF b).1.length + 8) : Nat) : Int) := by
          rw [w64_in (n := (at_ : Int) + ((takeF b).1.length : Int)) (by omega) (by omega), w64_in (by omega) (by omega)]; omega
        show (if (0 : Int) = 0 then (if acc.length < 5864062014805 then (creelref03_All.l0 k (b.drop ((takeF b).1.length + 8)) (acc ++ [(takeF b).1]) (wrap64 ((wrap64 ((at_ : Int) + ((takeF b).1.length : Int))) + 8))) else (none)) else (some (acc, (at_ : Int)))) = _
        rw [if_pos rfl, if_pos (by omega), w1]
      · rw [List.append_assoc]
        simp only [List.singleton_append]
        congr 2
        omega
    · rw [allF_stop h, if_neg h]
      refine all_ev fun k => ?_
      show (if (takeF b).2.2 = 0 then _ else _) = _
      rw [if_neg h]; simp
theorem ref_All_ev (b : List Int) (hb : Bs b) (hl : b.length ≤ 1000000) : Ev (fun k => creelref03_All.f k b) ((allF b).1, ((allF b).2 : Int)) := by
  unfold creelref03_All.f
  have := ref_All_loop b.length b [] 0 hb (by omega) (by simp; omega) (by omega)
  rw [List.nil_append, Nat.zero_add] at this
  exact this
theorem ref_Only_ev (b : List Int) (hb : Bs b) (hl : b.length ≤ 1000000) : Ev (fun k => creelref03_Only.f k b) (onlyF b) := by
  unfold creelref03_Only.f onlyF
  refine Ev.bind (ref_All_ev b hb hl) ?_
  by_cases h : (allF b).2 < b.length
  · refine Ev.congr (f := fun k => (creelref03_Take.f k (b.drop (allF b).2)).bind fun bt465 => (some (([] : List (List Int)), bt465.2.2))) (fun k => ?_) (Ev.bind (ref03_Take_ev (b.drop (allF b).2) (by rw [List.length_drop]; omega) (hb.drop _)) (all_ev fun k => ?_))
    · show (if ((allF b).2 : Int) < (b.length : Int) then _ else _) = _
      rw [if_pos (by omega), if_pos (by omega), if_pos (by omega)]; rfl
    · rw [if_pos h]
      unfold takeFT
      by_cases h0 : (takeF (b.drop (allF b).2)).2.2 = 0
      · rw [if_pos h0, h0]
      · rw [if_neg h0]
  · refine all_ev fun k => ?_
    show (if ((allF b).2 : Int) < (b.length : Int) then _ else _) = _
    rw [if_neg (by omega), if_neg h]

/-! ### What is told was put so -/
theorem vertS_inv {v : Int} (hv : 0 ≤ v ∧ v < 4294967296) {b : List Int} (hb : Bs b) (h : (vertS v b).2.2 = true) : b = vtx v (vertS v b).1 ++ (vertS v b).2.1 ∧ rises (vertS v b).1 = true := by
  unfold vertS at h ⊢
  split at h
  · rename_i hc
    rw [if_pos hc]
    split at h
    · rename_i hz
      rw [if_pos hz]
      show b = vtx v (gapsT v ((takeN b).2.1.take (takeN b).1.toNat)).1 ++ (takeN b).2.1.drop (takeN b).1.toNat ∧ rises (gapsT v ((takeN b).2.1.take (takeN b).1.toNat)).1 = true
      rcases takeN_only hb with ⟨m, r, hm, he, ht⟩ | ht | ht
      · rw [ht] at hc hz ⊢
        simp only [Int.toNat_natCast] at hc hz ⊢
        have hr : Bs r := by rw [he] at hb; exact hb.of_append_right
        rcases gapsT_only hv.1 hv.2 (hr.take m) with ⟨l, _, h2, _, h4, h5⟩ | h4
        · rw [h4]
          refine ⟨?_, h2⟩
          unfold vtx
          have hl : (gapsP v l).1.length = m := by rw [← h5, List.length_take]; have := hc.2; omega
          rw [hl, ← h5, List.append_assoc, List.take_append_drop]
          exact he
        · rw [h4] at hz; exact absurd hz (by decide)
      · rw [ht] at hc; exact absurd hc.1 (by decide)
      · rw [ht] at hc; exact absurd hc.1 (by decide)
    · exact absurd h (by decide)
  · exact absurd h (by decide)
theorem openL_inv : ∀ (m : Nat) (v : Int) (b : List Int) (L : List (List Int)) (r : List Int), 0 ≤ v → v + m ≤ 4294967296 → Bs b → b.length ≤ 100000 → openL v m b = some (L, r) → L.length = m ∧ UsL L ∧ L.all rises = true ∧ b = vtxs v L ++ r ∧ lenSum L ≤ b.length
  | 0, v, b, L, r, _, _, _, _, h => by
    rw [openL] at h
    obtain ⟨rfl, rfl⟩ : [] = L ∧ b = r := by simpa using h
    exact ⟨rfl, fun x hx => absurd hx List.not_mem_nil, rfl, rfl, Nat.zero_le _⟩
  | m + 1, v, b, L, r, h0, h1, hb, hl, h => by
    have hv : 0 ≤ v ∧ v < 4294967296 := ⟨h0, by omega⟩
    obtain ⟨g1, g2, g3⟩ := vertS_facts hv hb
    rw [openL] at h
    by_cases hok : (vertS v b).2.2 = true
    · rw [if_pos hok] at h
      obtain ⟨g4, g5⟩ := vertS_inv hv hb hok
      obtain ⟨⟨L2, r2⟩, h2, h3⟩ := Option.map_eq_some_iff.1 h
      obtain ⟨rfl, rfl⟩ : (vertS v b).1 :: L2 = L ∧ r2 = r := by simpa using h3
      obtain ⟨k1, k2, k3, k4, k5⟩ := openL_inv m (v + 1) _ L2 r2 (by omega) (by omega) g1 (by omega) h2
      refine ⟨by rw [List.length_cons, k1], fun x hx => ?_, by rw [List.all_cons, g5, k3]; rfl, ?_, by rw [lenSum_cons]; omega⟩
      · rcases List.mem_cons.1 hx with rfl | hx
        · exact ⟨g3, by omega⟩
        · exact k2 x hx
      · rw [vtxs, List.append_assoc, ← k4]
        exact g4
    · rw [if_neg hok] at h
      exact absurd h (by simp)
theorem okP_inv : ∀ (f : Nat) (l : List (List Int)), okP l = true → l.flatten.length < f → chk 1024 f l.flatten = l
  | 0, l, _, h => absurd h (Nat.not_lt_zero _)
  | f + 1, [], _, _ => chk_nil _ _
  | f + 1, x :: r, h, hl => by
    unfold okP at h
    rw [Bool.and_eq_true, decide_eq_true_eq] at h
    obtain ⟨⟨h1, h2, h3⟩, h4⟩ := h
    rw [List.flatten_cons] at hl ⊢
    rw [List.length_append] at hl
    have ih := okP_inv f r h4 (by omega)
    rw [chk, if_neg (by rw [List.length_append]; omega)]
    rcases h3 with rfl | h3
    · rw [List.flatten_nil, List.append_nil, List.take_of_length_le h2, List.drop_eq_nil_of_le h2, chk_nil]
    · rw [List.take_left' h3, List.drop_left' h3, ih]
/-- What is told was put so, and there is one way to put it. -/
theorem openS_inv {b : List Int} (hb : Bs b) (hl : b.length ≤ 100000) {a : Int} {L : List (List Int)} (h : openS b = some (a, L)) :
    (allF b).2 = b.length ∧ (∃ x y, takeN (allF b).1.flatten = (a, x, 0) ∧ takeN x = ((L.length : Int), y, 0) ∧ L.length ≤ y.length ∧ openL a L.length y = some (L, [])) ∧ 0 ≤ a ∧ a + L.length ≤ 4294967296 ∧ UsL L ∧ L.all rises = true ∧ lenSum L ≤ b.length ∧ L.length ≤ b.length ∧ b = fileS (bodyS a.toNat L) := by
  obtain ⟨f1, f2, f3, f4, _⟩ := allF_inv b.length b (Nat.le_refl _) hb
  unfold openS at h
  by_cases hw : (allF b).2 = b.length ∧ okP (allF b).1 = true
  · have hw2 : wholeS b = ((allF b).1.flatten, true) := by unfold wholeS; rw [if_pos hw]
    rw [hw2] at h
    simp only [if_true] at h
    obtain ⟨hw, hp⟩ := hw
    have hfl := frames_len (allF b).1
    have hbb : Bs (allF b).1.flatten := fun y hy => by
      obtain ⟨x, hx, hy⟩ := List.mem_flatten.1 hy
      exact (f1 x hx).1 y hy
    have hbe : b = frames (allF b).1 := by
      have h_ := f2
      rw [hw, List.drop_length, List.append_nil] at h_
      exact h_
    have hpc : pieces (allF b).1.flatten = (allF b).1 := okP_inv _ _ hp (by omega)
    have hbl : (allF b).1.flatten.length ≤ b.length := by omega
    rw [← hpc] at hbe
    refine ⟨hw, ?_⟩
    change b = fileS (allF b).1.flatten at hbe
    generalize (allF b).1.flatten = body at *
    clear hpc hp hfl f1 f2 f3 f4 hw hw2
    unfold openB at h
    split at h
    · rename_i hc
      obtain ⟨c1, c2, c3, c4, c5⟩ := hc
      rcases takeN_only hbb with ⟨m, x, hm, he, ht⟩ | ht | ht
      · have hx : Bs x := by rw [he] at hbb; exact hbb.of_append_right
        rw [ht] at h c1 c2 c3 c4 c5
        simp only at h c1 c2 c3 c4 c5
        rcases takeN_only hx with ⟨n, y, hn, he2, ht2⟩ | ht2 | ht2
        · have hy : Bs y := by rw [he2] at hx; exact hx.of_append_right
          rw [ht2] at h c2 c3 c5
          simp only [Int.toNat_natCast] at h c2 c3 c5
          have l1 : body.length = (putN m).length + x.length := by rw [he, List.length_append]
          have l2 : x.length = (putN n).length + y.length := by rw [he2, List.length_append]
          cases ho : openL (m : Int) n y with
          | none => rw [ho] at h; exact absurd h (by simp)
          | some p =>
            obtain ⟨L2, r⟩ := p
            rw [ho] at h
            simp only at h
            by_cases hr : r.length = 0
            · rw [if_pos hr] at h
              obtain rfl : r = [] := List.eq_nil_of_length_eq_zero hr
              obtain ⟨rfl, rfl⟩ : (m : Int) = a ∧ L2 = L := by simpa using h
              obtain ⟨k1, k2, k3, k4, k5⟩ := openL_inv n m y L2 [] (by omega) (by omega) hy (by omega) ho
              subst k1
              refine ⟨⟨x, y, ht, ht2, by omega, ho⟩, by omega, c5, k2, k3, by omega, by omega, ?_⟩
              rw [hbe]
              unfold bodyS
              rw [List.append_nil] at k4
              rw [Int.toNat_natCast, ← k4, ← he2, ← he]
            · rw [if_neg hr] at h
              exact absurd h (by simp)
        · rw [ht2] at c2; exact absurd c2 (by decide)
        · rw [ht2] at c2; exact absurd c2 (by decide)
      · rw [ht] at c1; exact absurd c1 (by decide)
      · rw [ht] at c1; exact absurd c1 (by decide)
    · exact absurd h (by simp)
  · have hw2 : wholeS b = ([], false) := by unfold wholeS; rw [if_neg hw]
    rw [hw2] at h
    exact absurd h (by simp)

/-! ### The reference's -/
theorem openS_none {b : List Int} (h : wholeS b = ([], false)) : openS b = none := by unfold openS; rw [h]; exact if_neg (by decide)
def refL (a : Int) : Nat → List (List Int) → List Int → Option (List (List Int))
  | 0, next, _ => some next
  | m + 1, next, b => if (vertS ((a + next.length) % 4294967296) b).2.2 = true then refL a m (next ++ [(vertS ((a + next.length) % 4294967296) b).1]) (vertS ((a + next.length) % 4294967296) b).2.1 else none
theorem refL_openL (a : Int) (h0 : 0 ≤ a) : ∀ (m : Nat) (next : List (List Int)) (b : List Int), a + next.length + m ≤ 4294967296 → refL a m next b = (openL (a + next.length) m b).map fun p => next ++ p.1
  | 0, next, b, _ => by simp [refL, openL]
  | m + 1, next, b, h => by
    have hm : (a + (next.length : Int)) % 4294967296 = a + next.length := by omega
    rw [refL, openL, hm]
    by_cases hok : (vertS (a + next.length) b).2.2 = true
    · rw [if_pos hok, if_pos hok, refL_openL a h0 m _ _ (by rw [List.length_append]; simp only [List.length_cons, List.length_nil]; omega)]
      rw [List.length_append, show (a + ((next.length + [(vertS (a + ↑next.length) b).1].length : Nat) : Int)) = a + next.length + 1 from by simp only [List.length_cons, List.length_nil]; omega]
      cases openL (a + next.length + 1) m (vertS (a + next.length) b).2.1 with
      | none => rfl
      | some p => simp
    · rw [if_neg hok, if_neg hok]; rfl
theorem refL_facts (a : Int) : ∀ (m : Nat) (next : List (List Int)) (b : List Int) (L : List (List Int)), Bs b → b.length ≤ 100000 → UsL next → refL a m next b = some L → L.length = next.length + m ∧ UsL L ∧ lenSum L ≤ lenSum next + b.length
  | 0, next, b, L, _, _, hu, h => by
    obtain rfl : next = L := by simpa [refL] using h
    exact ⟨rfl, hu, Nat.le_add_right _ _⟩
  | m + 1, next, b, L, hb, hl, hu, h => by
    obtain ⟨v, hv⟩ : ∃ v, (a + (next.length : Int)) % 4294967296 = v := ⟨_, rfl⟩
    obtain ⟨g1, g2, g3⟩ := vertS_facts (v := v) ⟨by omega, by omega⟩ hb
    rw [refL, hv] at h
    by_cases hok : (vertS v b).2.2 = true
    · rw [if_pos hok] at h
      obtain ⟨k1, k2, k3⟩ := refL_facts a m _ _ L g1 (by omega) (fun x hx => by
        rcases List.mem_append.1 hx with hx | hx
        · exact hu x hx
        · obtain rfl := List.mem_singleton.1 hx
          exact ⟨g3, by omega⟩) h
      have e1 : lenSum (next ++ [(vertS v b).1]) = lenSum next + (vertS v b).1.length := by simp [lenSum]
      rw [List.length_append, List.length_singleton] at k1
      exact ⟨by omega, k2, by omega⟩
    · rw [if_neg hok] at h
      exact absurd h (by simp)
theorem refL_ev (a : Int) (h0 : 0 ≤ a) : ∀ (m : Nat) (next : List (List Int)) (b : List Int), Bs b → b.length ≤ 100000 → Ev (fun k => creelref18_Open.l k a m next b) (refL a m next b)
  | 0, next, b, _, _ => Ev.congr (fun k => creelref18_Open.l.eq_1 k a next b) (ev_val rfl)
  | m + 1, next, b, hb, hl => by
    obtain ⟨v, hv⟩ : ∃ v, (a + (next.length : Int)) % 4294967296 = v := ⟨_, rfl⟩
    have hv2 : 0 ≤ v ∧ v < 4294967296 := ⟨by omega, by omega⟩
    obtain ⟨g1, g2, g3, g4⟩ := takeN_rest hb
    obtain ⟨f1, f2, f3⟩ := vertS_facts hv2 hb
    refine Ev.congr (fun k => creelref18_Open.l.eq_2 k a next b m) ?_
    refine ev_bind (ref_Take_ev b hb (by omega)) (ev_pos ⟨g3, g4, by omega⟩ ?_)
    rw [refL, hv]
    by_cases hc : (takeN b).2.2 = 0 ∧ (takeN b).1 ≤ (takeN b).2.1.length
    · have h5 := gapsT_len hv2 (g1.take (takeN b).1.toNat)
      have h6 : ((takeN b).2.1.take (takeN b).1.toNat).length = min (takeN b).1.toNat (takeN b).2.1.length := List.length_take
      refine ev_pos hc (ev_bind (ref17_Take_ev v hv2 _ (g1.take _) (by omega)) ?_)
      by_cases hz : (gapsT v ((takeN b).2.1.take (takeN b).1.toNat)).2 = 0
      · have he : vertS v b = ((gapsT v ((takeN b).2.1.take (takeN b).1.toNat)).1, (takeN b).2.1.drop (takeN b).1.toNat, true) := by unfold vertS; rw [if_pos hc, if_pos hz]
        rw [he] at f1 f2 ⊢
        simp only at f1 f2
        exact ev_pos hz (ev_pos (by omega) (Ev.eq (refL_ev a h0 m _ _ f1 (by omega)) (if_pos rfl).symm))
      · have he : vertS v b = ([], [], false) := by unfold vertS; rw [if_pos hc, if_neg hz]
        rw [he]
        exact ev_neg hz (ev_val (if_neg (by decide)).symm)
    · have he : vertS v b = ([], [], false) := by unfold vertS; rw [if_neg hc]
      rw [he]
      exact ev_neg hc (ev_val (if_neg (by decide)).symm)
theorem ref_Open_ev (b : List Int) (hb : Bs b) (hl : b.length ≤ 10000) : Ev (fun k => creelref18_Open.f k b) (openS b) := by
  obtain ⟨f1, f2, f3, f4, _⟩ := allF_inv b.length b (Nat.le_refl _) hb
  have hcode := allF_code b hb
  unfold creelref18_Open.f
  refine ev_bind (ref_Only_ev b hb (by omega)) ?_
  unfold onlyF
  by_cases hw : (allF b).2 < b.length
  · rw [if_pos hw]
    refine ev_neg (hcode hw) (ev_val ?_)
    exact (openS_none (by unfold wholeS; rw [if_neg (fun h => by have := h.1; omega)])).symm
  · rw [if_neg hw]
    have hw' : (allF b).2 = b.length := by omega
    have hfl := frames_len (allF b).1
    have hfc := frames_count (allF b).1
    have hbb : Bs (allF b).1.flatten := fun y hy => by
      obtain ⟨x, hx, hy⟩ := List.mem_flatten.1 hy
      exact (f1 x hx).1 y hy
    refine ev_pos rfl (ev_pos ⟨by show (allF b).1.length ≤ _; omega, fun x hx => by have := (f1 x hx).2; omega, by show (allF b).1.flatten.length ≤ _; omega⟩ ?_)
    have hinv := fun (a : Int) (L : List (List Int)) (h : openS b = some (a, L)) => (openS_inv hb (by omega) h).2
    have hbl : (allF b).1.flatten.length ≤ 10000 := by omega
    show Ev (fun k => (creelref01_Take.f k (allF b).1.flatten).bind _) _
    generalize (allF b).1.flatten = body at *
    have g := takeN_rest hbb
    have g' := takeN_rest g.1
    refine ev_bind (ref_Take_ev body hbb (by omega)) (ev_bind (ref_Take_ev _ g.1 (by omega)) (ev_pos ⟨g.2.2.1, g.2.2.2, g'.2.2.1, g'.2.2.2, by omega⟩ ?_))
    by_cases hc : (takeN body).2.2 = 0 ∧ (takeN (takeN body).2.1).2.2 = 0 ∧ (takeN body).1 ≤ 4294967296 ∧ (takeN (takeN body).2.1).1 ≤ (takeN (takeN body).2.1).2.1.length
    · refine ev_pos hc (ev_bind (refL_ev _ g.2.2.1 _ [] _ g'.1 (by omega)) ?_)
      cases hr : refL (takeN body).1 (takeN (takeN body).2.1).1.toNat [] (takeN (takeN body).2.1).2.1 with
      | none =>
        refine ev_val ?_
        cases ho : openS b with
        | none => rfl
        | some p =>
          obtain ⟨a, L⟩ := p
          obtain ⟨⟨x, y, h1, h2, h3, h4⟩, h5, h6, _⟩ := hinv a L ho
          rw [h1] at hr
          simp only [h2, Int.toNat_natCast] at hr
          rw [refL_openL a h5 _ _ _ (by simp only [List.length_nil]; omega), show a + (([] : List (List Int)).length : Int) = a from by simp, h4] at hr
          exact absurd hr (by simp)
      | some L =>
        obtain ⟨k1, k2, k3⟩ := refL_facts _ _ _ _ L g'.1 (by omega) (fun x hx => absurd hx List.not_mem_nil) hr
        have hz : lenSum ([] : List (List Int)) = 0 := rfl
        simp only [List.length_nil, Nat.zero_add] at k1
        refine ev_bind (ref_Build_ev (takeN body).1 L k2 (by omega) ⟨by omega, by omega⟩) ?_
        by_cases hB : buildS (takeN body).1 L = (b, 0)
        · rw [hB]
          refine ev_pos ⟨rfl, rfl⟩ (ev_val ?_)
          unfold buildS at hB
          split at hB
          · exact absurd (congrArg Prod.snd hB) (by show ¬ ((1 : Int) = 0); decide)
          · rename_i hn
            split at hB
            · rename_i hri
              have hbe : fileS (bodyS (takeN body).1.toNat L) = b := congrArg Prod.fst hB
              obtain ⟨n, hn2⟩ := Int.eq_ofNat_of_zero_le g.2.2.1
              rw [hn2] at hbe hn ⊢
              rw [Int.toNat_natCast] at hbe
              rw [← hbe]
              exact (open_file k2 hri (by omega)).symm
            · exact absurd (congrArg Prod.snd hB) (by show ¬ ((1 : Int) = 0); decide)
        · refine ev_neg (fun h => hB (by
            have hbs : Bs (buildS (takeN body).1 L).1 := by
              unfold buildS
              split
              · exact Bs.nil
              · split
                · exact fileS_bs (bodyS_bs _ _)
                · exact Bs.nil
            exact Prod.ext ((sn_inj hbs hb).1 h.2) h.1)) (ev_val ?_)
          cases ho : openS b with
          | none => rfl
          | some p =>
            obtain ⟨a, L'⟩ := p
            obtain ⟨⟨x, y, h1, h2, h3, h4⟩, h5, h6, h7, h8, h9, h10, h11⟩ := hinv a L' ho
            refine absurd ?_ hB
            rw [h1] at hr ⊢
            simp only [h2, Int.toNat_natCast] at hr
            rw [refL_openL a h5 _ _ _ (by simp only [List.length_nil]; omega), show a + (([] : List (List Int)).length : Int) = a from by simp, h4] at hr
            obtain rfl : L' = L := by simpa using hr
            unfold buildS
            rw [if_neg (by omega), if_pos h8, ← h11]
    · refine ev_neg hc (ev_val ?_)
      cases ho : openS b with
      | none => rfl
      | some p =>
        obtain ⟨a, L⟩ := p
        obtain ⟨⟨x, y, h1, h2, h3, h4⟩, h5, h6, _⟩ := hinv a L ho
        refine absurd ?_ hc
        rw [h1]
        simp only [h2]
        exact ⟨trivial, trivial, by omega, by omega⟩

end Go.Proofs.Ytnkjbgoibmbmoaa.Plain
