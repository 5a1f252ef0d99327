/- What the printed functions of layer 18 (shard, and its reference) build and tell, told by the plain laws. -/
import Derived.Test.YtnkjbgoibmbmoaaSpecFrameAll
import Derived.Test.YtnkjbgoibmbmoaaSpecGaps
import Derived.Test.YtnkjbgoibmbmoaaPrint2
import Derived.Test.YtnkjbgoibmbmoaaPrint7
import Derived.Test.YtnkjbgoibmbmoaaPrint3
import Derived.Test.YtnkjbgoibmbmoaaPrint4
import Derived.Test.YtnkjbgoibmbmoaaPrint5
set_option linter.unusedVariables false
set_option linter.unusedSimpArgs false
namespace Go.Proofs.Ytnkjbgoibmbmoaa.Plain
open Go.RowKit Go.Proofs.YtnkjbgoibmbmoaaW.PrintWords Go.Proofs.YtnkjbgoibmbmoaaW.PrintLast Go.Proofs.YtnkjbgoibmbmoaaW.PrintMore Go.Proofs.Ytnkjbgoibmbmoaa.Print

def vtx (v : Int) (l : List Int) : List Int := putN (gapsP v l).1.length ++ (gapsP v l).1
def vtxs (v : Int) : List (List Int) → List Int
  | [] => []
  | l :: L => vtx v l ++ vtxs (v + 1) L
def bodyS (a : Nat) (L : List (List Int)) : List Int := putN a ++ (putN L.length ++ vtxs a L)
def pieces (b : List Int) : List (List Int) := chk 1024 (b.length + 1) b
def fileS (b : List Int) : List Int := frames (pieces b)
def buildS (a : Int) (L : List (List Int)) : List Int × Int := if a < 0 ∨ 4294967296 - (L.length : Int) < a then ([], 1) else if L.all rises = true then (fileS (bodyS a.toNat L), 0) else ([], 1)
/-- Lists of neighbours. -/
def UsL (L : List (List Int)) : Prop := ∀ x ∈ L, Us x ∧ x.length ≤ 100000
def lenSum (L : List (List Int)) : Nat := (L.map List.length).sum
theorem lenSum_cons (x : List Int) (L : List (List Int)) : lenSum (x :: L) = x.length + lenSum L := by simp [lenSum]

/-! ### Lengths -/
theorem gapB_up (l : List Int) : ∀ p, 0 ≤ p → Us l → (gapB p l).length ≤ 10 * l.length := by
  induction l with
  | nil => intro p _ _; simp [gapB]
  | cons n r ih =>
    intro p hp hu
    have h := hu.head
    have h1 := ih n h.1 hu.tail
    have h2 := putN_len10 (n := (n - p - 1).toNat) (by omega)
    simp only [gapB, List.length_append, List.length_cons]
    omega
theorem gapsP_up {v : Int} (hv : 0 ≤ v ∧ v < 4294967296) {l : List Int} (hu : Us l) (hl : l.length ≤ 1000000) : (gapsP v l).1.length ≤ 10 + 10 * l.length := by
  unfold gapsP
  split
  · have h0 := putN_len10 (n := l.length) (by omega)
    rw [List.length_append]
    cases l with
    | nil => simp only [bodyG, List.length_nil]; omega
    | cons n r =>
      obtain ⟨z, hz, hz2⟩ := zig_nat hu.head hv
      have h1 := putN_len10 (n := (zigZ (n - v)).toNat) (by omega)
      have h2 := gapB_up r n hu.head.1 hu.tail
      simp only [bodyG, List.length_append, List.length_cons] at *
      omega
  · exact Nat.zero_le _
theorem vtx_bs (v : Int) (l : List Int) : Bs (vtx v l) := (putN_bs _).append (gapsP_bs v l)
theorem vtxs_bs (L : List (List Int)) : ∀ v, Bs (vtxs v L) := by
  induction L with
  | nil => intro v; exact Bs.nil
  | cons l L ih => intro v; exact (vtx_bs v l).append (ih _)
theorem bodyS_bs (a : Nat) (L : List (List Int)) : Bs (bodyS a L) := (putN_bs _).append ((putN_bs _).append (vtxs_bs L _))
/-! ### Pieces -/
theorem chk_ok (m : Nat) (hm : 0 < m) : ∀ (f : Nat) (b : List Int), ∀ x ∈ chk m f b, 1 ≤ x.length ∧ x.length ≤ m
  | 0, _, x, h => absurd h (by unfold chk; exact List.not_mem_nil)
  | f + 1, b, x, h => by
    unfold chk at h
    split at h
    · exact absurd h List.not_mem_nil
    · rename_i h0
      rcases List.mem_cons.1 h with rfl | h
      · rw [List.length_take]; omega
      · exact chk_ok m hm f _ x h
theorem chk_count (m : Nat) : ∀ (f : Nat) (b : List Int), (chk m f b).length ≤ f
  | 0, _ => Nat.zero_le _
  | f + 1, b => by
    unfold chk
    split
    · exact Nat.zero_le _
    · have := chk_count m f (b.drop m)
      simp only [List.length_cons]
      omega
theorem chk_bs (m : Nat) : ∀ (f : Nat) (b : List Int), Bs b → ∀ x ∈ chk m f b, Bs x
  | 0, _, _, x, h => absurd h (by unfold chk; exact List.not_mem_nil)
  | f + 1, b, hb, x, h => by
    unfold chk at h
    split at h
    · exact absurd h List.not_mem_nil
    · rcases List.mem_cons.1 h with rfl | h
      · exact hb.take _
      · exact chk_bs m f _ (hb.drop _) x h
theorem chk_flatten (m : Nat) (hm : 0 < m) : ∀ (f : Nat) (b : List Int), b.length ≤ f → (chk m f b).flatten = b
  | 0, b, h => by
    unfold chk
    exact (List.eq_nil_of_length_eq_zero (by omega)).symm
  | f + 1, b, h => by
    unfold chk
    split
    · rename_i h0; exact (List.eq_nil_of_length_eq_zero h0).symm
    · rename_i h0
      rw [List.flatten_cons, chk_flatten m hm f _ (by rw [List.length_drop]; omega), List.take_append_drop]
theorem frames_len (l : List (List Int)) : (frames l).length = l.flatten.length + 8 * l.length := by
  induction l with
  | nil => rfl
  | cons x l ih => rw [frames_cons, List.length_append, frameS_len, ih, List.flatten_cons, List.length_append, List.length_cons]; omega
theorem pieces_flatten (b : List Int) : (pieces b).flatten = b := chk_flatten 1024 (by decide) _ b (by omega)
theorem pieces_ok4 {b : List Int} (hb : Bs b) : ∀ x ∈ pieces b, Ok4 x := fun x hx => ⟨chk_bs 1024 _ b hb x hx, by have := (chk_ok 1024 (by decide) _ b x hx).2; omega⟩
theorem fileS_up (b : List Int) : (fileS b).length ≤ 9 * b.length + 8 := by
  have h1 := frames_len (pieces b)
  rw [pieces_flatten] at h1
  have h2 := chk_count 1024 (b.length + 1) b
  unfold fileS pieces at *
  omega
theorem fileS_bs {b : List Int} (hb : Bs b) : Bs (fileS b) := frames_bs (pieces_ok4 hb)
theorem cut_fold : ∀ (xs : List (List Int)) (out : List Int), (∀ x ∈ xs, x.length ≤ 1024) → out.length + (frames xs).length ≤ 100000000000 → Ev (fun k => shard_cut.l k xs out) (out ++ frames xs, 0)
  | [], out, _, _ => by
    refine Ev.congr (fun k => shard_cut.l.eq_1 k out) (ev_val ?_)
    simp [frames]
  | x :: xs, out, h, hl => by
    rw [frames_cons, List.length_append] at hl
    have hx := h x (by simp)
    have hp : putF out x = (out ++ frameS x, 0) := by unfold putF; rw [if_neg (by omega)]
    refine Ev.congr (fun k => shard_cut.l.eq_2 k out x xs) ?_
    refine ev_bind (Ev.eq (Put_ev out x (by omega)) hp) (ev_pos rfl ?_)
    rw [frames_cons, ← List.append_assoc]
    exact cut_fold xs (out ++ frameS x) (fun y hy => h y (by simp [hy])) (by rw [List.length_append]; omega)
theorem cut_ev (b : List Int) (hb : b.length ≤ 1000000) : Ev (fun k => shard_cut.f k b) (fileS b, 0) := by
  unfold shard_cut.f
  have h1 := fileS_up b
  refine ev_pos hb (Ev.eq (cut_fold (pieces b) [] (fun x hx => (chk_ok 1024 (by decide) _ b x hx).2) (by have : (frames (pieces b)).length = (fileS b).length := rfl; simp only [List.length_nil]; omega)) rfl)

/-! ### Build -/
theorem rdL_drop {L : List (List Int)} {i : Nat} (h : i < L.length) : L.drop i = rd_L3 L (i : Int) :: L.drop (i + 1) := by
  rw [List.drop_eq_getElem_cons h]
  simp [rd_L3, h]
theorem rdL_mem {L : List (List Int)} {i : Nat} (h : i < L.length) : rd_L3 L (i : Int) ∈ L := by
  have : rd_L3 L (i : Int) = L[i] := by simp [rd_L3, h]
  rw [this]; exact List.getElem_mem _
theorem gapsP_code (v : Int) (l : List Int) : (gapsP v l).2 = if rises l = true then 0 else 1 := by unfold gapsP; split <;> rfl
theorem wrap_at (a i : Nat) (h : a + i < 4294967296) : wrap64 ((a : Int) + (i : Int)) % 4294967296 = ((a + i : Nat) : Int) := by rw [w64_in (by omega) (by omega)]; omega
theorem wrap_next (i : Nat) (h : i ≤ 1000000000) : wrap64 ((i : Int) + 1) = ((i + 1 : Nat) : Int) := by rw [w64_in (by omega) (by omega)]; omega
theorem Build_loop (a : Nat) (L : List (List Int)) (hL : UsL L) (ha : a + L.length ≤ 4294967296) (hl : L.length ≤ 1000000) : ∀ (d i : Nat) (out : List Int), i + d = L.length → Bs out → out.length + (20 * (L.drop i).length + 10 * lenSum (L.drop i)) ≤ 1000000 →
    Ev (fun k => shard_Build.l0 k a out L L.length i) (if (L.drop i).all rises = true then (fileS (out ++ vtxs ((a + i : Nat) : Int) (L.drop i)), 0) else ([], 1)) := by
  intro d
  induction d with
  | zero =>
    intro i out hi hb hs
    rw [List.drop_eq_nil_of_le (by omega)] at hs ⊢
    refine Ev.step (fun k => shard_Build.l0.eq_2 _ _ _ _ _ _) ?_
    refine ev_neg (by omega) ?_
    simp only [vtxs, List.append_nil, List.all_nil]
    exact ev_bind (cut_ev out (by omega)) (ev_val rfl)
  | succ d ih =>
    intro i out hi hb hs
    have hlt : i < L.length := by omega
    rw [rdL_drop hlt] at hs ⊢
    have hx := hL _ (rdL_mem hlt)
    obtain ⟨x, hxe⟩ : ∃ x, rd_L3 L (i : Int) = x := ⟨_, rfl⟩
    rw [hxe] at hs hx ⊢
    simp only [List.length_cons, lenSum_cons] at hs
    have hup := gapsP_up (v := ((a + i : Nat) : Int)) ⟨by omega, by omega⟩ hx.1 (by omega)
    have hcode := gapsP_code ((a + i : Nat) : Int) x
    have hgb := gapsP_bs ((a + i : Nat) : Int) x
    refine Ev.step (fun k => shard_Build.l0.eq_2 _ _ _ _ _ _) ?_
    rw [wrap_at a i (by omega), hxe, wrap_next i (by omega)]
    refine ev_pos (by omega) (ev_pos (by omega) (ev_pos (by omega) (ev_bind (gaps_Put_ev _ ⟨by omega, by omega⟩ x hx.1 hx.2) ?_)))
    by_cases hr : rises x = true
    · rw [if_pos hr] at hcode
      rw [hcode]
      obtain ⟨p, hp⟩ : ∃ p, (gapsP ((a + i : Nat) : Int) x).1 = p := ⟨_, rfl⟩
      rw [hp] at hup hgb ⊢
      have h10 := putN_len10 (n := p.length) (by omega)
      rw [u64_in (by omega) (by omega)]
      have h := ih (i + 1) (out ++ putN p.length ++ p) (by omega) ((hb.append (putN_bs _)).append hgb) (by simp only [List.length_append]; omega)
      refine ev_pos rfl (ev_bind (vary_Put_ev out p.length (by omega) (by omega)) (ev_pos (by rw [List.length_append]; omega) (Ev.eq h ?_)))
      simp only [List.all_cons, hr, Bool.true_and, vtxs]
      rw [show vtx ((a + i : Nat) : Int) x = putN p.length ++ p from by unfold vtx; rw [hp], show ((a + (i + 1) : Nat) : Int) = ((a + i : Nat) : Int) + 1 by omega]
      simp only [List.append_assoc]
    · rw [if_neg hr] at hcode
      rw [hcode]
      refine ev_neg (by decide) (ev_val ?_)
      simp [hr]
theorem Build_ev (a : Int) (L : List (List Int)) (hL : UsL L) (h : 20 * L.length + 10 * lenSum L ≤ 900000) (h0 : -9223372036854775808 ≤ a ∧ a < 9223372036854775808) : Ev (fun k => shard_Build.f k a L) (buildS a L) := by
  have hll : L.length ≤ 1000000 := by omega
  unfold shard_Build.f buildS
  by_cases hn : a < 0
  · refine ev_pos hn ?_
    rw [if_pos (.inl hn)]
    refine Ev.step (fun k => shard_Build.j0.eq_2 _ _ _ _) ?_
    exact ev_pos rfl (ev_val rfl)
  · refine ev_neg hn ?_
    obtain ⟨n, rfl⟩ := Int.eq_ofNat_of_zero_le (Int.not_lt.1 hn)
    rw [w64_in (by omega) (by omega)]
    refine Ev.step (fun k => shard_Build.j0.eq_2 _ _ _ _) ?_
    by_cases hb : 4294967296 - (L.length : Int) < (n : Int)
    · rw [if_pos (.inr hb)]
      exact ev_pos (decide_eq_true hb) (ev_val rfl)
    · rw [if_neg (fun h => h.elim hn hb)]
      have h1 := putN_len10 (n := n) (by omega)
      have h2 := putN_len10 (n := L.length) (by omega)
      rw [u64_in (by omega) (by omega), u64_in (n := (L.length : Int)) (by omega) (by omega)]
      refine ev_neg (by rw [decide_eq_true_eq]; exact hb) (ev_bind (vary_Put_ev [] n (by omega) (by simp)) ?_)
      rw [List.nil_append]
      refine ev_bind (vary_Put_ev (putN n) L.length (by omega) (by omega)) ?_
      have h := Build_loop n L hL (by omega) hll L.length 0 (putN n ++ putN L.length) (by omega) ((putN_bs _).append (putN_bs _)) (by rw [List.drop_zero, List.length_append]; omega)
      rw [List.drop_zero] at h
      refine Ev.eq h ?_
      unfold bodyS
      rw [List.append_assoc]
      rfl

/-! ### The reference's -/
theorem ref_cut (b : List Int) (hb : Bs b) (hl : b.length ≤ 1000000) : ∀ (f i : Nat) (out : List Int), b.length ≤ i + f → i ≤ 1000000 + 1024 → out.length ≤ 2 * i →
    Ev (fun k => creelref18_Build.l1 k b out i) (out ++ frames (chk 1024 (f + 1) (b.drop i)), 0) := by
  intro f
  induction f using Nat.strongRecOn with
  | _ f ih =>
    intro i out hi hi2 ho
    refine Ev.step (fun k => creelref18_Build.l1.eq_2 _ _ _ _) ?_
    by_cases hlt : i < b.length
    · have hw : wrap64 ((i : Int) + 1024) = ((i + 1024 : Nat) : Int) := by rw [w64_in (by omega) (by omega)]; omega
      obtain ⟨e, he⟩ : ∃ e, min (i + 1024) b.length = e := ⟨_, rfl⟩
      have hmn : mn ((i + 1024 : Nat) : Int) (b.length : Int) = (e : Int) := by unfold mn; split <;> omega
      rw [hw, hmn]
      refine ev_pos (by omega) (ev_pos (by omega) (ev_pos (by omega) (ev_pos (by omega) ?_)))
      simp only [Int.toNat_natCast]
      have hq : (b.take e).drop i = (b.drop i).take 1024 := by rw [List.drop_take, List.take_eq_take_iff, List.length_drop]; omega
      rw [hq]
      have hxl : ((b.drop i).take 1024).length = min 1024 (b.length - i) := by rw [List.length_take, List.length_drop]
      have hp : putF out ((b.drop i).take 1024) = (out ++ frameS ((b.drop i).take 1024), 0) := by unfold putF; rw [if_neg (by omega)]
      refine ev_bind (Ev.eq (ref_Put_ev out _ (by omega) ((hb.drop _).take _)) hp) ?_
      have hfl := frameS_len ((b.drop i).take 1024)
      obtain ⟨g, rfl⟩ : ∃ g, f = g + 1 := ⟨f - 1, by omega⟩
      have hc : chk 1024 (g + 1 + 1) (b.drop i) = (b.drop i).take 1024 :: chk 1024 (g + 1) (b.drop (i + 1024)) := by
        rw [chk, if_neg (by rw [List.length_drop]; omega), List.drop_drop]
      rw [hc, frames_cons, ← List.append_assoc]
      exact ih g (by omega) (i + 1024) (out ++ frameS ((b.drop i).take 1024)) (by omega) (by omega) (by rw [List.length_append]; omega)
    · refine ev_neg (by omega) (ev_val ?_)
      rw [chk, if_pos (by rw [List.length_drop]; omega)]
      simp [frames]
theorem ref_Build_loop (a : Nat) (L : List (List Int)) (hL : UsL L) (ha : a + L.length ≤ 4294967296) (hl : L.length ≤ 1000000) : ∀ (d i : Nat) (out : List Int), i + d = L.length → Bs out → out.length + (20 * (L.drop i).length + 10 * lenSum (L.drop i)) ≤ 1000000 →
    Ev (fun k => creelref18_Build.l0 k a L out i) (if (L.drop i).all rises = true then (fileS (out ++ vtxs ((a + i : Nat) : Int) (L.drop i)), 0) else ([], 1)) := by
  intro d
  induction d with
  | zero =>
    intro i out hi hb hs
    rw [List.drop_eq_nil_of_le (by omega)] at hs ⊢
    refine Ev.step (fun k => creelref18_Build.l0.eq_2 _ _ _ _ _) ?_
    refine ev_neg (by omega) ?_
    simp only [vtxs, List.append_nil, List.all_nil]
    have h := ref_cut out hb (by omega) out.length 0 [] (by omega) (by omega) (by simp)
    rw [List.drop_zero] at h
    exact h
  | succ d ih =>
    intro i out hi hb hs
    have hlt : i < L.length := by omega
    rw [rdL_drop hlt] at hs ⊢
    have hx := hL _ (rdL_mem hlt)
    obtain ⟨x, hxe⟩ : ∃ x, rd_L3 L (i : Int) = x := ⟨_, rfl⟩
    rw [hxe] at hs hx ⊢
    simp only [List.length_cons, lenSum_cons] at hs
    have hup := gapsP_up (v := ((a + i : Nat) : Int)) ⟨by omega, by omega⟩ hx.1 (by omega)
    have hcode := gapsP_code ((a + i : Nat) : Int) x
    have hgb := gapsP_bs ((a + i : Nat) : Int) x
    refine Ev.step (fun k => creelref18_Build.l0.eq_2 _ _ _ _ _) ?_
    rw [wrap_at a i (by omega), hxe, wrap_next i (by omega)]
    refine ev_pos (by omega) (ev_pos (by omega) (ev_bind (ref17_Put_ev _ ⟨by omega, by omega⟩ x hx.1 hx.2) ?_))
    by_cases hr : rises x = true
    · rw [if_pos hr] at hcode
      rw [hcode]
      obtain ⟨p, hp⟩ : ∃ p, (gapsP ((a + i : Nat) : Int) x).1 = p := ⟨_, rfl⟩
      rw [hp] at hup hgb ⊢
      have h10 := putN_len10 (n := p.length) (by omega)
      rw [u64_in (by omega) (by omega)]
      have h := ih (i + 1) (out ++ putN p.length ++ p) (by omega) ((hb.append (putN_bs _)).append hgb) (by simp only [List.length_append]; omega)
      refine ev_pos rfl (ev_bind (ref_Put1_ev out p.length (by omega) (by omega)) (ev_pos (by rw [List.length_append]; omega) (Ev.eq h ?_)))
      simp only [List.all_cons, hr, Bool.true_and, vtxs]
      rw [show vtx ((a + i : Nat) : Int) x = putN p.length ++ p from by unfold vtx; rw [hp], show ((a + (i + 1) : Nat) : Int) = ((a + i : Nat) : Int) + 1 by omega]
      simp only [List.append_assoc]
    · rw [if_neg hr] at hcode
      rw [hcode]
      refine ev_neg (by decide) (ev_val ?_)
      simp [hr]
theorem ref_Build_ev (a : Int) (L : List (List Int)) (hL : UsL L) (h : 20 * L.length + 10 * lenSum L ≤ 900000) (h0 : -9223372036854775808 ≤ a ∧ a < 9223372036854775808) : Ev (fun k => creelref18_Build.f k a L) (buildS a L) := by
  have hll : L.length ≤ 1000000 := by omega
  unfold creelref18_Build.f buildS
  by_cases hn : a < 0
  · refine ev_pos hn ?_
    rw [if_pos (.inl hn)]
    refine Ev.step (fun k => creelref18_Build.j0.eq_2 _ _ _ _) ?_
    exact ev_pos rfl (ev_val rfl)
  · refine ev_neg hn ?_
    obtain ⟨n, rfl⟩ := Int.eq_ofNat_of_zero_le (Int.not_lt.1 hn)
    rw [w64_in (by omega) (by omega)]
    refine Ev.step (fun k => creelref18_Build.j0.eq_2 _ _ _ _) ?_
    by_cases hb : 4294967296 - (L.length : Int) < (n : Int)
    · rw [if_pos (.inr hb)]
      exact ev_pos (decide_eq_true hb) (ev_val rfl)
    · rw [if_neg (fun h => h.elim hn hb)]
      have h1 := putN_len10 (n := n) (by omega)
      have h2 := putN_len10 (n := L.length) (by omega)
      rw [u64_in (by omega) (by omega), u64_in (n := (L.length : Int)) (by omega) (by omega)]
      refine ev_neg (by rw [decide_eq_true_eq]; exact hb) (ev_bind (ref_Put1_ev [] n (by omega) (by simp)) ?_)
      rw [List.nil_append]
      refine ev_bind (ref_Put1_ev (putN n) L.length (by omega) (by omega)) ?_
      have h := ref_Build_loop n L hL (by omega) hll L.length 0 (putN n ++ putN L.length) (by omega) ((putN_bs _).append (putN_bs _)) (by rw [List.drop_zero, List.length_append]; omega)
      rw [List.drop_zero] at h
      refine Ev.eq h ?_
      unfold bodyS
      rw [List.append_assoc]
      rfl

/-! ## What a file tells -/
/-- Pieces as they must be: all but the last one are full, none is empty. -/
def okP : List (List Int) → Bool
  | [] => true
  | x :: r => decide (1 ≤ x.length ∧ x.length ≤ 1024 ∧ (r = [] ∨ x.length = 1024)) && okP r
def wholeS (b : List Int) : List Int × Bool := if (allF b).2 = b.length ∧ okP (allF b).1 = true then ((allF b).1.flatten, true) else ([], false)
theorem allF_code (b : List Int) (hb : Bs b) (h : (allF b).2 < b.length) : (takeF (b.drop (allF b).2)).2.2 ≠ 0 := by
  obtain ⟨_, _, _, _, h5⟩ := allF_inv b.length b (Nat.le_refl _) hb
  exact h5
theorem Only_ev (b : List Int) (hb : Bs b) (hl : b.length ≤ 1000000) : Ev (fun k => frame_Only.f k b) (if (allF b).2 = b.length then ((allF b).1, 0) else ([], (takeF (b.drop (allF b).2)).2.2)) := by
  obtain ⟨_, _, _, h4, h5⟩ := allF_inv b.length b (Nat.le_refl _) hb
  unfold frame_Only.f
  refine ev_bind (All_ev b hb hl) ?_
  by_cases he : (allF b).2 = b.length
  · rw [if_pos he]
    exact ev_neg (by omega) (ev_val rfl)
  · rw [if_neg he]
    refine ev_pos (by omega) (ev_pos (by omega) (ev_pos (by omega) ?_))
    simp only [Int.toNat_natCast]
    exact ev_bind (take_ev _ (by rw [List.length_drop]; omega) (hb.drop _)) (ev_val rfl)
theorem flat_len (l : List (List Int)) (h : ∀ x ∈ l, x.length ≤ 5000) : l.flatten.length ≤ 5000 * l.length := by
  induction l with
  | nil => simp
  | cons x l ih =>
    have h1 := ih (fun y hy => h y (by simp [hy]))
    have h2 := h x (by simp)
    rw [List.flatten_cons, List.length_append, List.length_cons]
    omega
theorem rdL2_drop {L : List (List Int)} {i : Nat} (h : i < L.length) : L.drop i = rd_L2 L (i : Int) :: L.drop (i + 1) := by
  rw [List.drop_eq_getElem_cons h]
  simp [rd_L2, h]
theorem whole_loop (l : List (List Int)) (hl : l.length ≤ 1000000) (hx : ∀ x ∈ l, x.length ≤ 5000) : ∀ (d i : Nat), i + d = l.length → Ev (fun k => shard_whole.l0 k l l l.length i) (if okP (l.drop i) = true then (l.flatten, true) else ([], false)) := by
  intro d
  induction d with
  | zero =>
    intro i hi
    rw [List.drop_eq_nil_of_le (by omega)]
    have hf := flat_len l hx
    refine Ev.step (fun k => shard_whole.l0.eq_2 _ _ _ _ _) ?_
    refine ev_neg (by omega) ?_
    have hc : slices_Concat_byte_byte.f l = some l.flatten := by
      unfold slices_Concat_byte_byte.f
      have ht : l.take l.length = l := List.take_of_length_le (Nat.le_refl _)
      rw [if_pos ⟨by unfold catLen; first | omega | (rw [ht]; omega), by first | omega | (unfold catLen; first | omega | (rw [ht]; omega))⟩]
    exact ev_got hc (ev_val rfl)
  | succ d ih =>
    intro i hi
    have hlt : i < l.length := by omega
    have hn : (i : Int) < ((l.length : Int) - 1) ↔ l.drop (i + 1) ≠ [] := by
      rw [Ne, List.drop_eq_nil_iff]; omega
    rw [rdL2_drop hlt]
    obtain ⟨x, hxe⟩ : ∃ x, rd_L2 l (i : Int) = x := ⟨_, rfl⟩
    rw [hxe]
    have h := ih (i + 1) (by omega)
    refine Ev.step (fun k => shard_whole.l0.eq_2 _ _ _ _ _) ?_
    rw [hxe, wrap_next i (by omega), w64_in (n := (l.length : Int) - 1) (by omega) (by omega)]
    refine ev_pos (by omega) (ev_pos (by omega) (ev_pos (by omega) ?_))
    unfold okP
    by_cases hlast : l.drop (i + 1) = []
    · refine ev_neg (fun h_ => hn.1 h_ hlast) ?_
      by_cases h1 : x.length < 1
      · exact ev_pos (by omega) (ev_val (by rw [if_neg]; simp; omega))
      · by_cases h2 : 1024 < x.length
        · exact ev_neg (by omega) (ev_pos (by omega) (ev_val (by rw [if_neg]; simp; omega)))
        · refine ev_neg (by omega) (ev_neg (by omega) (Ev.eq h ?_))
          rw [decide_eq_true (by exact ⟨by omega, by omega, .inl hlast⟩), Bool.true_and]
    · refine ev_pos (hn.2 hlast) ?_
      by_cases h1 : x.length = 1024
      · refine ev_pos (by omega) (ev_neg (by omega) (ev_neg (by omega) (Ev.eq h ?_)))
        rw [decide_eq_true (by exact ⟨by omega, by omega, .inr h1⟩), Bool.true_and]
      · refine ev_neg (by omega) (ev_val ?_)
        rw [if_neg]
        simp [hlast, h1]
theorem whole_ev (b : List Int) (hb : Bs b) (hl : b.length ≤ 1000000) : Ev (fun k => shard_whole.f k b) (wholeS b) := by
  obtain ⟨h1, _, h3, h4, _⟩ := allF_inv b.length b (Nat.le_refl _) hb
  have hc := frames_count (allF b).1
  unfold shard_whole.f wholeS
  refine ev_bind (Only_ev b hb hl) ?_
  by_cases he : (allF b).2 = b.length
  · rw [if_pos he]
    have h := whole_loop (allF b).1 (by omega) (fun x hx => by have := (h1 x hx).2; omega) (allF b).1.length 0 (by omega)
    rw [List.drop_zero] at h
    refine ev_pos rfl (Ev.eq h ?_)
    by_cases ho : okP (allF b).1 = true
    · rw [if_pos ho, if_pos ⟨he, ho⟩]
    · rw [if_neg ho, if_neg (fun h => ho h.2)]
  · rw [if_neg he]
    refine ev_neg (allF_code b hb (by omega)) (ev_val ?_)
    rw [if_neg (fun h => he h.1)]

/-! ### A vertex -/
def vertS (v : Int) (b : List Int) : List Int × List Int × Bool :=
  if (takeN b).2.2 = 0 ∧ (takeN b).1 ≤ (takeN b).2.1.length then
    (if (gapsT v ((takeN b).2.1.take (takeN b).1.toNat)).2 = 0 then ((gapsT v ((takeN b).2.1.take (takeN b).1.toNat)).1, (takeN b).2.1.drop (takeN b).1.toNat, true) else ([], [], false))
  else ([], [], false)
theorem takeN_rest {b : List Int} (hb : Bs b) : Bs (takeN b).2.1 ∧ (takeN b).2.1.length ≤ b.length ∧ 0 ≤ (takeN b).1 ∧ (takeN b).1 < 18446744073709551616 := by
  rcases takeN_only hb with ⟨m, r, hm, he, ht⟩ | ht | ht
  · rw [ht]
    have h2 := hb
    rw [he] at h2
    refine ⟨h2.of_append_right, ?_, ?_, ?_⟩
    · rw [he, List.length_append]; exact Nat.le_add_left _ _
    · exact Int.natCast_nonneg _
    · show (m : Int) < _; omega
  · rw [ht]; exact ⟨Bs.nil, Nat.zero_le _, Int.le_refl _, by show (0 : Int) < _; decide⟩
  · rw [ht]; exact ⟨Bs.nil, Nat.zero_le _, Int.le_refl _, by show (0 : Int) < _; decide⟩
theorem gapsT_len {v : Int} (hv : 0 ≤ v ∧ v < 4294967296) {b : List Int} (hb : Bs b) : (gapsT v b).1.length ≤ b.length ∧ Us (gapsT v b).1 := by
  rcases gapsT_only hv.1 hv.2 hb with ⟨l, hu, _, hl, he, _⟩ | he
  · rw [he]; exact ⟨hl, hu⟩
  · rw [he]; exact ⟨Nat.zero_le _, Us.nil⟩
theorem vertS_facts {v : Int} (hv : 0 ≤ v ∧ v < 4294967296) {b : List Int} (hb : Bs b) : Bs (vertS v b).2.1 ∧ (vertS v b).1.length + (vertS v b).2.1.length ≤ b.length ∧ Us (vertS v b).1 := by
  obtain ⟨h1, h2, h3, h4⟩ := takeN_rest hb
  unfold vertS
  split
  · rename_i hc
    split
    · have h5 := gapsT_len hv (h1.take (takeN b).1.toNat)
      have h6 : ((takeN b).2.1.take (takeN b).1.toNat).length = min (takeN b).1.toNat (takeN b).2.1.length := List.length_take
      have h7 : ((takeN b).2.1.drop (takeN b).1.toNat).length = (takeN b).2.1.length - (takeN b).1.toNat := List.length_drop
      refine ⟨h1.drop _, ?_, h5.2⟩
      show (gapsT v ((takeN b).2.1.take (takeN b).1.toNat)).1.length + ((takeN b).2.1.drop (takeN b).1.toNat).length ≤ _
      omega
    · exact ⟨Bs.nil, Nat.zero_le _, Us.nil⟩
  · exact ⟨Bs.nil, Nat.zero_le _, Us.nil⟩
theorem vertex_ev (a : Int) (n : Nat) (h0 : 0 ≤ a) (h1 : a + n < 4294967296) (b : List Int) (hb : Bs b) (hl : b.length ≤ 1000000) : Ev (fun k => shard_Shard_vertex.f k a n b) (vertS (a + n) b) := by
  obtain ⟨g1, g2, g3, g4⟩ := takeN_rest hb
  unfold shard_Shard_vertex.f vertS
  refine ev_bind (vary_Take_ev b hb (by omega)) (ev_pos ⟨g3, g4, by omega⟩ ?_)
  by_cases hc : (takeN b).2.2 = 0 ∧ (takeN b).1 ≤ (takeN b).2.1.length
  · rw [if_pos hc]
    have hm : (a + (n : Int)) % 4294967296 = a + n := by omega
    have h5 := gapsT_len (v := a + n) ⟨by omega, by omega⟩ (g1.take (takeN b).1.toNat)
    have h6 : ((takeN b).2.1.take (takeN b).1.toNat).length = min (takeN b).1.toNat (takeN b).2.1.length := List.length_take
    rw [hm]
    refine ev_pos hc (ev_bind (gaps_Take_ev (a + n) ⟨by omega, by omega⟩ _ (g1.take _) (by omega)) ?_)
    by_cases hz : (gapsT (a + n) ((takeN b).2.1.take (takeN b).1.toNat)).2 = 0
    · exact Ev.eq (ev_pos hz (ev_pos (by omega) (ev_val rfl))) (if_pos hz).symm
    · exact Ev.eq (ev_neg hz (ev_val rfl)) (if_neg hz).symm
  · rw [if_neg hc]
    exact ev_neg hc (ev_val rfl)

/-! ### Open -/
def openL (v : Int) : Nat → List Int → Option (List (List Int) × List Int)
  | 0, b => some ([], b)
  | m + 1, b => if (vertS v b).2.2 = true then (openL (v + 1) m (vertS v b).2.1).map (fun p => ((vertS v b).1 :: p.1, p.2)) else none
def openB (b : List Int) : Option (Int × List (List Int)) :=
  if (takeN b).2.2 = 0 ∧ (takeN (takeN b).2.1).2.2 = 0 ∧ (takeN (takeN b).2.1).1 ≤ (takeN (takeN b).2.1).2.1.length ∧ (takeN b).1 ≤ 4294967296 ∧ (takeN b).1 + (takeN (takeN b).2.1).1 ≤ 4294967296 then
    (match openL (takeN b).1 (takeN (takeN b).2.1).1.toNat (takeN (takeN b).2.1).2.1 with
      | none => none
      | some p => if p.2.length = 0 then some ((takeN b).1, p.1) else none)
  else none
def openS (b : List Int) : Option (Int × List (List Int)) := if (wholeS b).2 = true then openB (wholeS b).1 else none
theorem Open_loop (a : Int) (h0 : 0 ≤ a) : ∀ (m : Nat) (acc : List (List Int)) (b : List Int), a + acc.length + m ≤ 4294967296 → Bs b → b.length ≤ 1000000 → sumLen acc + b.length ≤ 10000000 →
    Ev (fun k => shard_Open.l k a m acc b) ((openL (a + acc.length) m b).map fun p => (acc ++ p.1, p.2))
  | 0, acc, b, _, _, _, _ => by
    refine Ev.congr (fun k => shard_Open.l.eq_1 k a acc b) (ev_val ?_)
    simp [openL]
  | m + 1, acc, b, h1, hb, hl, hs => by
    obtain ⟨g1, g2, g3⟩ := vertS_facts (v := a + acc.length) ⟨by omega, by omega⟩ hb
    refine Ev.congr (fun k => shard_Open.l.eq_2 k a acc b m) ?_
    refine ev_pos (by omega) (ev_bind (vertex_ev a acc.length h0 (by omega) b hb hl) ?_)
    rw [openL]
    by_cases hok : (vertS (a + acc.length) b).2.2 = true
    · rw [if_pos hok]
      refine ev_pos hok ?_
      have h := Open_loop a h0 m (acc ++ [(vertS (a + acc.length) b).1]) (vertS (a + acc.length) b).2.1 (by rw [List.length_append]; simp only [List.length_cons, List.length_nil]; omega) g1 (by omega) (by rw [sumLen_snoc]; omega)
      refine Ev.eq h ?_
      rw [List.length_append, show (a + ((acc.length + [(vertS (a + ↑acc.length) b).1].length : Nat) : Int)) = a + acc.length + 1 from by simp only [List.length_cons, List.length_nil]; omega]
      cases openL (a + acc.length + 1) m (vertS (a + acc.length) b).2.1 with
      | none => rfl
      | some p => simp
    · rw [if_neg hok]
      exact ev_neg hok (ev_val rfl)
theorem Open_ev (b : List Int) (hb : Bs b) (hl : b.length ≤ 1000000) : Ev (fun k => shard_Open.f k b) (openS b) := by
  have hw : Bs (wholeS b).1 ∧ (wholeS b).1.length ≤ b.length := by
    obtain ⟨h1, h2, h3, h4, _⟩ := allF_inv b.length b (Nat.le_refl _) hb
    unfold wholeS
    split
    · refine ⟨fun y hy => ?_, ?_⟩
      · obtain ⟨x, hx, hy⟩ := List.mem_flatten.1 hy
        exact (h1 x hx).1 y hy
      · have := frames_len (allF b).1
        show (allF b).1.flatten.length ≤ _
        omega
    · exact ⟨Bs.nil, Nat.zero_le _⟩
  unfold shard_Open.f openS
  refine ev_bind (whole_ev b hb hl) ?_
  by_cases ho : (wholeS b).2 = true
  · rw [if_pos ho]
    refine ev_pos ho ?_
    generalize (wholeS b).1 = x at *
    obtain ⟨hx, hxl⟩ := hw
    obtain ⟨g1, g2, g3, g4⟩ := takeN_rest hx
    unfold openB
    refine ev_bind (vary_Take_ev x hx (by omega)) (ev_pos ⟨g3, g4⟩ ?_)
    by_cases ht : (takeN x).2.2 = 0
    · refine ev_pos ht ?_
      obtain ⟨f1, f2, f3, f4⟩ := takeN_rest g1
      refine ev_bind (vary_Take_ev _ g1 (by omega)) (ev_pos ⟨f3, f4, by omega⟩ ?_)
      by_cases hc : (takeN (takeN x).2.1).2.2 = 0 ∧ (takeN (takeN x).2.1).1 ≤ (takeN (takeN x).2.1).2.1.length ∧ (takeN x).1 ≤ 4294967296 ∧ (takeN x).1 + (takeN (takeN x).2.1).1 ≤ 4294967296
      · rw [if_pos ⟨ht, hc⟩]
        have h := Open_loop (takeN x).1 g3 (takeN (takeN x).2.1).1.toNat [] (takeN (takeN x).2.1).2.1 (by simp only [List.length_nil]; omega) f1 (by omega) (by show 0 + _ ≤ _; omega)
        rw [show (takeN x).1 + (([] : List (List Int)).length : Int) = (takeN x).1 from by simp] at h
        refine ev_pos hc (ev_bind h ?_)
        cases openL (takeN x).1 (takeN (takeN x).2.1).1.toNat (takeN (takeN x).2.1).2.1 with
        | none => exact ev_val rfl
        | some p =>
          by_cases hz : p.2.length = 0
          · exact all_ev fun k => by simp [hz]
          · exact all_ev fun k => by simp [hz]
      · rw [if_neg (fun h => hc h.2)]
        exact ev_neg hc (ev_val rfl)
    · rw [if_neg (fun h => ht h.1)]
      exact ev_neg ht (ev_val rfl)
  · rw [if_neg ho]
    exact ev_neg ho (ev_val rfl)

/-! ## What was built is told -/
theorem chk_nil (m f : Nat) : chk m f [] = [] := by
  cases f with
  | zero => rfl
  | succ f => unfold chk; exact if_pos rfl
theorem okP_chk : ∀ (f : Nat) (b : List Int), okP (chk 1024 f b) = true
  | 0, b => rfl
  | f + 1, b => by
    unfold chk
    split
    · rfl
    · rename_i h0
      have h1 : (b.take 1024).length = min 1024 b.length := List.length_take
      unfold okP
      rw [okP_chk f _, Bool.and_true]
      refine decide_eq_true ⟨by omega, by omega, ?_⟩
      by_cases h : b.length ≤ 1024
      · exact .inl (by rw [List.drop_eq_nil_of_le h, chk_nil])
      · exact .inr (by omega)
theorem allF_frames {l : List (List Int)} (h : ∀ x ∈ l, Ok4 x) : allF (frames l) = (l, (frames l).length) := by
  have h1 := allF_put l h [] Bs.nil
  rw [List.append_nil, show allF [] = ([], 0) from rfl, List.append_nil] at h1
  exact h1
theorem whole_file {b : List Int} (hb : Bs b) : wholeS (fileS b) = (b, true) := by
  unfold wholeS fileS
  rw [allF_frames (pieces_ok4 hb)]
  rw [if_pos ⟨rfl, okP_chk _ _⟩, pieces_flatten]
theorem vertS_put {v : Int} (hv : 0 ≤ v ∧ v < 4294967296) {l : List Int} (hu : Us l) (hl : l.length ≤ 100000) (hr : rises l = true) (r : List Int) : vertS v (vtx v l ++ r) = (l, r, true) := by
  have h1 := gapsP_up hv hu (by omega)
  have ht : takeN (vtx v l ++ r) = (((gapsP v l).1.length : Int), (gapsP v l).1 ++ r, 0) := by
    unfold vtx
    rw [List.append_assoc]
    exact takeN_put (by omega) _
  have hg := gapsT_put v l hv.1 hv.2 hu hr (by omega)
  unfold vertS
  rw [ht]
  simp only [Int.toNat_natCast, List.take_left, List.drop_left, hg]
  rw [if_pos ⟨trivial, by rw [List.length_append]; omega⟩, if_pos trivial]
theorem openL_put : ∀ (L : List (List Int)) (v : Int) (r : List Int), UsL L → L.all rises = true → 0 ≤ v → v + L.length ≤ 4294967296 → openL v L.length (vtxs v L ++ r) = some (L, r)
  | [], v, r, _, _, _, _ => rfl
  | l :: L, v, r, hL, hr, h0, h1 => by
    simp only [List.length_cons] at h1
    simp only [List.all_cons, Bool.and_eq_true] at hr
    have hv := vertS_put (v := v) ⟨h0, by omega⟩ (hL l (by simp)).1 (hL l (by simp)).2 hr.1 (vtxs (v + 1) L ++ r)
    have ih := openL_put L (v + 1) r (fun x hx => hL x (by simp [hx])) hr.2 (by omega) (by omega)
    show openL v (L.length + 1) (vtx v l ++ vtxs (v + 1) L ++ r) = _
    rw [List.append_assoc, openL, hv]
    simp only [if_true]
    rw [ih]; rfl
theorem vtxs_many (L : List (List Int)) : ∀ v, L.length ≤ (vtxs v L).length := by
  induction L with
  | nil => intro v; exact Nat.zero_le _
  | cons l L ih =>
    intro v
    have h1 := ih (v + 1)
    have h2 := putN_ne (gapsP v l).1.length
    simp only [vtxs, vtx, List.length_append, List.length_cons]
    omega
theorem open_body {a : Nat} {L : List (List Int)} (hL : UsL L) (hr : L.all rises = true) (h : a + L.length ≤ 4294967296) : openB (bodyS a L) = some ((a : Int), L) := by
  have h1 : takeN (bodyS a L) = ((a : Int), putN L.length ++ vtxs a L, 0) := takeN_put (by omega) _
  have h2 : takeN (putN L.length ++ vtxs a L) = ((L.length : Int), vtxs a L, 0) := takeN_put (by omega) _
  have h3 := openL_put L a [] hL hr (by omega) (by omega)
  rw [List.append_nil] at h3
  have h4 := vtxs_many L a
  unfold openB
  rw [h1]
  simp only [h2, Int.toNat_natCast, h3]
  rw [if_pos ⟨trivial, trivial, by omega, by omega, by omega⟩]
  rfl
theorem open_file {a : Nat} {L : List (List Int)} (hL : UsL L) (hr : L.all rises = true) (h : a + L.length ≤ 4294967296) : openS (fileS (bodyS a L)) = some ((a : Int), L) := by
  unfold openS
  rw [whole_file (bodyS_bs a L), if_pos rfl]
  exact open_body hL hr h
theorem build_ok {a : Nat} {L : List (List Int)} (hr : L.all rises = true) (h : a + L.length ≤ 4294967296) : buildS a L = (fileS (bodyS a L), 0) := by
  unfold buildS
  rw [if_neg (by omega), if_pos hr, Int.toNat_natCast]

/-! ## The document's examples -/
theorem shown18_ev : Ev (fun k => creellaw18_shown.f k) true := by
  have hu : UsL [[]] := fun x hx => by
    obtain rfl := List.mem_singleton.1 hx
    exact ⟨Us.nil, Nat.zero_le _⟩
  have hb : buildS 5 [[]] = (fileS (bodyS 5 [[]]), 0) := build_ok (a := 5) rfl (by decide)
  have he : bodyS 5 [[]] = [5, 1, 1, 0] := by decide +kernel
  have hf : fileS [5, 1, 1, 0] = frameS [5, 1, 1, 0] := by
    unfold fileS
    rw [show pieces [5, 1, 1, 0] = [[5, 1, 1, 0]] from by decide +kernel]
    exact List.append_nil _
  have hs : openS (fileS (bodyS 5 [[]])) = some (5, [[]]) := open_file (a := 5) hu rfl (by decide)
  unfold creellaw18_shown.f
  refine ev_bind (Build_ev 5 [[]] hu (by decide) (by decide)) ?_
  rw [hb]
  have hbs : Bs (fileS (bodyS 5 [[]])) := fileS_bs (bodyS_bs _ _)
  refine ev_bind (Open_ev _ hbs (by rw [he, hf, frameS_len]; decide)) ?_
  rw [hs]
  refine ev_pos ⟨rfl, ?_, ?_, rfl⟩ (ev_val rfl)
  · show (fileS (bodyS 5 [[]])).length = 12
    rw [he, hf, frameS_len]; rfl
  · show ((fileS (bodyS 5 [[]])).drop 4).take 4 = [5, 1, 1, 0]
    rw [he, hf]
    unfold frameS sealS
    rw [show fixN 4 ([5, 1, 1, 0] : List Int).length = [0, 0, 0, 4] from by decide +kernel]
    rfl

end Go.Proofs.Ytnkjbgoibmbmoaa.Plain
