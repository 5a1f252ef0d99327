/- What the printed functions of layer 17 (gaps, and its reference) compute, told by the plain laws. -/
import Derived.Test.YtnkjbgoibmbmoaaSpecVT
import Derived.Test.YtnkjbgoibmbmoaaPrint1
import Derived.Test.YtnkjbgoibmbmoaaPrint6
import Derived.Test.YtnkjbgoibmbmoaaPrint4
import Derived.Test.YtnkjbgoibmbmoaaPrint10
import Derived.Test.YtnkjbgoibmbmoaaPrint5
set_option linter.unusedVariables false
set_option linter.unusedSimpArgs false
namespace Go.Proofs.Ytnkjbgoibmbmoaa.Plain
open Go.RowKit Go.Proofs.YtnkjbgoibmbmoaaW.PrintWords Go.Proofs.YtnkjbgoibmbmoaaW.PrintLast Go.Proofs.YtnkjbgoibmbmoaaW.PrintMore Go.Proofs.Ytnkjbgoibmbmoaa.Print

theorem rd_us {l : List Int} (hb : Us l) {i : Nat} (h : i < l.length) : 0 ≤ rd l (i : Int) ∧ rd l (i : Int) < 4294967296 := by
  refine hb _ ?_
  simp [rd, List.getD_eq_getElem?_getD, List.getElem?_eq_getElem h]
theorem rd_getD (l : List Int) (i : Nat) : rd l (i : Int) = l.getD i 0 := rfl
/-! ### Put -/
/-- Behind the i-th one. -/
def gapRest (l : List Int) (i : Nat) (out : List Int) : List Int × Int := if risesB (l.getD (i - 1) 0) (l.drop i) = true then (out ++ gapB (l.getD (i - 1) 0) (l.drop i), 0) else ([], 1)
theorem gapRest_end (l : List Int) (out : List Int) : gapRest l l.length out = (out, 0) := by
  unfold gapRest
  rw [List.drop_length]
  simp [risesB, gapB]
theorem gapRest_no {l : List Int} {i : Nat} (h0 : 0 < i) (h : i < l.length) (hc : l.getD i 0 ≤ l.getD (i - 1) 0) (out : List Int) : gapRest l i out = ([], 1) := by
  have e : risesB (l.getD (i - 1) 0) (l.drop i) = false := by
    rw [rd_drop h, rd_getD]
    simp only [risesB]
    rw [decide_eq_false (by omega)]; rfl
  unfold gapRest
  rw [if_neg (by rw [e]; decide)]
theorem gapRest_yes {l : List Int} {i : Nat} (h0 : 0 < i) (h : i < l.length) (hc : ¬ l.getD i 0 ≤ l.getD (i - 1) 0) (out : List Int) : gapRest l i out = gapRest l (i + 1) (out ++ putN (l.getD i 0 - l.getD (i - 1) 0 - 1).toNat) := by
  have e : risesB (l.getD (i - 1) 0) (l.drop i) = risesB (l.getD i 0) (l.drop (i + 1)) := by
    rw [rd_drop h, rd_getD]
    simp only [risesB]
    rw [decide_eq_true (by omega), Bool.true_and]
  have f : gapB (l.getD (i - 1) 0) (l.drop i) = putN (l.getD i 0 - l.getD (i - 1) 0 - 1).toNat ++ gapB (l.getD i 0) (l.drop (i + 1)) := by
    rw [rd_drop h, rd_getD]; rfl
  unfold gapRest
  rw [e, f, Nat.add_sub_cancel, List.append_assoc]
theorem gapsP_nil (v : Int) : gapsP v [] = (putN ([] : List Int).length, 0) := by
  unfold gapsP
  rw [if_pos (by rfl)]
  simp [bodyG]
theorem gapsP_first (v : Int) (l : List Int) (h : 0 < l.length) : gapsP v l = gapRest l 1 (putN l.length ++ putN (zigZ (l.getD 0 0 - v)).toNat) := by
  cases l with
  | nil => simp at h
  | cons n r =>
    unfold gapsP gapRest
    simp only [rises, bodyG, Nat.sub_self, List.getD_cons_zero, List.drop_succ_cons, List.drop_zero, List.append_assoc]
    rfl
theorem zig_nat {n v : Int} (hn : 0 ≤ n ∧ n < 4294967296) (hv : 0 ≤ v ∧ v < 4294967296) : ∃ z : Nat, zigZ (n - v) = (z : Int) ∧ z < 18446744073709551616 := by
  have h1 := zig_lt (n := n - v) (by omega) (by omega)
  obtain ⟨z, hz⟩ := Int.eq_ofNat_of_zero_le (zig_nonneg (n - v))
  exact ⟨z, hz, by omega⟩
theorem gaps_Put_loop (v : Int) (hv : 0 ≤ v ∧ v < 4294967296) (l : List Int) (hu : Us l) (hl : l.length ≤ 100000) : ∀ (d i : Nat) (out : List Int), i + d = l.length → 0 < i → out.length ≤ 20 * i →
    Ev (fun k => gaps_Put.l0 k v l out l l.length i) (gapRest l i out) := by
  intro d
  induction d with
  | zero =>
    intro i out hi h0 ho
    obtain rfl : i = l.length := by omega
    rw [gapRest_end]
    refine Ev.step (fun k => gaps_Put.l0.eq_2 _ _ _ _ _ _ _) ?_
    exact ev_neg (by omega) (ev_val rfl)
  | succ d ih =>
    intro i out hi h0 ho
    have hw : wrap64 ((i : Int) - 1) = ((i - 1 : Nat) : Int) := by rw [w64_in (by omega) (by omega)]; omega
    have hw1 : wrap64 ((i : Int) + 1) = ((i + 1 : Nat) : Int) := by rw [w64_in (by omega) (by omega)]; omega
    have hx := rd_us hu (show i < l.length by omega)
    have hy := rd_us hu (show i - 1 < l.length by omega)
    refine Ev.step (fun k => gaps_Put.l0.eq_2 _ _ _ _ _ _ _) ?_
    rw [hw, hw1]
    refine ev_pos (by omega) (ev_pos (by omega) (ev_pos (by omega) (ev_neg (by omega) (ev_pos (by omega) (ev_pos (by omega) ?_)))))
    rw [rd_getD] at hx hy
    rw [rd_getD, rd_getD]
    by_cases hc : l.getD i 0 ≤ l.getD (i - 1) 0
    · exact ev_pos hc (ev_val (gapRest_no h0 (by omega) hc out).symm)
    · refine ev_neg hc ?_
      obtain ⟨z, hz⟩ := Int.eq_ofNat_of_zero_le (show 0 ≤ l.getD i 0 - l.getD (i - 1) 0 - 1 by omega)
      rw [show (l.getD i 0 - l.getD (i - 1) 0 - 1) % 4294967296 = (z : Int) by omega, gapRest_yes h0 (by omega) hc, show (l.getD i 0 - l.getD (i - 1) 0 - 1).toNat = z by omega]
      have h10 := putN_len10 (n := z) (by omega)
      exact ev_bind (vary_Put_ev out z (by omega) (by omega)) (ih (i + 1) (out ++ putN z) (by omega) (by omega) (by rw [List.length_append]; omega))
theorem gaps_Put_ev (v : Int) (hv : 0 ≤ v ∧ v < 4294967296) (l : List Int) (hu : Us l) (hl : l.length ≤ 100000) : Ev (fun k => gaps_Put.f k v l) (gapsP v l) := by
  unfold gaps_Put.f
  rw [u64_in (by omega) (by omega)]
  refine ev_bind (vary_Put_ev [] l.length (by omega) (by simp)) ?_
  rw [List.nil_append]
  have h10 := putN_len10 (n := l.length) (by omega)
  rcases Nat.eq_zero_or_pos l.length with h0 | h0
  · have hnil := List.eq_nil_of_length_eq_zero h0
    subst hnil
    refine Ev.step (fun k => gaps_Put.l0.eq_2 _ _ _ _ _ _ _) ?_
    exact ev_neg (by decide) (ev_val (gapsP_nil v).symm)
  · have hx := rd_us hu h0
    obtain ⟨z, hz, hzl⟩ := zig_nat hx hv
    have h20 := putN_len10 hzl
    have hw1 : wrap64 ((0 : Int) + 1) = ((1 : Nat) : Int) := by rw [w64_in (by omega) (by omega)]; rfl
    have hx' : 0 ≤ rd l 0 ∧ rd l 0 < 4294967296 := hx
    refine Ev.step (fun k => gaps_Put.l0.eq_2 _ _ _ _ _ _ _) ?_
    rw [hw1, w64_in (n := rd l 0) (by omega) (by omega), w64_in (n := v) (by omega) (by omega), w64_in (n := rd l 0 - v) (by omega) (by omega)]
    refine ev_pos (by omega) (ev_pos (by omega) (ev_pos (by omega) (ev_pos rfl (ev_got (vary_Zig_eq (n := rd l 0 - v) (by omega) (by omega)) ?_))))
    rw [gapsP_first v l h0, show l.getD 0 0 = rd l 0 from rfl, show zigZ (rd l 0 - v) = (z : Int) from hz, Int.toNat_natCast]
    exact ev_bind (vary_Put_ev (putN l.length) z hzl (by omega)) (gaps_Put_loop v hv l hu hl (l.length - 1) 1 _ (by omega) (by omega) (by rw [List.length_append]; omega))
theorem ref17_Put_loop (v : Int) (hv : 0 ≤ v ∧ v < 4294967296) (l : List Int) (hu : Us l) (hl : l.length ≤ 100000) : ∀ (d i : Nat) (out : List Int), i + d = l.length → 0 < i → out.length ≤ 20 * i →
    Ev (fun k => creelref17_Put.l0 k v l out i) (gapRest l i out) := by
  intro d
  induction d with
  | zero =>
    intro i out hi h0 ho
    obtain rfl : i = l.length := by omega
    rw [gapRest_end]
    refine Ev.step (fun k => creelref17_Put.l0.eq_2 _ _ _ _ _) ?_
    exact ev_neg (by omega) (ev_val rfl)
  | succ d ih =>
    intro i out hi h0 ho
    have hw : wrap64 ((i : Int) - 1) = ((i - 1 : Nat) : Int) := by rw [w64_in (by omega) (by omega)]; omega
    have hw1 : wrap64 ((i : Int) + 1) = ((i + 1 : Nat) : Int) := by rw [w64_in (by omega) (by omega)]; omega
    have hx := rd_us hu (show i < l.length by omega)
    have hy := rd_us hu (show i - 1 < l.length by omega)
    refine Ev.step (fun k => creelref17_Put.l0.eq_2 _ _ _ _ _) ?_
    rw [hw, hw1]
    refine ev_pos (by omega) (ev_neg (by omega) (ev_pos (by omega) (ev_pos (by omega) (ev_pos (by omega) ?_))))
    rw [rd_getD] at hx hy
    rw [rd_getD, rd_getD]
    by_cases hc : l.getD i 0 ≤ l.getD (i - 1) 0
    · exact ev_pos hc (ev_val (gapRest_no h0 (by omega) hc out).symm)
    · refine ev_neg hc ?_
      obtain ⟨z, hz⟩ := Int.eq_ofNat_of_zero_le (show 0 ≤ l.getD i 0 - l.getD (i - 1) 0 - 1 by omega)
      rw [show (l.getD i 0 - l.getD (i - 1) 0 - 1) % 4294967296 = (z : Int) by omega, gapRest_yes h0 (by omega) hc, show (l.getD i 0 - l.getD (i - 1) 0 - 1).toNat = z by omega]
      have h10 := putN_len10 (n := z) (by omega)
      exact ev_bind (ref_Put1_ev out z (by omega) (by omega)) (ih (i + 1) (out ++ putN z) (by omega) (by omega) (by rw [List.length_append]; omega))
theorem ref17_Put_ev (v : Int) (hv : 0 ≤ v ∧ v < 4294967296) (l : List Int) (hu : Us l) (hl : l.length ≤ 100000) : Ev (fun k => creelref17_Put.f k v l) (gapsP v l) := by
  unfold creelref17_Put.f
  rw [u64_in (by omega) (by omega)]
  refine ev_bind (ref_Put1_ev [] l.length (by omega) (by simp)) ?_
  rw [List.nil_append]
  have h10 := putN_len10 (n := l.length) (by omega)
  rcases Nat.eq_zero_or_pos l.length with h0 | h0
  · have hnil := List.eq_nil_of_length_eq_zero h0
    subst hnil
    refine Ev.step (fun k => creelref17_Put.l0.eq_2 _ _ _ _ _) ?_
    exact ev_neg (by decide) (ev_val (gapsP_nil v).symm)
  · have hx := rd_us hu h0
    obtain ⟨z, hz, hzl⟩ := zig_nat hx hv
    have h20 := putN_len10 hzl
    have hw1 : wrap64 ((0 : Int) + 1) = ((1 : Nat) : Int) := by rw [w64_in (by omega) (by omega)]; rfl
    have hx' : 0 ≤ rd l 0 ∧ rd l 0 < 4294967296 := hx
    refine Ev.step (fun k => creelref17_Put.l0.eq_2 _ _ _ _ _) ?_
    rw [hw1, w64_in (n := rd l 0) (by omega) (by omega), w64_in (n := v) (by omega) (by omega), w64_in (n := rd l 0 - v) (by omega) (by omega)]
    refine ev_pos (by omega) (ev_pos rfl (ev_pos (by omega) (ev_got (ref_Zig_eq (n := rd l 0 - v) (by omega) (by omega)) ?_)))
    rw [gapsP_first v l h0, show l.getD 0 0 = rd l 0 from rfl, show zigZ (rd l 0 - v) = (z : Int) from hz, Int.toNat_natCast]
    exact ev_bind (ref_Put1_ev (putN l.length) z hzl (by omega)) (ref17_Put_loop v hv l hu hl (l.length - 1) 1 _ (by omega) (by omega) (by rw [List.length_append]; omega))

/-! ### Take -/
/-- What is left, and behind what is taken already. -/
def gapsE (acc : List Int) (t : List Int × List Int × Int) : List Int × Int := if t.2.2 ≠ 0 then ([], 6) else if 0 < t.2.1.length then ([], 6) else (acc ++ t.1, 0)
theorem gapsE_end (acc b : List Int) : gapsE acc ([], b, 0) = if 0 < b.length then ([], 6) else (acc, 0) := by
  unfold gapsE
  rw [if_neg (by simp), List.append_nil]
theorem gapsE_bad (acc : List Int) (x : List Int) (y : List Int) : gapsE acc (x, y, 6) = ([], 6) := by unfold gapsE; rw [if_pos (by simp)]
theorem gapsE_next (acc : List Int) (m : Nat) (f : Bool) (p n : Int) (b : List Int) (h1 : (takeN b).2.2 = 0) (h2 : (takeN b).1 < 17179869184) (hn : p + (if f then zagZ (takeN b).1 else (takeN b).1 + 1) = n) (h3 : 0 ≤ n) (h4 : n ≤ 4294967295) :
    gapsE acc (gapsN (m + 1) f p b) = gapsE (acc ++ [n]) (gapsN m false n (takeN b).2.1) := by
  rw [gapsN]
  rw [hn, if_neg (by omega), if_neg (by omega)]
  unfold gapsE
  by_cases hz : (gapsN m false n (takeN b).2.1).2.2 ≠ 0
  · rw [if_pos hz, if_pos (by simp), if_pos hz]
  · rw [if_neg hz, if_neg (by simp), if_neg hz]
    simp only [List.append_assoc, List.singleton_append]
theorem gapsN_bad (m : Nat) (f : Bool) (p : Int) (b : List Int) (h : (takeN b).2.2 ≠ 0 ∨ 17179869184 ≤ (takeN b).1) : gapsN (m + 1) f p b = ([], [], 6) := by rw [gapsN, if_pos h]
theorem gapsN_out (m : Nat) (f : Bool) (p : Int) (b : List Int) (h1 : (takeN b).2.2 = 0) (h2 : (takeN b).1 < 17179869184) (h : p + (if f then zagZ (takeN b).1 else (takeN b).1 + 1) < 0 ∨ 4294967295 < p + (if f then zagZ (takeN b).1 else (takeN b).1 + 1)) : gapsN (m + 1) f p b = ([], [], 6) := by
  rw [gapsN, if_neg (by omega), if_pos h]
theorem zag_bound {n : Int} (h0 : 0 ≤ n) (h1 : n < 17179869184) : -8589934592 ≤ zagZ n ∧ zagZ n < 8589934592 := by unfold zagZ; split <;> omega
theorem gaps_Take_loop (many : Nat) (hmany : many ≤ 1000000) : ∀ (d i : Nat) (b acc : List Int) (p : Int), i + d = many → Bs b → b.length ≤ 1000000 → acc.length = i → 0 ≤ p → p < 4294967296 →
    Ev (fun k => gaps_Take.l0 k b acc p many i) (gapsE acc (gapsN d (decide (i = 0)) p b)) := by
  intro d
  induction d with
  | zero =>
    intro i b acc p hi hb hbl hacc h0 h1
    refine Ev.step (fun k => gaps_Take.l0.eq_2 _ _ _ _ _ _) ?_
    refine ev_neg (by omega) ?_
    show Ev _ (gapsE acc ([], b, 0))
    rw [gapsE_end]
    by_cases hz : 0 < b.length
    · exact ev_pos (by omega) (ev_val (if_pos hz).symm)
    · exact ev_neg (by omega) (ev_val (if_neg hz).symm)
  | succ d ih =>
    intro i b acc p hi hb hbl hacc h0 h1
    obtain ⟨f1, f2, f3, f4, f5⟩ := takeN_facts hb
    refine Ev.step (fun k => gaps_Take.l0.eq_2 _ _ _ _ _ _) ?_
    refine ev_pos (by omega) (ev_bind (vary_Take_ev b hb (by omega)) ?_)
    by_cases hz : (takeN b).2.2 = 0
    · refine ev_pos hz ?_
      by_cases hg : 17179869184 ≤ (takeN b).1
      · rw [gapsN_bad d _ p b (.inr hg), gapsE_bad, decide_eq_true (show (takeN b).1 ≥ 17179869184 from hg)]
        refine Ev.step (fun k => gaps_Take.j2.eq_2 _ _ _ _ _ _ _ _ _) ?_
        exact ev_pos rfl (ev_val rfl)
      · rw [decide_eq_false (show ¬ (takeN b).1 ≥ 17179869184 from hg)]
        refine Ev.step (fun k => gaps_Take.j2.eq_2 _ _ _ _ _ _ _ _ _) ?_
        have hwi : IntKind.u64.wrap ((i : Int) + 1) = ((i + 1 : Nat) : Int) := by rw [u64_in (by omega) (by omega)]; omega
        refine ev_neg (by decide) ?_
        rw [hwi]
        have key : ∀ n : Int, p + (if decide (i = 0) then zagZ (takeN b).1 else (takeN b).1 + 1) = n → 0 ≤ n → n ≤ 4294967295 → Ev (fun k => gaps_Take.l0 k (takeN b).2.1 (acc ++ [n % 4294967296]) n many ((i + 1 : Nat) : Int)) (gapsE acc (gapsN (d + 1) (decide (i = 0)) p b)) := by
          intro n hn n0 n1
          rw [gapsE_next acc d _ p n b hz (by omega) hn n0 n1, show n % 4294967296 = n by omega]
          have := ih (i + 1) (takeN b).2.1 (acc ++ [n]) n (by omega) f3 (by omega) (by rw [List.length_append, List.length_singleton, hacc]) n0 (by omega)
          rw [decide_eq_false (by omega)] at this
          exact this
        by_cases hi0 : i = 0
        · have hzb := zag_bound f1 (by omega)
          have hn : p + (if decide (i = 0) then zagZ (takeN b).1 else (takeN b).1 + 1) = p + zagZ (takeN b).1 := by rw [decide_eq_true hi0]; rfl
          refine ev_pos (by omega) (ev_got (vary_Zag_eq f1 f2) ?_)
          rw [w64_in (n := p + zagZ (takeN b).1) (by omega) (by omega)]
          by_cases n0 : p + zagZ (takeN b).1 < 0
          · rw [gapsN_out d _ p b hz (by omega) (by rw [hn]; exact .inl n0), gapsE_bad]
            exact ev_pos n0 (ev_val rfl)
          · refine ev_neg n0 ?_
            by_cases n1 : p + zagZ (takeN b).1 > 4294967295
            · rw [gapsN_out d _ p b hz (by omega) (by rw [hn]; exact .inr n1), gapsE_bad]
              exact ev_pos n1 (ev_val rfl)
            · exact ev_neg n1 (ev_pos (by omega) (key _ hn (by omega) (by omega)))
        · have hn : p + (if decide (i = 0) then zagZ (takeN b).1 else (takeN b).1 + 1) = p + ((takeN b).1 + 1) := by rw [decide_eq_false hi0]; rfl
          refine ev_neg (by omega) ?_
          rw [w64_in (n := (takeN b).1) (by omega) (by omega), w64_in (n := (takeN b).1 + 1) (by omega) (by omega), w64_in (n := p + ((takeN b).1 + 1)) (by omega) (by omega)]
          by_cases n0 : p + ((takeN b).1 + 1) < 0
          · omega
          · refine ev_neg n0 ?_
            by_cases n1 : p + ((takeN b).1 + 1) > 4294967295
            · rw [gapsN_out d _ p b hz (by omega) (by rw [hn]; exact .inr n1), gapsE_bad]
              exact ev_pos n1 (ev_val rfl)
            · exact ev_neg n1 (ev_pos (by omega) (key _ hn (by omega) (by omega)))
    · rw [gapsN_bad d _ p b (.inl hz), gapsE_bad]
      refine ev_neg hz ?_
      refine Ev.step (fun k => gaps_Take.j2.eq_2 _ _ _ _ _ _ _ _ _) ?_
      exact ev_pos rfl (ev_val rfl)
theorem gapsT_E {v : Int} {b : List Int} (h1 : (takeN b).2.2 = 0) (h2 : ¬ ((takeN b).2.1.length : Int) < (takeN b).1) : gapsT v b = gapsE [] (gapsN (takeN b).1.toNat true v (takeN b).2.1) := by
  unfold gapsT gapsE
  rw [if_neg (by omega)]; rfl
theorem gaps_Take_ev (v : Int) (hv : 0 ≤ v ∧ v < 4294967296) (b : List Int) (hb : Bs b) (hbl : b.length ≤ 1000000) : Ev (fun k => gaps_Take.f k v b) (gapsT v b) := by
  unfold gaps_Take.f
  obtain ⟨f1, f2, f3, f4, f5⟩ := takeN_facts hb
  refine ev_bind (vary_Take_ev b hb (by omega)) ?_
  have hbad : ∀ y : Bool, y = true → ∀ (x m : List Int) (q : Int), gapsT v b = ([], 6) → Ev (fun k => gaps_Take.j0 k v x q y) (gapsT v b) := by
    intro y hy x m q he
    rw [he, hy]
    refine Ev.step (fun k => gaps_Take.j0.eq_2 _ _ _ _ _) ?_
    exact ev_pos rfl (ev_val rfl)
  by_cases hz : (takeN b).2.2 = 0
  · refine ev_pos hz ?_
    rw [u64_in (n := ((takeN b).2.1.length : Int)) (by omega) (by omega)]
    by_cases hm : (takeN b).1 > ((takeN b).2.1.length : Int)
    · exact hbad _ (decide_eq_true hm) _ [] _ (by unfold gapsT; rw [if_pos (.inr hm)])
    · rw [decide_eq_false hm, gapsT_E hz (by omega)]
      refine Ev.step (fun k => gaps_Take.j0.eq_2 _ _ _ _ _) ?_
      refine ev_neg (by decide) ?_
      rw [w64_in (n := v) (by omega) (by omega)]
      obtain ⟨many, hmany⟩ := Int.eq_ofNat_of_zero_le f1
      rw [hmany, Int.toNat_natCast]
      exact gaps_Take_loop many (by omega) many 0 (takeN b).2.1 [] v (by omega) f3 (by omega) rfl hv.1 hv.2
  · exact ev_neg hz (hbad _ rfl _ [] _ (by unfold gapsT; rw [if_pos (.inl hz)]))
theorem ref17_Take_loop (many : Nat) (hmany : many ≤ 1000000) : ∀ (d i : Nat) (b acc : List Int) (p : Int), i + d = many → Bs b → b.length ≤ 1000000 → acc.length = i → 0 ≤ p → p < 4294967296 →
    Ev (fun k => creelref17_Take.l0 k many b acc p i) (gapsE acc (gapsN d (decide (i = 0)) p b)) := by
  intro d
  induction d with
  | zero =>
    intro i b acc p hi hb hbl hacc h0 h1
    refine Ev.step (fun k => creelref17_Take.l0.eq_2 _ _ _ _ _ _) ?_
    refine ev_neg (by omega) ?_
    show Ev _ (gapsE acc ([], b, 0))
    rw [gapsE_end]
    by_cases hz : 0 < b.length
    · exact ev_pos (by omega) (ev_val (if_pos hz).symm)
    · exact ev_neg (by omega) (ev_val (if_neg hz).symm)
  | succ d ih =>
    intro i b acc p hi hb hbl hacc h0 h1
    obtain ⟨f1, f2, f3, f4, f5⟩ := takeN_facts hb
    refine Ev.step (fun k => creelref17_Take.l0.eq_2 _ _ _ _ _ _) ?_
    refine ev_pos (by omega) (ev_bind (ref_Take_ev b hb (by omega)) ?_)
    by_cases hz : (takeN b).2.2 = 0
    · refine ev_pos hz ?_
      by_cases hg : 17179869184 ≤ (takeN b).1
      · rw [gapsN_bad d _ p b (.inr hg), gapsE_bad, decide_eq_true (show (takeN b).1 ≥ 17179869184 from hg)]
        refine Ev.step (fun k => creelref17_Take.j2.eq_2 _ _ _ _ _ _ _ _) ?_
        exact ev_pos rfl (ev_val rfl)
      · rw [decide_eq_false (show ¬ (takeN b).1 ≥ 17179869184 from hg)]
        refine Ev.step (fun k => creelref17_Take.j2.eq_2 _ _ _ _ _ _ _ _) ?_
        have hwi : IntKind.u64.wrap ((i : Int) + 1) = ((i + 1 : Nat) : Int) := by rw [u64_in (by omega) (by omega)]; omega
        refine ev_neg (by decide) ?_
        rw [hwi]
        have key : ∀ n : Int, p + (if decide (i = 0) then zagZ (takeN b).1 else (takeN b).1 + 1) = n → 0 ≤ n → n ≤ 4294967295 → Ev (fun k => creelref17_Take.l0 k many (takeN b).2.1 (acc ++ [n % 4294967296]) n ((i + 1 : Nat) : Int)) (gapsE acc (gapsN (d + 1) (decide (i = 0)) p b)) := by
          intro n hn n0 n1
          rw [gapsE_next acc d _ p n b hz (by omega) hn n0 n1, show n % 4294967296 = n by omega]
          have := ih (i + 1) (takeN b).2.1 (acc ++ [n]) n (by omega) f3 (by omega) (by rw [List.length_append, List.length_singleton, hacc]) n0 (by omega)
          rw [decide_eq_false (by omega)] at this
          exact this
        by_cases hi0 : i = 0
        · have hzb := zag_bound f1 (by omega)
          have hn : p + (if decide (i = 0) then zagZ (takeN b).1 else (takeN b).1 + 1) = p + zagZ (takeN b).1 := by rw [decide_eq_true hi0]; rfl
          refine ev_pos (by omega) (ev_got (ref_Zag_eq f1 f2) ?_)
          rw [w64_in (n := p + zagZ (takeN b).1) (by omega) (by omega)]
          by_cases n0 : p + zagZ (takeN b).1 < 0
          · rw [gapsN_out d _ p b hz (by omega) (by rw [hn]; exact .inl n0), gapsE_bad]
            exact ev_pos n0 (ev_val rfl)
          · refine ev_neg n0 ?_
            by_cases n1 : p + zagZ (takeN b).1 > 4294967295
            · rw [gapsN_out d _ p b hz (by omega) (by rw [hn]; exact .inr n1), gapsE_bad]
              exact ev_pos n1 (ev_val rfl)
            · exact ev_neg n1 (ev_pos (by omega) (key _ hn (by omega) (by omega)))
        · have hn : p + (if decide (i = 0) then zagZ (takeN b).1 else (takeN b).1 + 1) = p + (takeN b).1 + 1 := by rw [decide_eq_false hi0]; show p + ((takeN b).1 + 1) = _; omega
          refine ev_neg (by omega) ?_
          rw [w64_in (n := (takeN b).1) (by omega) (by omega), w64_in (n := p + (takeN b).1) (by omega) (by omega), w64_in (n := p + (takeN b).1 + 1) (by omega) (by omega)]
          by_cases n0 : p + (takeN b).1 + 1 < 0
          · omega
          · refine ev_neg n0 ?_
            by_cases n1 : p + (takeN b).1 + 1 > 4294967295
            · rw [gapsN_out d _ p b hz (by omega) (by rw [hn]; exact .inr n1), gapsE_bad]
              exact ev_pos n1 (ev_val rfl)
            · exact ev_neg n1 (ev_pos (by omega) (key _ hn (by omega) (by omega)))
    · rw [gapsN_bad d _ p b (.inl hz), gapsE_bad]
      refine ev_neg hz ?_
      refine Ev.step (fun k => creelref17_Take.j2.eq_2 _ _ _ _ _ _ _ _) ?_
      exact ev_pos rfl (ev_val rfl)
theorem ref17_Take_ev (v : Int) (hv : 0 ≤ v ∧ v < 4294967296) (b : List Int) (hb : Bs b) (hbl : b.length ≤ 1000000) : Ev (fun k => creelref17_Take.f k v b) (gapsT v b) := by
  unfold creelref17_Take.f
  obtain ⟨f1, f2, f3, f4, f5⟩ := takeN_facts hb
  refine ev_bind (ref_Take_ev b hb (by omega)) ?_
  have hbad : ∀ y : Bool, y = true → ∀ (q : Int) (x : List Int), gapsT v b = ([], 6) → Ev (fun k => creelref17_Take.j0 k v q x y) (gapsT v b) := by
    intro y hy q x he
    rw [he, hy]
    refine Ev.step (fun k => creelref17_Take.j0.eq_2 _ _ _ _ _) ?_
    exact ev_pos rfl (ev_val rfl)
  by_cases hz : (takeN b).2.2 = 0
  · refine ev_pos hz ?_
    rw [u64_in (n := ((takeN b).2.1.length : Int)) (by omega) (by omega)]
    by_cases hm : (takeN b).1 > ((takeN b).2.1.length : Int)
    · exact hbad _ (decide_eq_true hm) _ _ (by unfold gapsT; rw [if_pos (.inr hm)])
    · rw [decide_eq_false hm, gapsT_E hz (by omega)]
      refine Ev.step (fun k => creelref17_Take.j0.eq_2 _ _ _ _ _) ?_
      refine ev_neg (by decide) ?_
      rw [w64_in (n := v) (by omega) (by omega)]
      obtain ⟨many, hmany⟩ := Int.eq_ofNat_of_zero_le f1
      rw [hmany, Int.toNat_natCast]
      exact ref17_Take_loop many (by omega) many 0 (takeN b).2.1 [] v (by omega) f3 (by omega) rfl hv.1 hv.2
  · exact ev_neg hz (hbad _ rfl _ _ (by unfold gapsT; rw [if_pos (.inl hz)]))

/-! ### Same, few, the examples -/
theorem same17_loop (a b : List Int) (hl : a.length ≤ 140737488355328) (he : a.length = b.length) : ∀ (d i : Nat), i + d = a.length → Ev (fun k => creelref17_Same.l0 k a b i) (decide (a.drop i = b.drop i)) := by
  intro d
  induction d with
  | zero =>
    intro i hi
    refine Ev.step (fun k => creelref17_Same.l0.eq_2 _ _ _ _) ?_
    refine ev_neg (by omega) (ev_val ?_)
    rw [List.drop_eq_nil_of_le (by omega), List.drop_eq_nil_of_le (by omega)]; rfl
  | succ d ih =>
    intro i hi
    have h1 := rd_drop (show i < a.length by omega)
    have h2 := rd_drop (show i < b.length by omega)
    have hw1 : wrap64 ((i : Int) + 1) = ((i + 1 : Nat) : Int) := by rw [w64_in (by omega) (by omega)]; omega
    refine Ev.step (fun k => creelref17_Same.l0.eq_2 _ _ _ _) ?_
    rw [hw1]
    refine ev_pos (by omega) (ev_pos (by omega) (ev_pos (by omega) ?_))
    by_cases hc : rd a i = rd b i
    · refine ev_pos hc (Ev.eq (ih (i + 1) (by omega)) ?_)
      rw [h1, h2, hc]; simp
    · refine ev_neg hc (ev_val ?_)
      rw [h1, h2]; simp [hc]
theorem same17_ev (a b : List Int) (hl : a.length ≤ 140737488355328) : Ev (fun k => creelref17_Same.f k a b) (decide (a = b)) := by
  unfold creelref17_Same.f
  by_cases he : a.length = b.length
  · exact ev_pos (by omega) (same17_loop a b hl he a.length 0 (by omega))
  · exact ev_neg (by omega) (ev_val (decide_eq_false (fun h => he (by rw [h]))).symm)
end Go.Proofs.Ytnkjbgoibmbmoaa.Plain
