/- Edges as records (layer 19 and its reference), and lists of edges told apart. -/
import Derived.Test.YtfhbeghmlfjfjaaSpecFix
import Derived.Test.YtfhbeghmlfjfjaaSpecPart
import Derived.Test.YtfhbeghmlfjfjaaSpecWalk
import Derived.Test.YtfhbeghmlfjfjaaPrint9
import Derived.Test.YtfhbeghmlfjfjaaPrint7
import Derived.Test.YtfhbeghmlfjfjaaPrint10
import Derived.Test.YtfhbeghmlfjfjaaPrint8
set_option linter.unusedVariables false
set_option linter.unusedSimpArgs false
namespace Go.Proofs.Ytfhbeghmlfjfjaa.Plain
open Go.RowKit Go.Proofs.YtfhbeghmlfjfjaaW.PrintWords Go.Proofs.YtfhbeghmlfjfjaaW.PrintLast Go.Proofs.YtfhbeghmlfjfjaaW.PrintMore Go.Proofs.Ytfhbeghmlfjfjaa.Print

theorem same_loop (l : List S28) (hl : l.length ≤ 1000) : ∀ (d i : Nat), i + d = l.length → Ev (fun k => creellaw19_same.l0 k l l (l.length : Int) i) true := by
  intro d
  induction d with
  | zero =>
    intro i hi
    refine Ev.step (fun k => creellaw19_same.l0.eq_2 _ _ _ _ _) ?_
    exact ev_neg (by omega) (ev_val rfl)
  | succ d ih =>
    intro i hi
    have hw : wrap64 ((i : Int) + 1) = ((i + 1 : Nat) : Int) := by rw [w64_in (by omega) (by omega)]; omega
    refine Ev.step (fun k => creellaw19_same.l0.eq_2 _ _ _ _ _) ?_
    rw [hw]
    clear hw
    exact ev_pos (by omega) (ev_pos (by omega) (ev_pos (by omega) (ev_pos (by omega) (ev_neg (by simp) (ih (i + 1) (by omega))))))
theorem same_ev (l : List S28) (hl : l.length ≤ 1000) : Ev (fun k => creellaw19_same.f k l l) true := by
  unfold creellaw19_same.f
  exact ev_pos rfl (same_loop l hl l.length 0 (by omega))
theorem or_key (a b : Nat) (ha : a < 4294967296) (hb : b < 4294967296) : Go.bits .or .u64 (IntKind.u64.wrap (IntKind.u64.wrap (a : Int) * 4294967296)) (IntKind.u64.wrap (b : Int)) = ((a * 4294967296 + b : Nat) : Int) := by
  rw [u64_in (n := (a : Int)) (by omega) (by omega), u64_in (n := (b : Int)) (by omega) (by omega), u64_in (n := (a : Int) * 4294967296) (by omega) (by omega), or_comm_bits]
  have h32 : (2 : Int) ^ 32 = 4294967296 := by decide
  have := or_sum 32 (acc := (b : Int)) (x := (a : Int)) (by omega) (by omega) (by omega) (by omega) (by omega)
  rw [h32] at this
  rw [this]; omega
theorem uval_app (l m : List Int) : ∀ a, uval a (l ++ m) = uval (uval a l) m := by
  induction l with
  | nil => intro a; rfl
  | cons c r ih => intro a; exact ih _
theorem fix_two {a b : Nat} (ha : a < 4294967296) (hb : b < 4294967296) : fixN 8 (a * 4294967296 + b) = fixN 4 a ++ fixN 4 b := by
  have hp : (256 : Nat) ^ 4 = 4294967296 := by decide
  have h := fix_uval (fixN 4 a ++ fixN 4 b) ((fixN_bs 4 a).append (fixN_bs 4 b)) 0
  rw [uval_app, uval_fix' (by omega), uval_fix, hp, Nat.mod_eq_of_lt hb, List.length_append, fixN_len, fixN_len] at h
  exact h
theorem Key_ev (a b : Nat) (ha : a < 4294967296) (hb : b < 4294967296) : Ev (fun k => part_Key.f k a b) (fixN 4 a ++ fixN 4 b) := by
  unfold part_Key.f
  simp only [or_key a b ha hb]
  refine Ev.bind (Ev.eq (vary_Fix_ev [] (a * 4294967296 + b) 8 (by omega) (by omega) (by omega) (by decide)) (by rw [List.nil_append, fix_two ha hb])) (all_ev fun k => rfl)
theorem refKey_ev (a b : Nat) (ha : a < 4294967296) (hb : b < 4294967296) : Ev (fun k => creelref19_Key.f k a b) (fixN 4 a ++ fixN 4 b) := by
  unfold creelref19_Key.f
  simp only [u64_in (n := (a : Int)) (by omega) (by omega), u64_in (n := (b : Int)) (by omega) (by omega)]
  refine ev_bind (Ev.eq (ref_Fix_ev [] a 4 (by omega) (by omega) (by omega) (by decide)) (List.nil_append _)) (ev_bind (ref_Fix_ev _ b 4 (by omega) (by omega) (by omega) (by rw [fixN_len]; omega)) (ev_val rfl))
/-- The edge that a record is. -/
def unkeyS (y : List Int) : Int × Int × Bool := if y.length = 8 then ((uval 0 (y.take 4) : Int), (uval 0 (y.drop 4) : Int), true) else (0, 0, false)
theorem unfix_at (y : List Int) (s : Nat) (h1 : 1 ≤ s) (h8 : s ≤ 8) : unfixS y s = if y.length < s then (0, [], 5) else ((uval 0 (y.take s) : Int), y.drop s, 0) := by
  unfold unfixS
  rw [if_neg (by omega)]
  by_cases h : y.length < s
  · rw [if_pos h, if_pos (by omega)]
  · rw [if_neg h, if_neg (by omega), Int.toNat_natCast]
theorem Unkey_ev (y : List Int) (hb : Bs y) (hl : y.length ≤ 1000) : Ev (fun k => part_Unkey.f k y) (unkeyS y) := by
  unfold part_Unkey.f unkeyS
  refine ev_bind (Ev.eq (vary_Unfix_ev y 8 hb (by omega) (by omega)) (unfix_at y 8 (by omega) (by omega))) ?_
  by_cases h : y.length < 8
  · rw [if_pos h, if_neg (show ¬ y.length = 8 by omega)]
    exact ev_neg (by decide) (ev_val rfl)
  · rw [if_neg h]
    refine ev_pos rfl ?_
    by_cases h8 : y.length = 8
    · rw [if_pos h8]
      refine ev_neg (by show ¬ ((y.drop 8).length : Int) > 0; rw [List.length_drop]; omega) (ev_val ?_)
      have ht := uval_lt (y.take 4) (hb.take 4)
      have hd := uval_lt (y.drop 4) (hb.drop 4)
      have hu : uval 0 (y.take 8) = uval 0 (y.take 4) * 256 ^ 4 + uval 0 (y.drop 4) := by
        rw [List.take_of_length_le (by omega)]
        conv => lhs; rw [← List.take_append_drop 4 y]
        rw [uval_app, uval_acc, List.length_drop, h8]
      rw [List.length_take, show min 4 y.length = 4 by omega] at ht
      rw [List.length_drop, h8] at hd
      rw [hu]
      generalize uval 0 (y.take 4) = p at *
      generalize uval 0 (y.drop 4) = q at *
      show (((p * 256 ^ 4 + q : Nat) : Int) / 4294967296 % 4294967296, ((p * 256 ^ 4 + q : Nat) : Int) % 4294967296, true) = _
      rw [show ((p * 256 ^ 4 + q : Nat) : Int) / 4294967296 % 4294967296 = (p : Int) by omega, show ((p * 256 ^ 4 + q : Nat) : Int) % 4294967296 = (q : Int) by omega]
    · rw [if_neg h8]
      exact ev_pos (by show ((y.drop 8).length : Int) > 0; rw [List.length_drop]; omega) (ev_val rfl)
theorem refUnkey_ev (y : List Int) (hb : Bs y) (hl : y.length ≤ 1000) : Ev (fun k => creelref19_Unkey.f k y) (unkeyS y) := by
  unfold creelref19_Unkey.f unkeyS
  by_cases h8 : y.length = 8
  · rw [if_pos h8]
    have e1 := Ev.eq (ref_Unfix_ev y 4 hb (by omega) (by omega)) (unfix_at y 4 (by omega) (by omega))
    have e2 := Ev.eq (ref_Unfix_ev (y.drop 4) 4 (hb.drop 4) (by rw [List.length_drop]; omega) (by omega)) (unfix_at (y.drop 4) 4 (by omega) (by omega))
    rw [if_neg (by omega)] at e1
    rw [if_neg (by rw [List.length_drop]; omega), List.take_of_length_le (l := y.drop 4) (by rw [List.length_drop]; omega)] at e2
    have ht := uval_lt (y.take 4) (hb.take 4)
    have hd := uval_lt (y.drop 4) (hb.drop 4)
    rw [List.length_take, show min 4 y.length = 4 by omega] at ht
    rw [List.length_drop, h8] at hd
    refine ev_pos (by omega) (ev_bind e1 (ev_bind e2 (ev_val ?_)))
    generalize uval 0 (y.take 4) = p at *
    generalize uval 0 (y.drop 4) = q at *
    show ((p : Int) % 4294967296, (q : Int) % 4294967296, true) = _
    rw [show (p : Int) % 4294967296 = (p : Int) by omega, show (q : Int) % 4294967296 = (q : Int) by omega]
  · rw [if_neg h8]
    exact ev_neg (by omega) (ev_val rfl)

end Go.Proofs.Ytfhbeghmlfjfjaa.Plain
