/- What Put and its reference (layer 10), and the law's helpers, compute. -/
import Derived.Test.YthnjeddcnkbebaaSpecFixOnly
import Derived.Test.YthnjeddcnkbebaaSpecWalk
import Derived.Test.YthnjeddcnkbebaaHandDump
import Derived.Test.YthnjeddcnkbebaaPrint1
import Derived.Test.YthnjeddcnkbebaaPrint3
import Derived.Test.YthnjeddcnkbebaaPrint4
import Derived.Test.YthnjeddcnkbebaaPrint5
import Derived.Test.YthnjeddcnkbebaaPrint2
set_option linter.unusedVariables false
set_option linter.unusedSimpArgs false
namespace Go.Proofs.Ythnjeddcnkbebaa.Plain
open Go.RowKit Go.Proofs.YthnjeddcnkbebaaW.PrintWords Go.Proofs.YthnjeddcnkbebaaW.PrintLast Go.Proofs.YthnjeddcnkbebaaW.PrintMore Go.Proofs.Ythnjeddcnkbebaa.Print

def WfE (l : List S38) : Prop := ∀ x ∈ l, (0 ≤ x.f0 ∧ x.f0 < 4294967296) ∧ (0 ≤ x.f1 ∧ x.f1 < 4294967296)
theorem wfE_of {l : List S38} (h : ∀ x ∈ l, (Lit.int .u32 x.f0).wf = true ∧ (Lit.int .u32 x.f1).wf = true) : WfE l := fun x hx => ⟨wf_u32 (h x hx).1, wf_u32 (h x hx).2⟩
theorem WfE.take {l : List S38} (h : WfE l) (n : Nat) : WfE (l.take n) := fun x hx => h x (List.mem_of_mem_take hx)
/-- An edge, as eight bytes. -/
def edgeA (x : S38) : List Int := fixN 4 x.f0.toNat
def edgeB (x : S38) : List Int := fixN 4 x.f1.toNat
def putE : List S38 → List Int
  | [] => []
  | x :: l => edgeA x ++ edgeB x ++ putE l
def putD (l : List S38) : List Int := Hand.headN ++ putE l
theorem edgeA_len (x : S38) : (edgeA x).length = 4 := fixN_len _ _
theorem edgeB_len (x : S38) : (edgeB x).length = 4 := fixN_len _ _
theorem putE_len : ∀ l : List S38, (putE l).length = 8 * l.length
  | [] => rfl
  | x :: l => by
    show (edgeA x ++ edgeB x ++ putE l).length = 8 * (l.length + 1)
    rw [List.length_append, List.length_append, edgeA_len, edgeB_len, putE_len l]; omega
theorem putD_len (l : List S38) : (putD l).length = 8 + 8 * l.length := by
  unfold putD; rw [List.length_append, putE_len]; rfl
theorem putD_drop (l : List S38) : (putD l).drop 8 = putE l := by unfold putD; exact List.drop_left' rfl
theorem putE_app (l m : List S38) : putE (l ++ m) = putE l ++ putE m := by
  induction l with
  | nil => rfl
  | cons x l ih => show edgeA x ++ edgeB x ++ putE (l ++ m) = edgeA x ++ edgeB x ++ putE l ++ putE m; rw [ih, List.append_assoc _ (putE l)]
theorem dump_Put_loop : ∀ (l : List S38) (out : List Int), WfE l → out.length + 8 * l.length ≤ 100000 → Ev (fun k => dump_Put.l k l out) (out ++ putE l)
  | [], out, _, _ => all_ev fun k => by rw [dump_Put.l]; simp [putE]
  | x :: l, out, h, hl => by
    have hx := h x (List.mem_cons_self)
    have w0 : IntKind.u64.wrap x.f0 = ((x.f0.toNat : Nat) : Int) := by rw [u64_in (by omega) (by omega)]; omega
    have w1 : IntKind.u64.wrap x.f1 = ((x.f1.toNat : Nat) : Int) := by rw [u64_in (by omega) (by omega)]; omega
    rw [List.length_cons] at hl
    have la : (edgeA x).length = 4 := edgeA_len x
    have lb : (edgeB x).length = 4 := edgeB_len x
    have ih := dump_Put_loop l (out ++ edgeA x ++ edgeB x) (fun y hy => h y (List.mem_cons_of_mem _ hy)) (by rw [List.length_append, List.length_append]; omega)
    rw [show out ++ edgeA x ++ edgeB x ++ putE l = out ++ putE (x :: l) from by show _ = out ++ (edgeA x ++ edgeB x ++ putE l); simp only [List.append_assoc]] at ih
    refine Ev.congr (f := fun k => (vary_Fix.f k [] (IntKind.u64.wrap x.f0) 4).bind fun a => (vary_Fix.f k [] (IntKind.u64.wrap x.f1) 4).bind fun b => if 0 < a.length ∧ 0 < b.length ∧ out.length + a.length + b.length < 140737488355000 then dump_Put.l k l (out ++ a ++ b) else none) (fun k => by rw [dump_Put.l]) ?_
    rw [w0, w1]
    refine ev_bind (a := edgeA x) (vary_Fix_ev [] x.f0.toNat 4 (by omega) (by decide) (by decide) (by decide)) ?_
    refine ev_bind (a := edgeB x) (vary_Fix_ev [] x.f1.toNat 4 (by omega) (by decide) (by decide) (by decide)) ?_
    exact ev_pos (by omega) ih
theorem dump_Put_ev (l : List S38) (h : WfE l) (hl : l.length ≤ 1000) : Ev (fun k => dump_Put.f k l) (putD l) := dump_Put_loop l Hand.headN h (by show 8 + _ ≤ _; omega)
theorem ref_Put_loop : ∀ (l : List S38) (out : List Int), WfE l → out.length + 8 * l.length ≤ 100000 → Ev (fun k => creelref10_Put.l k l out) (out ++ putE l)
  | [], out, _, _ => all_ev fun k => by rw [creelref10_Put.l]; simp [putE]
  | x :: l, out, h, hl => by
    have hx := h x (List.mem_cons_self)
    have w0 : IntKind.u64.wrap x.f0 = ((x.f0.toNat : Nat) : Int) := by rw [u64_in (by omega) (by omega)]; omega
    have w1 : IntKind.u64.wrap x.f1 = ((x.f1.toNat : Nat) : Int) := by rw [u64_in (by omega) (by omega)]; omega
    rw [List.length_cons] at hl
    have la : (edgeA x).length = 4 := edgeA_len x
    have lb : (edgeB x).length = 4 := edgeB_len x
    have ih := ref_Put_loop l (out ++ edgeA x ++ edgeB x) (fun y hy => h y (List.mem_cons_of_mem _ hy)) (by rw [List.length_append, List.length_append]; omega)
    rw [show out ++ edgeA x ++ edgeB x ++ putE l = out ++ putE (x :: l) from by show _ = out ++ (edgeA x ++ edgeB x ++ putE l); simp only [List.append_assoc]] at ih
    refine Ev.congr (f := fun k => (creelref01_Fix.f k out (IntKind.u64.wrap x.f0) 4).bind fun a => (creelref01_Fix.f k a (IntKind.u64.wrap x.f1) 4).bind fun b => creelref10_Put.l k l b) (fun k => by rw [creelref10_Put.l]) ?_
    rw [w0, w1]
    refine ev_bind (a := out ++ edgeA x) (ref_Fix_ev out x.f0.toNat 4 (by omega) (by decide) (by decide) (by omega)) ?_
    exact ev_bind (a := out ++ edgeA x ++ edgeB x) (ref_Fix_ev (out ++ edgeA x) x.f1.toNat 4 (by omega) (by decide) (by decide) (by rw [List.length_append]; omega)) ih
theorem ref_Put_ev (l : List S38) (h : WfE l) (hl : l.length ≤ 1000) : Ev (fun k => creelref10_Put.f k l) (putD l) := ref_Put_loop l Hand.headN h (by show 8 + _ ≤ _; omega)
theorem shown10_ev : Ev (fun k => creellaw10_shown.f k) true := by
  unfold creellaw10_shown.f
  refine ev_bind (dump_Put_ev [⟨1, 2⟩] (fun x hx => by cases List.mem_singleton.1 hx; decide) (by decide)) (ev_val ?_)
  decide +kernel
theorem sameAll_loop (l : List S36) (hl : l.length ≤ 10000000) : ∀ (d i : Nat), i + d = l.length → Ev (fun k => creelref08_SameAll.l0 k l l (i : Int)) true := by
  intro d
  induction d with
  | zero =>
    intro i hi
    refine some_ev fun k => ?_
    rw [creelref08_SameAll.l0, if_neg (by omega)]
  | succ d ih =>
    intro i hi
    refine Ev.step (f := fun k => creelref08_SameAll.l0 k l l ((i + 1 : Nat) : Int)) (fun k => ?_) (ih (i + 1) (by omega))
    simp only [creelref08_SameAll.l0]
    rw [if_pos (by omega), if_pos (by omega), if_pos (by omega), w64_in (by omega) (by omega)]
    simp [creelref08_Same.f]
theorem sameAll_ev (l m : List S36) (h : l = m) (hl : l.length ≤ 10000000) : Ev (fun k => creelref08_SameAll.f k l m) true := by
  subst h
  unfold creelref08_SameAll.f
  exact ev_pos rfl (sameAll_loop l hl l.length 0 (by omega))
theorem few10 (l : List Int) : creellaw10_few.f l = some (l.take 1000) := by
  unfold creellaw10_few.f mn
  by_cases h : 1000 < (l.length : Int)
  · rw [if_pos h, if_pos (by omega), if_pos (by omega)]; rfl
  · rw [if_neg h, if_pos (by omega), if_pos (by omega), Int.toNat_natCast, List.take_of_length_le (Nat.le_refl _), List.take_of_length_le (by omega)]
theorem list10 (l : List Int) (h : l.length ≤ 1000000) : creellaw10_list.f l = some (Hand.itemsR S36.mk l, true) := by
  unfold creellaw10_list.f; rw [if_pos h]
theorem itemsR_len (l : List Int) (h : l.length ≤ 1000000) : (Hand.itemsR S36.mk l).length ≤ 1000001 := Nat.le_trans (creellaw10_list.itemsR_len l) (by omega)
theorem mn100 (l : List S38) : (mn (l.length : Int) 100).toNat = min l.length 100 ∧ 0 ≤ mn (l.length : Int) 100 ∧ mn (l.length : Int) 100 ≤ l.length := by unfold mn; split <;> omega
end Go.Proofs.Ythnjeddcnkbebaa.Plain
