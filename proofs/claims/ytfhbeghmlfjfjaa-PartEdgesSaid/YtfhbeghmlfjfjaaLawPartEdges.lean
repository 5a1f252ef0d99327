-- Written by a program of this session (wip/cprint.py), which calls the kit's print and adds contracts proved by hand.
import Derived.Test.YtfhbeghmlfjfjaaRows
import Derived.Test.YtfhbeghmlfjfjaaPrint11
import Derived.Test.YtfhbeghmlfjfjaaPurePartEdges
import Derived.WalkKit
import Derived.ProofKit
import Derived.OpenShut
import Derived.ShutString
import Derived.ChangeOld
import Derived.Below
import Derived.SizedLaws
import Derived.Test.YtfhbeghmlfjfjaaWSized
import Derived.Test.YtfhbeghmlfjfjaaRowTools
namespace Go.Proofs.Ytfhbeghmlfjfjaa.partEdges
open Go.ChangeShapes Go.WideShapes Go.ChangeAt Go.RowKit
open Go.ChangeMaps (open_string shut_string)
set_option linter.unusedVariables false
theorem own : ownKnob Try.prog.godebug = none := by kernel_rfl
theorem laidOut : laidOutB Try.prog = true := by kernel_rfl
def IsRow (k : IntKind) (w : World) (a : Option Addr) (len cap : Nat) (zs : List Int) : Prop :=
  (a = none ∧ len = 0 ∧ cap = 0 ∧ zs = []) ∨
  ∃ x, a = some x ∧ len ≤ cap ∧ cap ≤ maxLen ∧ zs.length = cap ∧ (∀ i, i < zs.length → w.cell? (x.add i) = some (.int k (zs.getD i 0))) ∧ ∀ n ∈ zs, (Lit.int k n).wf = true
set_option maxRecDepth 100000 in
theorem lifted (os : Os) (started : os.Started) (H : Type) (enc : TypeId × Value → H) :
    ReturnsInHanded {} Try.checked os 7 .any (Rows.partEdgesSpec.pre6 enc Try.prog Try.f7 Rows.partEdgesRow.domain false) (Rows.partEdgesSpec.post enc Try.prog Try.f7 false true false false) := by
  refine returnsInHanded_of_change_sized (C := Try.checked) own started (by kernel_rfl) Try.func7
    (ChangeSpec.witness6 (enc := enc) (C := Try.checked) false ⟨#[], #[.int .u32 0, .int .u32 0, .agg #[.int .u8 0, .bool false, .bool false, .bool false, .bool false, .bool false, .int .i64 0, .int .i64 0, .int .i64 0], .slice none 0 0], []⟩ 8 (by kernel_rfl) (by kernel_rfl) (by kernel_rfl) (by kernel_rfl)) ?_
  intro W base args ds gs before hval0 hW hcnd hsz0 _
  have hsz : (DataW.weightsEach Try.prog (Try.f7.params.toList ++ Rows.partEdgesSpec.plain.varTypes Try.prog) (ds ++ gs)).all (· ≤ reachBytes) = true := hsz0
  have hval : ∀ (j : Nat) t v, Try.f7.params[j]? = some t → args[j]? = some v → Value.okWide Try.prog W .any base t v := hval0
  have hW' := hW
  obtain ⟨p, q, hA0, hV, rfl, hfz, hnd⟩ := hW
  have hA : DataW.TrodAll enc Try.prog W 0 (fun _ => true) true Try.f7.params.toList args.toList ds p := hA0
  rw [Try.params7] at hA hval hsz
  obtain ⟨v0, vs0, d0, ds0, p0, q0, hargs, rfl, rfl, h0, r0⟩ := trodAll_cons hA
  obtain ⟨v1, vs1, d1, ds1, p1, q1, rfl, rfl, rfl, h1, r1⟩ := trodAll_cons r0
  obtain ⟨v2, vs2, d2, ds2, p2, q2, rfl, rfl, rfl, h2, r2⟩ := trodAll_cons r1
  obtain ⟨v3, vs3, d3, ds3, p3, q3, rfl, rfl, rfl, h3, r3⟩ := trodAll_cons r2
  obtain ⟨rfl, rfl, rfl⟩ := trodAll_nil r3
  obtain rfl : args = #[v0, v1, v2, v3] := by cases args; simp_all
  obtain ⟨rfl, rfl⟩ := trodVars_none hV
  obtain ⟨a0, rfl, rfl, rfl, w0⟩ := open_int Try.underlying22 (hval 0 22 v0 rfl rfl) h0
  obtain ⟨a1, rfl, rfl, rfl, w1⟩ := open_int Try.underlying22 (hval 1 22 v1 rfl rfl) h1
  have k2 := h2
  have lt2 : ∀ x ∈ p2, x.block < W.heap.size := by obtain ⟨m, hm⟩ := k2; exact DataW.trod_lt m _ _ _ hm
  obtain ⟨cs2, rfl, hl2, hf2⟩ := Hand.open_agg Try.underlying24 (by kernel_rfl) (by kernel_rfl) (hval 2 24 v2 rfl rfl) h2
  replace hl2 : cs2.length = 9 := hl2
  obtain ⟨c2_0, c2_1, c2_2, c2_3, c2_4, c2_5, c2_6, c2_7, c2_8, rfl⟩ : ∃ c2_0 c2_1 c2_2 c2_3 c2_4 c2_5 c2_6 c2_7 c2_8, cs2 = [c2_0, c2_1, c2_2, c2_3, c2_4, c2_5, c2_6, c2_7, c2_8] := by
    obtain _ | ⟨c2_0, cs2⟩ := cs2
    · simp at hl2
    obtain _ | ⟨c2_1, cs2⟩ := cs2
    · simp at hl2
    obtain _ | ⟨c2_2, cs2⟩ := cs2
    · simp at hl2
    obtain _ | ⟨c2_3, cs2⟩ := cs2
    · simp at hl2
    obtain _ | ⟨c2_4, cs2⟩ := cs2
    · simp at hl2
    obtain _ | ⟨c2_5, cs2⟩ := cs2
    · simp at hl2
    obtain _ | ⟨c2_6, cs2⟩ := cs2
    · simp at hl2
    obtain _ | ⟨c2_7, cs2⟩ := cs2
    · simp at hl2
    obtain _ | ⟨c2_8, cs2⟩ := cs2
    · simp at hl2
    obtain _ | ⟨x_, cs2⟩ := cs2
    · exact ⟨c2_0, c2_1, c2_2, c2_3, c2_4, c2_5, c2_6, c2_7, c2_8, rfl⟩
    · simp at hl2
  obtain ⟨q_, y_, n_, hc_, hy_⟩ := hf2 0 _ rfl
  obtain rfl : c2_0 = q_ := Option.some.inj hc_
  obtain ⟨a2_0, e_, _, w2_0⟩ := DataW.trod_int Try.underlying5 hy_
  obtain rfl := (List.cons.inj e_).1
  clear hc_ hy_ e_
  obtain ⟨q_, y_, n_, hc_, hy_⟩ := hf2 1 _ rfl
  obtain rfl : c2_1 = q_ := Option.some.inj hc_
  obtain ⟨a2_1, e_, _⟩ := DataW.trod_bool Try.underlying4 hy_
  obtain rfl := (List.cons.inj e_).1
  clear hc_ hy_ e_
  obtain ⟨q_, y_, n_, hc_, hy_⟩ := hf2 2 _ rfl
  obtain rfl : c2_2 = q_ := Option.some.inj hc_
  obtain ⟨a2_2, e_, _⟩ := DataW.trod_bool Try.underlying4 hy_
  obtain rfl := (List.cons.inj e_).1
  clear hc_ hy_ e_
  obtain ⟨q_, y_, n_, hc_, hy_⟩ := hf2 3 _ rfl
  obtain rfl : c2_3 = q_ := Option.some.inj hc_
  obtain ⟨a2_3, e_, _⟩ := DataW.trod_bool Try.underlying4 hy_
  obtain rfl := (List.cons.inj e_).1
  clear hc_ hy_ e_
  obtain ⟨q_, y_, n_, hc_, hy_⟩ := hf2 4 _ rfl
  obtain rfl : c2_4 = q_ := Option.some.inj hc_
  obtain ⟨a2_4, e_, _⟩ := DataW.trod_bool Try.underlying4 hy_
  obtain rfl := (List.cons.inj e_).1
  clear hc_ hy_ e_
  obtain ⟨q_, y_, n_, hc_, hy_⟩ := hf2 5 _ rfl
  obtain rfl : c2_5 = q_ := Option.some.inj hc_
  obtain ⟨a2_5, e_, _⟩ := DataW.trod_bool Try.underlying4 hy_
  obtain rfl := (List.cons.inj e_).1
  clear hc_ hy_ e_
  obtain ⟨q_, y_, n_, hc_, hy_⟩ := hf2 6 _ rfl
  obtain rfl : c2_6 = q_ := Option.some.inj hc_
  obtain ⟨a2_6, e_, _, w2_6⟩ := DataW.trod_int Try.underlying3 hy_
  obtain rfl := (List.cons.inj e_).1
  clear hc_ hy_ e_
  obtain ⟨q_, y_, n_, hc_, hy_⟩ := hf2 7 _ rfl
  obtain rfl : c2_7 = q_ := Option.some.inj hc_
  obtain ⟨a2_7, e_, _, w2_7⟩ := DataW.trod_int Try.underlying3 hy_
  obtain rfl := (List.cons.inj e_).1
  clear hc_ hy_ e_
  obtain ⟨q_, y_, n_, hc_, hy_⟩ := hf2 8 _ rfl
  obtain rfl : c2_8 = q_ := Option.some.inj hc_
  obtain ⟨a2_8, e_, _, w2_8⟩ := DataW.trod_int Try.underlying3 hy_
  obtain rfl := (List.cons.inj e_).1
  clear hc_ hy_ e_
  obtain ⟨a3, len3, cap3, rfl⟩ := okWide_slice Try.underlying39 (hval 3 39 v3 rfl rfl)
  have k3 := h3
  have lt3 : ∀ x ∈ p3, x.block < W.heap.size := by obtain ⟨m, hm⟩ := k3; exact DataW.trod_lt m _ _ _ hm
  obtain ⟨z3, w3⟩ : ∃ zs, IsRow .u8 W a3 len3 cap3 zs := by
    obtain ⟨fuel, hf⟩ := h3
    rcases open_ints Try.underlying39 Try.underlying5 (by kernel_rfl) hf with ⟨hcs, _⟩ | ⟨x, l, c, zs, hcs, _, hl, hm, hz, _, hcell, hwz⟩
    · simp [Value.cells] at hcs
      obtain ⟨rfl, rfl, rfl⟩ := hcs
      exact ⟨[], .inl ⟨rfl, rfl, rfl, rfl⟩⟩
    · simp [Value.cells] at hcs
      obtain ⟨rfl, rfl, rfl⟩ := hcs
      exact ⟨zs, .inr ⟨_, rfl, hl, hm, by simpa using hz, hcell, hwz⟩⟩
  have y3 : len3 * 1 ≤ 140737488351232 := Go.Proofs.YtfhbeghmlfjfjaaW.PrintWords.sized_ints hsz (j := 3) (t := 39) rfl rfl Try.underlying39 Try.underlying5 (by kernel_rfl) (by kernel_rfl) h3
  clear hA0 hval0 hsz0 hsz
  refine (Print.creellaw19_PartEdges.walk Pure.PartEdges a0 a1 a2_0 a2_1 a2_2 a2_3 a2_4 a2_5 a2_6 a2_7 a2_8 a3 len3 cap3 z3 W w0 w1 w2_0 w2_6 w2_7 w2_8 w3 y3).mono fun e W' ⟨he, bel⟩ => ?_
  subst he
  exact ⟨_, rfl, _, _, _, [], _, [], hW', trodAll_mk1 (shut_bool Try.underlying4 _), (trodAll_cons_mk (shut_int Try.underlying22 w0) (trodAll_cons_mk (shut_int Try.underlying22 w1) (trodAll_cons_mk (Below.trod laidOut (by kernel_rfl) (of_decide_eq_true (by kernel_rfl)) k2 bel lt2) (trodAll_cons_mk (Below.trod laidOut (by kernel_rfl) (of_decide_eq_true (by kernel_rfl)) k3 bel lt3) trodAll_mk0)))), rfl, bel.frame _, fun h => by cases h⟩
theorem over : Rows.partEdgesRow.holds Try.pinned (OpenSpec.ofChange Rows.partEdgesSpec) :=
  OpenClaim.holds_of_wide 7 Try.f7 rfl rfl rfl rfl rfl rfl rfl ⟨rfl, rfl, rfl, rfl, rfl⟩ rfl rfl rfl rfl rfl (by kernel_rfl) Try.func7 (by kernel_rfl)
    (of_decide_eq_true (by kernel_rfl)) (by unfold Func.isWrapper; first | (rw [if_pos (by decide +kernel)]; kernel_rfl) | (rw [if_neg (by decide +kernel)]; exact ⟨rfl, rfl⟩))
    (fun os started H enc _ => lifted os started H enc)
theorem proved : Rows.PartEdgesSaid := over
#print axioms proved
end Go.Proofs.Ytfhbeghmlfjfjaa.partEdges
namespace Go.Proofs.Ytfhbeghmlfjfjaa
/-- The row, under a short name, for the claim. -/
theorem partEdges_holds : Rows.PartEdgesSaid := partEdges.proved
end Go.Proofs.Ytfhbeghmlfjfjaa
