/- Words for walks by hand over rows: cuts under a footprint, literals in blocks of their own. -/
import Derived.Test.YtnkjbgoibmbmoaaHandWords
import Derived.Test.YtnkjbgoibmbmoaaWNEv
set_option linter.unusedVariables false
set_option linter.unusedSimpArgs false
namespace Go.Proofs.Ytnkjbgoibmbmoaa.Hand
open Go.RowKit Go.Proofs.YtnkjbgoibmbmoaaW.PrintWords Go.Proofs.YtnkjbgoibmbmoaaW.PrintLast Go.Proofs.YtnkjbgoibmbmoaaW.PrintMore
section
variable {α : Type} {P : Program} {d : Kd α} {e : Nat} {base : Nat} {ok okp : Nat → Prop} {w W W1 : World} {A : Option Addr} {xs : List α} {v : Value}
/-- 'xs[m:]': its value, whatever the world; what it reads. -/
theorem cut_drop (t : TypeId) (kl : IntKind) (ht : P.underlying t = some (.slice e)) (hinfo : (P.info? e).map (·.size) = some d.sz) {c : Nat} (h : Kd.F d W ok A xs.length xs) (hc : xs.length ≤ c) (m : Nat) (hm : m ≤ xs.length) :
    ∃ (A2 : Option Addr) (n2 c2 : Nat), n2 = (xs.drop m).length ∧ n2 ≤ c2 ∧ (∀ W : World, (Instr.slice t (.slice A xs.length c) (some (.int kl m)) none none).run P W = .ok (.slice A2 n2 c2) W) ∧ Kd.F d W ok A2 n2 (xs.drop m) := by
  obtain ⟨i, hi, hs⟩ := Option.map_eq_some_iff.1 hinfo
  have h1 := cut_from (P := P) t e kl ht hi d.sz hs A xs.length c (m : Int) (by omega) (by omega)
  simp only [Int.toNat_natCast] at h1
  exact ⟨_, xs.length - m, c - m, by rw [List.length_drop], by omega, h1, by have h2 := Kd.F_cut h hm hc; rwa [List.length_drop] at h2⟩
theorem cut_take (t : TypeId) (kl : IntKind) (ht : P.underlying t = some (.slice e)) (hinfo : (P.info? e).map (·.size) = some d.sz) {c : Nat} (h : Kd.F d W ok A xs.length xs) (hc : xs.length ≤ c) (m : Nat) (hm : m ≤ xs.length) :
    ∃ (n2 : Nat), n2 = (xs.take m).length ∧ n2 ≤ c ∧ (∀ W : World, (Instr.slice t (.slice A xs.length c) none (some (.int kl m)) none).run P W = .ok (.slice A n2 c) W) ∧ Kd.F d W ok A n2 (xs.take m) := by
  obtain ⟨i, hi, hs⟩ := Option.map_eq_some_iff.1 hinfo
  have h1 := cut_to (P := P) t e kl ht hi A xs.length c (m : Int) (by omega) (by omega) hc
  simp only [Int.toNat_natCast] at h1
  exact ⟨m, by rw [List.length_take]; omega, by omega, h1, by have h2 := Kd.F_take h hm; rwa [List.length_take, Nat.min_eq_left hm] at h2⟩
theorem cut_mid (t : TypeId) (kl kh : IntKind) (ht : P.underlying t = some (.slice e)) (hinfo : (P.info? e).map (·.size) = some d.sz) {c : Nat} (h : Kd.F d W ok A xs.length xs) (hc : xs.length ≤ c) (lo hi : Nat) (h1 : lo ≤ hi) (h2 : hi ≤ xs.length) :
    ∃ (A2 : Option Addr) (n2 c2 : Nat), n2 = ((xs.take hi).drop lo).length ∧ n2 ≤ c2 ∧ (∀ W : World, (Instr.slice t (.slice A xs.length c) (some (.int kl lo)) (some (.int kh hi)) none).run P W = .ok (.slice A2 n2 c2) W) ∧ Kd.F d W ok A2 n2 ((xs.take hi).drop lo) := by
  obtain ⟨i, hi', hs⟩ := Option.map_eq_some_iff.1 hinfo
  have hr := Go.Proofs.YtnkjbgoibmbmoaaW.PrintWords.cut_mid (P := P) t e kl kh ht hi' d.sz hs A xs.length c (lo : Int) (hi : Int) (by omega) (by omega) (by omega) hc
  simp only [Int.toNat_natCast] at hr
  exact ⟨_, hi - lo, c - lo, by rw [List.length_drop, List.length_take, Nat.min_eq_left h2], by omega, hr, by have h3 := Kd.F_mid h h1 h2 hc; rwa [List.length_drop, List.length_take, Nat.min_eq_left h2] at h3⟩
/-- 'xs[lo:hi:hi]'. -/
theorem cut_full (t : TypeId) (kl kh km : IntKind) (ht : P.underlying t = some (.slice e)) (hinfo : (P.info? e).map (·.size) = some d.sz) {c : Nat} (h : Kd.F d W ok A xs.length xs) (hc : xs.length ≤ c) (lo hi : Nat) (h1 : lo < hi) (h2 : hi ≤ xs.length) :
    ∃ (A2 : Option Addr) (n2 : Nat), n2 = ((xs.take hi).drop lo).length ∧ (∀ W : World, (Instr.slice t (.slice A xs.length c) (some (.int kl lo)) (some (.int kh hi)) (some (.int km hi))).run P W = .ok (.slice A2 n2 n2) W) ∧ Kd.F d W ok A2 n2 ((xs.take hi).drop lo) := by
  obtain ⟨i, hi', hs⟩ := Option.map_eq_some_iff.1 hinfo
  have hel : P.elem t = e := by simp [Program.elem, ht]
  have hu : P.underlying t = some (.slice (P.elem t)) := by rw [hel]; exact ht
  refine ⟨A.map (·.add (lo * d.sz)), hi - lo, by rw [List.length_drop, List.length_take, Nat.min_eq_left h2], fun W => ?_, ?_⟩
  · rw [run_slice_lhm W t A xs.length c hu kl kh km (lo : Int) (hi : Int) (hi : Int) (by omega) (by omega) (by omega) (by omega), hel]
    simp [sizeOf, typeInfo, hi', hs, sliced, Result.andThen]
    omega
  · have h3 := Kd.F_mid (c := hi + c) h (Nat.le_of_lt h1) h2 (by omega)
    rwa [if_neg (by omega), List.length_drop, List.length_take, Nat.min_eq_left h2] at h3
end
section
variable {P : Program} {ops : Array Oper} {rest : List Oper} {o : Oper} {a : Act} {Q : Exit → Act → World → Prop} {Kc : Act → World → Prop} {ok : Nat → Prop}
/-- Bytes that go on: a row of the call's own, or a constant's (a full row that is only read). -/
def OutRow (e : TypeId) (W : World) (base : Nat) (v : Value) (xs : List Int) : Prop :=
  Kd.R (Kd.int .u8) e W base (fun _ => True) v xs ∨ ∃ A, v = .slice A xs.length xs.length ∧ 0 < xs.length ∧ Kd.F (Kd.int .u8) W (fun k => base ≤ k) A xs.length xs
theorem OutRow.slice {e base : Nat} {W : World} {v : Value} {xs : List Int} (h : OutRow e W base v xs) : ∃ A c, v = .slice A xs.length c := by
  rcases h with h | ⟨A, rfl, _⟩
  · exact Kd.R_slice h
  · exact ⟨A, _, rfl⟩
theorem OutRow.reads {e base : Nat} {W : World} {A : Option Addr} {n c : Nat} {xs : List Int} (h : OutRow e W base (.slice A n c) xs) : n = xs.length ∧ n ≤ c ∧ Kd.C (Kd.int .u8) W A xs.length xs := by
  rcases h with h | ⟨A', he, _, hC⟩
  · exact Kd.R_reads' h
  · injection he with h1 h2 h3
    subst h1 h2 h3
    exact ⟨rfl, Nat.le_refl _, Kd.F_now hC⟩
theorem OutRow.below {e base : Nat} {W W1 : World} {v : Value} {xs : List Int} (h : OutRow e W base v xs) (hb : Below W.heap.size W W1) : OutRow e W1 base v xs := by
  rcases h with h | ⟨A, he, h0, hC⟩
  · exact .inl (Kd.R_below h hb)
  · exact .inr ⟨A, he, h0, Kd.F_below hC hb⟩
theorem OutRow.V {e base base' : Nat} {W : World} {v : Value} {xs : List Int} (h : OutRow e W base v xs) : Kd.V (Kd.int .u8) e W base' (fun k => base ≤ k) v xs := by
  rcases h with h | ⟨A, rfl, _, hF⟩
  · exact Kd.R_V (Kd.R_mono (Kd.R_bound h) (fun k hk => hk.2.1))
  · exact Kd.V_mk (Nat.le_refl _) hF
/-- A row of numbers leads to its own block alone. -/
theorem R_own {k : IntKind} {e base : Nat} {ok : Nat → Prop} {W : World} {v : Value} {xs : List Int} (h : (Kd.int k).R e W base ok v xs) : (Kd.int k).R e W base (fun q => some q = v.ownBlock) v xs := Kd.R_tight rfl h
end
end Go.Proofs.Ytnkjbgoibmbmoaa.Hand
