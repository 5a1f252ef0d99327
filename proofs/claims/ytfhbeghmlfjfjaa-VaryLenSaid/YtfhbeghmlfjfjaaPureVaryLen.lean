/- A number has as many bytes as it has groups of seven bits, one at least, and a greater one has no fewer: for every two numbers. -/
import Derived.Test.YtfhbeghmlfjfjaaSpecVaryLaws
set_option linter.unusedVariables false
set_option linter.unusedSimpArgs false
namespace Go.Proofs.Ytfhbeghmlfjfjaa.Pure
open Go.RowKit Go.Proofs.Ytfhbeghmlfjfjaa.Print Go.Proofs.YtfhbeghmlfjfjaaW.PrintWords Go.Proofs.YtfhbeghmlfjfjaaW.PrintLast Go.Proofs.YtfhbeghmlfjfjaaW.PrintMore Go.Proofs.Ytfhbeghmlfjfjaa.Plain

theorem vary_groups (a b : Nat) (ha : a < 18446744073709551616) (hb : b < 18446744073709551616) (x : Nat) : ∀ n : Nat, x < 18446744073709551616 → n ≤ 1000 → n + (if x = 0 then 0 else (putN x).length) = (putN a).length →
    Ev (fun k => creellaw01_VaryLen.l0 k a b true n x) true := by
  induction x using Nat.strongRecOn with
  | _ x ih =>
    intro n hx hn he
    have h10 := putN_len10 ha
    by_cases h : x = 0
    · subst h
      rw [if_pos rfl] at he
      refine Ev.step (f := fun k => (vary_Put.f k [] a).bind fun p => (vary_Put.f k [] b).bind fun q => if true = true then (if (p.length : Int) = (n : Int) then (if (a : Int) > (b : Int) then some true else some (decide ((p.length : Int) ≤ (q.length : Int)))) else some false) else some false) (fun k => ?_) ?_
      · simp only [creellaw01_VaryLen.l0]; rw [if_neg (by omega)]
      · refine Ev.bind (vary_Put_ev [] a ha (by decide)) (Ev.bind (vary_Put_ev [] b hb (by decide)) (all_ev fun k => ?_))
        simp only [List.nil_append]
        rw [if_pos trivial, if_pos (by omega)]
        by_cases hab : (a : Int) > b
        · rw [if_pos hab]
        · rw [if_neg hab, decide_eq_true]
          have := putN_mono a b (by omega)
          omega
    · rw [if_neg h] at he
      have hd : (putN x).length = 1 + (if x / 128 = 0 then 0 else (putN (x / 128)).length) := by
        by_cases h128 : x < 128
        · rw [putN_small h128, if_pos (by omega)]; rfl
        · rw [putN_big h128, if_neg (by omega)]; simp; omega
      refine Ev.step (f := fun k => creellaw01_VaryLen.l0 k a b true ((n + 1 : Nat) : Int) ((x / 128 : Nat) : Int)) (fun k => ?_) (ih (x / 128) (by omega) (n + 1) (by omega) (by omega) (by omega))
      simp only [creellaw01_VaryLen.l0]
      rw [if_pos (by omega), w64_in (by omega) (by omega)]
      rfl

theorem VaryLen : creellaw01_VaryLen.Pure := by
  intro a b ha hb
  obtain ⟨ha0, ha1⟩ := wf_u64 ha
  obtain ⟨hb0, hb1⟩ := wf_u64 hb
  obtain ⟨m, rfl⟩ := Int.eq_ofNat_of_zero_le ha0
  obtain ⟨n, rfl⟩ := Int.eq_ofNat_of_zero_le hb0
  refine Ev.rounds ?_
  unfold creellaw01_VaryLen.f
  refine Ev.bind shown1_ev ?_
  have hd : 1 + (if m / 128 = 0 then 0 else (putN (m / 128)).length) = (putN m).length := by
    by_cases h128 : m < 128
    · rw [putN_small h128, if_pos (by omega)]; rfl
    · rw [putN_big h128, if_neg (by omega)]; simp; omega
  exact vary_groups m n (by omega) (by omega) (m / 128) 1 (by omega) (by omega) hd

end Go.Proofs.Ytfhbeghmlfjfjaa.Pure
