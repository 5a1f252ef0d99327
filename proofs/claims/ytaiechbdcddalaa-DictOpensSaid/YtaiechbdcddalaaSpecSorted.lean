/- Labels in order, each once. -/
import Derived.Test.YtaiechbdcddalaaSpecWords
import Derived.Test.YtaiechbdcddalaaPrint8
set_option linter.unusedVariables false
set_option linter.unusedSimpArgs false
namespace Go.Proofs.Ytaiechbdcddalaa.Plain
open Go.RowKit Go.Proofs.Ytaiechbdcddalaa.Print Go.Proofs.YtaiechbdcddalaaW.PrintWords Go.Proofs.YtaiechbdcddalaaW.PrintLast Go.Proofs.YtaiechbdcddalaaW.PrintMore

theorem lex_trans : ∀ (a b c : List Int), lexLess a b = true → lexLess b c = true → lexLess a c = true
  | _, _, [], _, h => by rename_i b _; cases b <;> simp [lexLess] at h
  | [], _, _ :: _, _, _ => rfl
  | _ :: _, [], _ :: _, h, _ => by simp [lexLess] at h
  | x :: a, y :: b, z :: c, h1, h2 => by
    simp only [lexLess, Bool.or_eq_true, decide_eq_true_eq, Bool.and_eq_true] at h1 h2 ⊢
    rcases h1 with h1 | ⟨rfl, h1⟩
    · rcases h2 with h2 | ⟨rfl, h2⟩
      · exact .inl (by omega)
      · exact .inl h1
    · rcases h2 with h2 | ⟨rfl, h2⟩
      · exact .inl h2
      · exact .inr ⟨rfl, lex_trans a b c h1 h2⟩
def Rising (l : List (List Int)) : Prop := l.Pairwise (fun a b => lexLess a b = true)
theorem lex_nil {x : List Int} (h : 1 ≤ x.length) : lexLess [] x = true := by cases x <;> simp_all [lexLess]
end Go.Proofs.Ytaiechbdcddalaa.Plain
