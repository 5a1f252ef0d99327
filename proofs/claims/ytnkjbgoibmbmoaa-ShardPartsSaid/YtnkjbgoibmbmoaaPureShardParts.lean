/- A file has a frame for each MaxPart bytes of its body, and that of vertices without neighbours two bytes each. -/
import Derived.Test.YtnkjbgoibmbmoaaSpecShard
import Derived.Test.YtnkjbgoibmbmoaaPrint5
set_option linter.unusedVariables false
set_option linter.unusedSimpArgs false
namespace Go.Proofs.Ytnkjbgoibmbmoaa.Pure
open Go.RowKit Go.Proofs.Ytnkjbgoibmbmoaa.Print Go.Proofs.YtnkjbgoibmbmoaaW.PrintWords Go.Proofs.YtnkjbgoibmbmoaaW.PrintLast Go.Proofs.YtnkjbgoibmbmoaaW.PrintMore Go.Proofs.Ytnkjbgoibmbmoaa.Plain

theorem chk_many : ∀ (f : Nat) (b : List Int), b.length ≤ f → (chk 1024 f b).length = (b.length + 1023) / 1024
  | 0, b, h => by
    unfold chk
    simp only [List.length_nil]
    omega
  | f + 1, b, h => by
    unfold chk
    split
    · simp only [List.length_nil]; omega
    · have h1 := chk_many f (b.drop 1024) (by rw [List.length_drop]; omega)
      rw [List.length_cons, h1, List.length_drop]
      omega
theorem vtx_nil (v : Int) : vtx v [] = [1, 0] := by
  have h2 : gapsP v [] = (putN 0 ++ [], 0) := if_pos rfl
  have h : (gapsP v []).1 = [0] := by
    rw [h2]
    show putN 0 ++ [] = [0]
    rw [putN_small (n := 0) (by decide)]
    rfl
  unfold vtx
  rw [h]
  show putN 1 ++ [0] = [1, 0]
  rw [putN_small (n := 1) (by decide)]
  rfl
theorem vtxs_nils (n : Nat) : ∀ v, (vtxs v (List.replicate n [])).length = 2 * n := by
  induction n with
  | zero => intro v; rfl
  | succ n ih =>
    intro v
    rw [List.replicate_succ]
    show (vtx v [] ++ vtxs (v + 1) (List.replicate n [])).length = _
    rw [List.length_append, ih, vtx_nil]
    simp only [List.length_cons, List.length_nil]
    omega
theorem nils_facts (n : Nat) : UsL (List.replicate n []) ∧ (List.replicate n ([] : List Int)).all rises = true ∧ lenSum (List.replicate n []) = 0 :=
  ⟨fun x hx => by rw [List.eq_of_mem_replicate hx]; exact ⟨Us.nil, Nat.zero_le _⟩, List.all_eq_true.2 fun x hx => by rw [List.eq_of_mem_replicate hx]; rfl, sumLen_nils n⟩
theorem body_nils (m n : Nat) (hm : m < 128) (hn : n ≤ 3000) : (bodyS m (List.replicate n [])).length = bodyN n := by
  unfold bodyS bodyN
  rw [List.length_append, List.length_append, vtxs_nils, putN_small hm, List.length_replicate]
  by_cases h : n < 128
  · rw [putN_small h, if_neg (by omega)]
    simp only [List.length_cons, List.length_nil]
    omega
  · rw [putN_big h, putN_small (by omega), if_pos (by omega)]
    simp only [List.length_cons, List.length_nil]
    omega
theorem ShardParts : creellaw18_ShardParts.Pure := by
  intro m n hm hn
  obtain ⟨h1, h2, h3⟩ := nils_facts n
  have hl : (List.replicate n ([] : List Int)).length = n := List.length_replicate
  have hok : m + (List.replicate n ([] : List Int)).length ≤ 4294967296 := by omega
  have hb := body_nils m n hm hn
  have hbn : bodyN n ≤ 10000 := by unfold bodyN; split <;> omega
  have hu := fileS_up (bodyS m (List.replicate n []))
  obtain ⟨K1, e1⟩ := shown18_ev
  obtain ⟨K2, e2⟩ := Build_ev m (List.replicate n []) h1 (by omega) ⟨by omega, by omega⟩
  obtain ⟨K3, e3⟩ := Open_ev (fileS (bodyS m (List.replicate n []))) (fileS_bs (bodyS_bs _ _)) (by omega)
  rw [build_ok h2 hok] at e2
  rw [open_file h1 h2 hok] at e3
  refine ⟨K1 + K2 + K3, fileS (bodyS m (List.replicate n [])), e1 _ (by omega), e2 _ (by omega), e3 _ (by omega), ?_⟩
  have hf := frames_len (pieces (bodyS m (List.replicate n [])))
  rw [pieces_flatten, hb] at hf
  unfold fileS
  rw [hf]
  unfold pieces
  rw [chk_many _ _ (by omega), hb]

end Go.Proofs.Ytnkjbgoibmbmoaa.Pure
