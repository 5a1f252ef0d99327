/- Both tell the same of bytes. -/
import Derived.Test.YtaiechbdcddalaaSpecDict
import Derived.Test.YtaiechbdcddalaaPrint15
import Derived.Test.YtaiechbdcddalaaPrint14
import Derived.Test.YtaiechbdcddalaaPrint7
import Derived.Test.YtaiechbdcddalaaPrint9
set_option linter.unusedVariables false
set_option linter.unusedSimpArgs false
namespace Go.Proofs.Ytaiechbdcddalaa.Pure
open Go.RowKit Go.Proofs.Ytaiechbdcddalaa.Print Go.Proofs.YtaiechbdcddalaaW.PrintWords Go.Proofs.YtaiechbdcddalaaW.PrintLast Go.Proofs.YtaiechbdcddalaaW.PrintMore Go.Proofs.Ytaiechbdcddalaa.Plain

theorem only_frames_len {y : List Int} (hb : Bs y) {B : List (List (List Int))} (ho : openD y = some B) : (frames (pay B)).length = y.length := by
  obtain ⟨g1, g2, g3, g4, g5, g6⟩ := openD_inv hb ho
  have h0 : (onlyF y).2 = 0 := by
    unfold openD at ho
    split at ho
    · rename_i h; exact h
    · exact absurd ho (by simp)
  have := (onlyF_inv hb h0).1
  rw [g2] at this
  rw [← this]
theorem refId_none (x : List Int) (hx : Bs x) : Ev (fun k => creelref16_Id.f k [] x) (dId none x) :=
  refId_ev (B := []) (fun _ h => absurd h List.not_mem_nil) List.Pairwise.nil (by decide) hx
theorem DictOpens : creellaw16_DictOpens.Pure := by
  intro l0 id x hl hw hid hxl hxw
  have hb0 : Bs l0 := fun n hn => wf_u8 (hw n hn)
  have hx : Bs x := fun n hn => wf_u8 (hxw n hn)
  have hyl : (l0.take (min l0.length 2000)).length ≤ 2000 := by rw [List.length_take]; omega
  have hb := hb0.take (min l0.length 2000)
  obtain ⟨y, hy⟩ : ∃ y, l0.take (min l0.length 2000) = y := ⟨_, rfl⟩
  rw [hy] at hb hyl ⊢
  obtain ⟨K1, e1⟩ := shown16_ev
  obtain ⟨K2, e2⟩ := Open_ev y hb (by omega)
  obtain ⟨K3, e3⟩ := refOpen_ev y hb hyl
  rw [refD_eq hb] at e3
  cases ho : openD y with
  | none =>
    rw [ho] at e2 e3
    obtain ⟨K4, e4⟩ := Same12_ev [] (by decide)
    obtain ⟨K5, e5⟩ := refId_none x hx
    exact ⟨K1 + K2 + K3 + K4 + K5, none, [], e1 _ (by omega), e2 _ (by omega), e3 _ (by omega), trivial, rfl, e4 _ (by omega), Nat.zero_le _, fun i j _ h => absurd h (Nat.not_lt_zero _), e5 _ (by omega)⟩
  | some B =>
    rw [ho] at e2 e3
    obtain ⟨g1, g2, g3, g4, g5, g6⟩ := openD_inv hb ho
    have hr := (rising_all _ [] g4).2
    have hpl := pay_len g6
    have hlen : B.flatten.length ≤ y.length := by
      have h1 := only_frames_len hb ho
      omega
    obtain ⟨K4, e4⟩ := Same12_ev B.flatten (by omega)
    obtain ⟨K5, e5⟩ := refId_ev g5 hr (by omega) hx
    exact ⟨K1 + K2 + K3 + K4 + K5, some B, B.flatten, e1 _ (by omega), e2 _ (by omega), e3 _ (by omega), DFit_of g1 g4 (by omega), rfl, e4 _ (by omega), by show B.flatten.length ≤ _; omega, up_all g5 hr hx, e5 _ (by omega)⟩

end Go.Proofs.Ytaiechbdcddalaa.Pure
