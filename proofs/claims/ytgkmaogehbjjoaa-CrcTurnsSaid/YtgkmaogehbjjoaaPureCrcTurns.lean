/- Bits that are turned change the sum by what they change it by of zeros alone: any bytes (the first 300), any others. -/
import Derived.Test.YtgkmaogehbjjoaaSpecFew02
import Derived.Test.YtgkmaogehbjjoaaSpecWalk
import Derived.Test.YtgkmaogehbjjoaaPrint4
set_option linter.unusedVariables false
set_option linter.unusedSimpArgs false
namespace Go.Proofs.Ytgkmaogehbjjoaa.Pure
open Go.RowKit Go.Proofs.Ytgkmaogehbjjoaa.Print Go.Proofs.YtgkmaogehbjjoaaW.PrintWords Go.Proofs.YtgkmaogehbjjoaaW.PrintLast Go.Proofs.YtgkmaogehbjjoaaW.PrintMore Go.Proofs.Ytgkmaogehbjjoaa.Plain

theorem set_pad (Z : List Int) (i : Nat) (h : i < Z.length) : (Z.take i ++ List.replicate (Z.length - i) 0).set i Z[i] = Z.take (i + 1) ++ List.replicate (Z.length - (i + 1)) 0 := by
  have h1 : List.replicate (Z.length - i) (0 : Int) = 0 :: List.replicate (Z.length - (i + 1)) 0 := by rw [show Z.length - i = (Z.length - (i + 1)) + 1 by omega, List.replicate_succ]
  have hl : (Z.take i).length = i := by rw [List.length_take]; omega
  rw [h1, List.set_append_right _ _ (by omega), hl, Nat.sub_self, List.set_cons_zero, List.take_succ_eq_append_getElem h, List.append_assoc]
  rfl
/-- Bytes, each with another one. -/
def both (x y : List Int) : List Int := List.zipWith (fun a b => Go.bits .xor .u8 a b) x y
theorem both_B : ∀ (x y : List Int), Bs x → Bs y → (both x y).map B = List.zipWith (· ^^^ ·) (x.map B) (y.map B)
  | [], _, _, _ => by simp [both]
  | _ :: _, [], _, _ => by simp [both]
  | a :: x, b :: y, hx, hy => by
    have ih := both_B x y hx.tail hy.tail
    unfold both at ih ⊢
    simp only [List.zipWith_cons_cons, List.map_cons]
    rw [ih, B_xor8 (hx a (by simp)) (hy b (by simp))]
theorem both_bs : ∀ (x y : List Int), Bs (both x y)
  | [], _ => by intro z hz; simp [both] at hz
  | _ :: _, [] => by intro z hz; simp [both] at hz
  | a :: x, b :: y => by
    intro z hz
    unfold both at hz
    simp only [List.zipWith_cons_cons, List.mem_cons] at hz
    rcases hz with rfl | hz
    · exact xor_u8_in
    · exact both_bs x y z hz
theorem zip_zero : ∀ (m : List B32), List.zipWith (· ^^^ ·) (List.replicate m.length 0#32) m = m
  | [] => rfl
  | a :: m => by
    rw [List.length_cons, List.replicate_succ, List.zipWith_cons_cons, zip_zero m, BitVec.zero_xor]
theorem turns_sum (x y : List Int) (hx : Bs x) (hy : Bs y) (h : x.length = y.length) :
    addS 0 (both x y) = Go.bits .xor .u32 (Go.bits .xor .u32 (addS 0 x) (addS 0 y)) (addS 0 (List.replicate x.length 0)) := by
  have hz : Bs (List.replicate x.length 0) := fun z hz => by rw [(List.mem_replicate.1 hz).2]; omega
  apply (B_inj (add_in _ _) (xor_in _ _)).1
  rw [B_xor, B_xor, B_sum (both_bs x y), B_sum hx, B_sum hy, B_sum hz, both_B x y hx hy]
  have h1 := foldB_zip (x.map B) (y.map B) ones 0#32 (by simpa using h)
  have h2 := foldB_zip (List.replicate (y.map B).length 0#32) (y.map B) ones 0#32 (by simp)
  rw [zip_zero] at h2
  rw [BitVec.xor_zero] at h1 h2
  have h3 : (List.replicate x.length (0 : Int)).map B = List.replicate (y.map B).length 0#32 := by
    rw [List.map_replicate, List.length_map, h, show B 0 = 0#32 by decide]
  rw [h1, h2, h3]
  generalize foldB ones (x.map B) = p
  generalize foldB 0#32 (y.map B) = q
  generalize foldB ones (List.replicate (y.map B).length 0#32) = r
  generalize ones = o
  apply BitVec.eq_of_getLsbD_eq
  intro i hi
  simp only [BitVec.getLsbD_xor]
  cases p.getLsbD i <;> cases q.getLsbD i <;> cases r.getLsbD i <;> cases o.getLsbD i <;> rfl
theorem turns_loop (x y : List Int) (hx : Bs x) (hy : Bs y) (h : x.length = y.length) (hl : x.length ≤ 300) : ∀ (d i : Nat), i + d = x.length →
    Ev (fun k => creellaw02_CrcTurns.l0 k true x y ((both x y).take i ++ List.replicate ((both x y).length - i) 0) (List.replicate x.length 0) (x.length : Int) i) true := by
  have hb : (both x y).length = x.length := by unfold both; rw [List.length_zipWith]; omega
  intro d
  induction d with
  | zero =>
    intro i hi
    refine Ev.step (fun k => creellaw02_CrcTurns.l0.eq_2 _ _ _ _ _ _ _ _) ?_
    rw [List.take_of_length_le (by omega), show (both x y).length - i = 0 by omega, List.replicate_zero, List.append_nil]
    refine ev_neg (by omega) (ev_pos rfl (ev_got (Sum_eq _) (ev_got (Sum_eq _) (ev_got (Sum_eq _) (ev_got (Sum_eq _) (ev_val ?_))))))
    rw [turns_sum x y hx hy h]
    exact beq_self_eq_true _
  | succ d ih =>
    intro i hi
    have hlen : ((both x y).take i ++ List.replicate ((both x y).length - i) 0).length = x.length := by
      rw [List.length_append, List.length_take, List.length_replicate]; omega
    have hs := set_pad (both x y) i (by omega)
    have hg : (both x y)[i]'(by omega) = Go.bits .xor .u8 (rd x (i : Int)) (rd y (i : Int)) := by
      unfold both
      rw [List.getElem_zipWith]
      simp [rd, List.getD_eq_getElem?_getD, List.getElem?_eq_getElem (show i < x.length by omega), List.getElem?_eq_getElem (show i < y.length by omega)]
    rw [hg] at hs
    have hw : wrap64 ((i : Int) + 1) = ((i + 1 : Nat) : Int) := by rw [w64_in (by omega) (by omega)]; omega
    refine Ev.step (fun k => creellaw02_CrcTurns.l0.eq_2 _ _ _ _ _ _ _ _) ?_
    rw [hw, Int.toNat_natCast, hs]
    clear hw
    exact ev_pos (by omega) (ev_pos (by omega) (ev_pos (by omega) (ev_pos (by omega) (ev_pos (by omega) (ih (i + 1) (by omega))))))
theorem CrcTurns : creellaw02_CrcTurns.Pure := by
  intro a b _ _ ha _ hbl hb
  obtain ⟨x, hx, hxb, hxl⟩ := few02 a (fun y hy => wf_u8 (ha y hy))
  have hb' : Bs b := fun y hy => wf_u8 (hb y hy)
  have hz : Bs (List.replicate x.length 0) := fun z hz => by rw [(List.mem_replicate.1 hz).2]; omega
  refine Ev.rounds ?_
  unfold creellaw02_CrcTurns.f
  refine ev_got crc_shown_eq (ev_got hx (ev_pos (by omega) (ev_pos (by omega) ?_)))
  rw [Int.toNat_natCast]
  refine ev_some (ev_pos (by rw [List.length_replicate]; omega) ?_)
  have hyb : Bs (b.take (min b.length (List.replicate x.length (0 : Int)).length) ++ (List.replicate x.length (0 : Int)).drop (min b.length (List.replicate x.length (0 : Int)).length)) := (hb'.take _).append (hz.drop _)
  have hyl : x.length = (b.take (min b.length (List.replicate x.length (0 : Int)).length) ++ (List.replicate x.length (0 : Int)).drop (min b.length (List.replicate x.length (0 : Int)).length)).length := by
    rw [List.length_append, List.length_take, List.length_drop, List.length_replicate]; omega
  generalize b.take (min b.length (List.replicate x.length (0 : Int)).length) ++ (List.replicate x.length (0 : Int)).drop (min b.length (List.replicate x.length (0 : Int)).length) = y at *
  have := turns_loop x y hxb hyb hyl hxl x.length 0 (by omega)
  have hl : (both x y).length = x.length := by unfold both; rw [List.length_zipWith]; omega
  rw [List.take_zero, List.nil_append, Nat.sub_zero, hl] at this
  exact this

end Go.Proofs.Ytgkmaogehbjjoaa.Pure
