-- Written by a program of this session (wip/cprint.py), which calls the kit's print and adds contracts proved by hand.
import Derived.Test.YtaiechbdcddalaaPrint0
import Derived.Test.YtaiechbdcddalaaPrint7
import Derived.Test.YtaiechbdcddalaaPrint8
import Derived.Test.YtaiechbdcddalaaPrint9
import Derived.Test.YtaiechbdcddalaaPrint14
namespace Go.Proofs.Ytaiechbdcddalaa.Print
open Go.RowKit Go.Proofs.YtaiechbdcddalaaW.PrintWords Go.Proofs.YtaiechbdcddalaaW.PrintLast Go.Proofs.YtaiechbdcddalaaW.PrintMore
attribute [local go_sem] max2_int min2_int max_two min_two max_three min_three max_four min_four   -- for this text's walks alone
set_option linter.unusedVariables false
set_option linter.unusedSimpArgs false

/-! ### creellaw16_DictOpens: function 4 -/
def creellaw16_DictOpens.Pure : Prop := ∀ (l0 : List Int) (id : Int) (x : List Int), l0.length ≤ maxLen → (∀ n ∈ l0, (Lit.int .u8 n).wf = true) → (Lit.int .i64 id).wf = true → x.length ≤ maxLen → (∀ n ∈ x, (Lit.int .u8 n).wf = true) →
 ∃ (k : Nat) (o : Option Dct) (l : List (List Int)), creellaw16_shown.f k = some true ∧ dict_Open.f k (l0.take (min l0.length 2000)) = some o ∧ creelref16_Open.f k (l0.take (min l0.length 2000)) = some (l, if o = none then 6 else 0) ∧ DFit o ∧ dLabels o = l ∧ creelref12_Same.f k l l = some true ∧ dN o ≤ (l0.take (min l0.length 2000)).length + 1 ∧ DUp o x ∧ creelref16_Id.f k l x = some (dId o x)
set_option maxHeartbeats 8000000 in
set_option maxRecDepth 100000 in
theorem creellaw16_DictOpens.walk (P : creellaw16_DictOpens.Pure) (a0 : Option Addr) (len0 cap0 : Nat) (z0 : List Int) (a1 : Int) (a2 : Option Addr) (len2 cap2 : Nat) (z2 : List Int) (w : World) (w0 : (a0 = none ∧ len0 = 0 ∧ cap0 = 0 ∧ z0 = []) ∨ ∃ x, a0 = some x ∧ len0 ≤ cap0 ∧ cap0 ≤ maxLen ∧ z0.length = cap0 ∧ (∀ i, i < z0.length → w.cell? (x.add i) = some (.int .u8 (z0.getD i 0))) ∧ ∀ n ∈ z0, (Lit.int .u8 n).wf = true) (y0 : len0 * 1 ≤ 140737488351232) (w1 : (Lit.int .i64 a1).wf = true) (w2 : (a2 = none ∧ len2 = 0 ∧ cap2 = 0 ∧ z2 = []) ∨ ∃ x, a2 = some x ∧ len2 ≤ cap2 ∧ cap2 ≤ maxLen ∧ z2.length = cap2 ∧ (∀ i, i < z2.length → w.cell? (x.add i) = some (.int .u8 (z2.getD i 0))) ∧ ∀ n ∈ z2, (Lit.int .u8 n).wf = true) (y2 : len2 * 1 ≤ 140737488351232) :
  Calls Try.prog 4 #[.slice a0 len0 cap0, .int .i64 a1, .slice a2 len2 cap2] w fun e w' => e = .returned (.bool true) ∧ Below w.heap.size w w' := by
 obtain ⟨l0, rfl, hr0, hm0, hw0, hc0⟩ := ReadsInt.ofRowC w0
 obtain ⟨x, rfl, hr2, hm2, hw2, hc2⟩ := ReadsInt.ofRowC w2
 obtain ⟨k, o, l, hs, hO, hRO, hfit, hlab, hS, hdn, hup, hri⟩ := P l0 a1 x hm0 hw0 w1 hm2 hw2
 have HF0 := Aside0.mk (Kd.C_F (Kd.heap_int .u8) (Kd.C_of_reads (d := (0 : Int)) (h1 := fun _ => rfl) hr0))
 have HX : Aside0 (Kd.C (Kd.int .u8) w a2 x.length x) := ⟨Kd.C_of_reads (d := (0 : Int)) (h1 := fun _ => rfl) hr2⟩
 obtain ⟨y, hy⟩ : ∃ y, l0.take (min l0.length 2000) = y := ⟨_, rfl⟩
 rw [hy] at hO hRO hdn
 have hyl : y.length = min l0.length 2000 := by rw [← hy, List.length_take]; omega
 obtain ⟨n1, hn1, hn1c, hcut1, hF1⟩ := Hand.cut_take (P := Try.prog) 26 .i64 Try.underlying26 (by kernel_rfl) HF0.out hc0 (min l0.length 2000) (Nat.min_le_left _ _)
 rw [hy] at hn1 hF1
 subst hn1
 have hmin : (if (l0.length : Int) < 2000 then (l0.length : Int) else 2000) = (y.length : Int) := by rw [hyl]; split <;> omega
 have hmin2 : (if (2000 : Int) < (l0.length : Int) then (2000 : Int) else (l0.length : Int)) = (y.length : Int) := by rw [hyl]; split <;> omega
 rw [← hyl] at hcut1
 have hnl : dN o = l.length := by rw [← hlab]; cases o with | none => rfl | some B => rfl
 have hlm := fun (W : World) (p : Value) (m : Nat) (h_ : DPtr W p m o) (hm_ : m ≤ W.heap.size) => creellaw16_list.calls p m o (y.length : Int) W h_ hfit hm_ (by omega)
 rw [hlab] at hlm
 have hln := fun (W : World) (p : Value) (m : Nat) (h_ : DPtr W p m o) => dict_Dict_Len.calls p m o W h_ hfit
 rw [hnl] at hln
 have hidc := fun (W : World) (p : Value) (m : Nat) (h_ : DPtr W p m o) (hC_ : Kd.C (Kd.int .u8) W a2 x.length x) => dict_Dict_Id.calls p m o a2 cap2 x W h_ hfit hC_ hc2 hup
 have hlb := fun (W : World) (p : Value) (m : Nat) (h_ : DPtr W p m o) (hm_ : m ≤ W.heap.size) => dict_Dict_Label.calls p m o a1 W h_ hfit hm_
 have hat : ∀ i : Nat, i < l.length → dAt o (i : Int) = l.getD i [] := fun i hi => by rw [← hlab]; cases o with | none => rfl | some B => rfl
 obtain ⟨Z, hZ⟩ : ∃ Z, dId o x = Z := ⟨_, rfl⟩
 rw [hZ] at hri hidc
 obtain ⟨zn, zb⟩ := Z
 have HS := Aside0.mk hs
 have HO := Aside0.mk hO
 have HRO := Aside0.mk hRO
 have HLM := Aside0.mk hlm
 have HLN := Aside0.mk hln
 have HID := Aside0.mk hidc
 have HSA := Aside0.mk hS
 have HRI := Aside0.mk hri
 have HF1 := Aside0.mk hF1
 have HN1 := Aside0.mk hn1c
 have HXC := Aside0.mk hc2
 have HNL := Aside0.mk hnl
 have HAT := Aside0.mk hat
 have HLAB := Aside0.mk hlab
 by_cases hin : 0 ≤ a1 ∧ a1 < (l.length : Int)
 ·have hia : a1 = ((a1.toNat : Nat) : Int) := by omega
  obtain ⟨i, hi⟩ : ∃ i, a1.toNat = i := ⟨_, rfl⟩
  rw [hi] at hia
  subst hia
  have hil : i < l.length := by omega
  have hat := HAT.out i hil
  rw [hat, if_pos (show 0 ≤ (i : Int) ∧ (i : Int) < (dN o : Int) from ⟨by omega, by rw [HNL.out]; omega⟩), decide_eq_true (show 0 ≤ (i : Int) ∧ (i : Int) < (dN o : Int) from ⟨by omega, by rw [HNL.out]; omega⟩)] at hlb
  obtain ⟨yi, hyi⟩ : ∃ yi, l.getD i [] = yi := ⟨_, rfl⟩
  rw [hyi] at hlb
  have HLB := Aside0.mk hlb
  have n0 : (0 : Int) ≤ (i : Int) := by omega
  have n1 : (i : Int) < (l.length : Int) := by omega
  cases o with
  | none => exact absurd hil (by rw [← HLAB.out]; simp [dLabels])
  | some B =>
   clear hs hO hRO hfit hlab hS hup hri hlm hln hidc hlb hat hF1 hn1c hc2 hw0 hm0 hr0 hw2 hm2 hr2 y0 y2 w0 w1 w2 hi hin hZ hnl hy hyl hdn hc0
   replace HRO : Aside0 (creelref16_Open.f k y = some (l, 0)) := ⟨by simpa using HRO.out⟩
   go_enter Try.func4, Try.ntmps4
   go_wp2_with (first
    | (go_at_call 9; (with_reducible refine (creellaw16_shown.calls k _ _ HS.out).mono ?_); rintro e wa ⟨rfl, hb⟩; have HBa := Aside0.mk hb; have HX2 := Aside0.mk (Kd.F_below HF1.out hb); have HC2 := Aside0.mk (Kd.C_below HX.out hb); clear hb)
    | (go_at_call 15; (with_reducible refine (dict_Open.calls k _ _ y _ _ (Kd.F_now HX2.out) HN1.out HO.out).mono ?_); rintro e wb ⟨⟨q, rfl, hD⟩, hb⟩; have HD : Aside0 (DPtr wb (.pointer (some ⟨q, 0, none⟩)) wa.heap.size (some B)) := ⟨⟨q, rfl, hD⟩⟩; have hmb := hb.size; have HBb := Aside0.mk (below_step HBa.out hb); have HX3 := Aside0.mk (Kd.F_below HX2.out hb); have HC3 := Aside0.mk (Kd.C_below HC2.out hb); clear hb)
    | (go_at_call 16; (with_reducible refine (creelref16_Open.calls k _ _ y l 0 _ (Kd.F_now HX3.out) HN1.out HRO.out).mono ?_); rintro e wc ⟨vr, rfl, ho, hb⟩; obtain ⟨Ar, cr, rfl⟩ := Kd.N_slice ho; have HR := Aside0.mk (Kd.C_F (Kd.heap_slice 5 (Kd.heap_int .u8)) (Kd.N_reads' ho).2.2); have HRC := Aside0.mk (Kd.N_reads' ho).2.1; have hmc := Nat.le_trans hmb hb.size; have HBc := Aside0.mk (below_step HBb.out hb); have HD2 := Aside0.mk (HD.out.below hb); have HC4 := Aside0.mk (Kd.C_below HC3.out hb); clear ho hb)
    | (go_at_call 17; (with_reducible refine (HLM.out _ _ _ HD2.out hmc).mono ?_); rintro e wd ⟨vl, rfl, ho, hb⟩; obtain ⟨A3, c3, rfl⟩ := Kd.N_slice ho; have HK := Aside0.mk (Kd.C_F (Kd.heap_slice 5 (Kd.heap_int .u8)) (Kd.N_reads' ho).2.2); have HKC := Aside0.mk (Kd.N_reads' ho).2.1; have hmd := Nat.le_trans hmc hb.size; have HBd := Aside0.mk (below_step HBc.out hb); have HD3 := Aside0.mk (HD2.out.below hb); have HC5 := Aside0.mk (Kd.C_below HC4.out hb); have HR2 := Aside0.mk (Kd.F_below HR.out hb); clear ho hb)
    | (go_at_call 18; (with_reducible refine (HID.out _ _ _ HD3.out HC5.out).mono ?_); rintro e we ⟨rfl, hb⟩; have hme := Nat.le_trans hmd hb.size; have HBe := Aside0.mk (below_step HBd.out hb); have HD4 := Aside0.mk (HD3.out.below hb); have HC6 := Aside0.mk (Kd.C_below HC5.out hb); have HR3 := Aside0.mk (Kd.F_below HR2.out hb); have HK3 := Aside0.mk (Kd.F_below HK.out hb); clear hb)
    | (go_at_call 19; (with_reducible refine (creelref16_Id.calls k _ _ l _ _ x zn zb _ (Kd.F_now HR3.out) HRC.out HC6.out HXC.out HRI.out).mono ?_); rintro e wf ⟨rfl, hd⟩; have hb := hd.below; have hmf := Nat.le_trans hme hb.size; have HBf := Aside0.mk (below_step HBe.out hb); have HD5 := Aside0.mk (HD4.out.below hb); have HR4 := Aside0.mk (Kd.F_below HR3.out hb); have HK4 := Aside0.mk (Kd.F_below HK3.out hb); clear hb hd)
    | (go_at_call 20; (with_reducible refine (HLB.out _ _ _ HD5.out hmf).mono ?_); rintro e wg ⟨vz, rfl, ho, hb⟩; obtain ⟨Az, cz, rfl⟩ := Kd.R_slice ho; have HZ := Aside0.mk (Kd.R_reads' ho).2.2; have HBg := Aside0.mk (below_step HBf.out hb); have HD6 := Aside0.mk (HD5.out.below hb); have HR5 := Aside0.mk (Kd.F_below HR4.out hb); have HK5 := Aside0.mk (Kd.F_below HK4.out hb); clear ho hb))
   have hnq : ∀ n : Nat, Below wg.heap.size wg (wg.drewN n) := fun n => pw_below_drewN (Below.refl _ _) n
   have HP : Aside0 (∀ n : Nat, DPtr (wg.drewN n) (.pointer (some ⟨q, 0, none⟩)) wa.heap.size (some B)) := ⟨fun n => HD6.out.below (hnq n)⟩
   have HRn : Aside0 (∀ n : Nat, Kd.C (Kd.slice 5 (Kd.int .u8)) (wg.drewN n) Ar l.length l) := ⟨fun n => Kd.F_now (Kd.F_below HR5.out (hnq n))⟩
   have HKn : Aside0 (∀ n : Nat, Kd.C (Kd.slice 5 (Kd.int .u8)) (wg.drewN n) A3 l.length l) := ⟨fun n => Kd.F_now (Kd.F_below HK5.out (hnq n))⟩
   clear hnq
   obtain ⟨ad, A1, c1, rfl, hcell, hc1, hF1_⟩ := Hand.F_row_at HR5.out i hil
   rw [hyi] at hcell hc1 hF1_
   have hcz := fun n_ : Nat => Kd.C_string (P := Try.prog) (A := Az) (c := cz) Try.underlying26 Try.underlying5 Try.underlying9 (Kd.C_drewN HZ.out n_)
   have hcy := fun n_ : Nat => Kd.C_string (P := Try.prog) (A := A1) (c := c1) Try.underlying26 Try.underlying5 Try.underlying9 (Kd.C_drewN (Kd.F_now hF1_) n_)
   clear hF1_ hc1
   repeat (go_quiet (first
    | (go_at_call 21; exact Calls.quiet_of ((creelref12_Same.calls k _ _ l _ _ l true _ (HKn.out _) HKC.out (HRn.out _) HRC.out HSA.out).mono fun _ _ h_ => ⟨h_.1, h_.2.out⟩))
    | (go_at_call 22; exact Calls.quiet_of_same (HLN.out _ _ _ (HP.out _)))); try go_wp2)
   go_ret
   exact ⟨by first | rfl | simp, by repeat (first | (with_reducible exact HBg.out) | apply pw_below_drewN | apply Below.drew)⟩
 ·have hno : ¬ (0 ≤ a1 ∧ a1 < (dN o : Int)) := by rw [hnl]; exact hin
  rw [if_neg hno, decide_eq_false hno] at hlb
  have HLB := Aside0.mk hlb
  have hd : (decide (0 ≤ a1) = false ∧ True) ∨ (decide (0 ≤ a1) = true ∧ decide (a1 < (l.length : Int)) = false) := by
   by_cases h0 : 0 ≤ a1
   ·exact .inr ⟨decide_eq_true h0, decide_eq_false (fun h1 => hin ⟨h0, h1⟩)⟩
   ·exact .inl ⟨decide_eq_false h0, trivial⟩
  clear hno hin
  cases o with
  | none =>
   clear hs hO hRO hfit hlab hS hup hri hlm hln hidc hlb hat hF1 hn1c hc2 hw0 hm0 hr0 hw2 hm2 hr2 y0 y2 w0 w1 w2 hZ hnl hy hyl hdn hc0
   rcases hd with ⟨d1, d2⟩ | ⟨d1, d2⟩
   ·replace HRO : Aside0 (creelref16_Open.f k y = some (l, 6)) := ⟨by simpa using HRO.out⟩
    go_enter Try.func4, Try.ntmps4
    go_wp2_with (first
     | (go_at_call 9; (with_reducible refine (creellaw16_shown.calls k _ _ HS.out).mono ?_); rintro e wa ⟨rfl, hb⟩; have HBa := Aside0.mk hb; have HX2 := Aside0.mk (Kd.F_below HF1.out hb); have HC2 := Aside0.mk (Kd.C_below HX.out hb); clear hb)
     | (go_at_call 15; (with_reducible refine (dict_Open.calls k _ _ y _ _ (Kd.F_now HX2.out) HN1.out HO.out).mono ?_); rintro e wb ⟨h_, hb⟩; replace h_ : e = .returned (.tuple #[.pointer none, .int .i64 6]) := h_; subst h_; have HD : Aside0 (DPtr wb (.pointer none) wa.heap.size none) := ⟨rfl⟩; have hmb := hb.size; have HBb := Aside0.mk (below_step HBa.out hb); have HX3 := Aside0.mk (Kd.F_below HX2.out hb); have HC3 := Aside0.mk (Kd.C_below HC2.out hb); clear hb)
     | (go_at_call 16; (with_reducible refine (creelref16_Open.calls k _ _ y l 6 _ (Kd.F_now HX3.out) HN1.out HRO.out).mono ?_); rintro e wc ⟨vr, rfl, ho, hb⟩; obtain ⟨Ar, cr, rfl⟩ := Kd.N_slice ho; have HR := Aside0.mk (Kd.C_F (Kd.heap_slice 5 (Kd.heap_int .u8)) (Kd.N_reads' ho).2.2); have HRC := Aside0.mk (Kd.N_reads' ho).2.1; have hmc := Nat.le_trans hmb hb.size; have HBc := Aside0.mk (below_step HBb.out hb); have HD2 := Aside0.mk (HD.out.below hb); have HC4 := Aside0.mk (Kd.C_below HC3.out hb); clear ho hb)
     | (go_at_call 17; (with_reducible refine (HLM.out _ _ _ HD2.out hmc).mono ?_); rintro e wd ⟨vl, rfl, ho, hb⟩; obtain ⟨A3, c3, rfl⟩ := Kd.N_slice ho; have HK := Aside0.mk (Kd.C_F (Kd.heap_slice 5 (Kd.heap_int .u8)) (Kd.N_reads' ho).2.2); have HKC := Aside0.mk (Kd.N_reads' ho).2.1; have hmd := Nat.le_trans hmc hb.size; have HBd := Aside0.mk (below_step HBc.out hb); have HD3 := Aside0.mk (HD2.out.below hb); have HC5 := Aside0.mk (Kd.C_below HC4.out hb); have HR2 := Aside0.mk (Kd.F_below HR.out hb); clear ho hb)
     | (go_at_call 18; (with_reducible refine (HID.out _ _ _ HD3.out HC5.out).mono ?_); rintro e we ⟨rfl, hb⟩; have hme := Nat.le_trans hmd hb.size; have HBe := Aside0.mk (below_step HBd.out hb); have HD4 := Aside0.mk (HD3.out.below hb); have HC6 := Aside0.mk (Kd.C_below HC5.out hb); have HR3 := Aside0.mk (Kd.F_below HR2.out hb); have HK3 := Aside0.mk (Kd.F_below HK.out hb); clear hb)
     | (go_at_call 19; (with_reducible refine (creelref16_Id.calls k _ _ l _ _ x zn zb _ (Kd.F_now HR3.out) HRC.out HC6.out HXC.out HRI.out).mono ?_); rintro e wf ⟨rfl, hd⟩; have hb := hd.below; have hmf := Nat.le_trans hme hb.size; have HBf := Aside0.mk (below_step HBe.out hb); have HD5 := Aside0.mk (HD4.out.below hb); have HR4 := Aside0.mk (Kd.F_below HR3.out hb); have HK4 := Aside0.mk (Kd.F_below HK3.out hb); clear hb hd)
     | (go_at_call 20; (with_reducible refine (HLB.out _ _ _ HD5.out hmf).mono ?_); rintro e wg ⟨vz, rfl, ho, hb⟩; obtain ⟨Az, cz, rfl⟩ := Kd.R_slice ho; have HZ := Aside0.mk (Kd.R_reads' ho).2.2; have HBg := Aside0.mk (below_step HBf.out hb); have HD6 := Aside0.mk (HD5.out.below hb); have HR5 := Aside0.mk (Kd.F_below HR4.out hb); have HK5 := Aside0.mk (Kd.F_below HK4.out hb); clear ho hb))
    have hnq : ∀ n : Nat, Below wg.heap.size wg (wg.drewN n) := fun n => pw_below_drewN (Below.refl _ _) n
    have HP : Aside0 (∀ n : Nat, DPtr (wg.drewN n) (.pointer none) wa.heap.size none) := ⟨fun n => HD6.out.below (hnq n)⟩
    have HRn : Aside0 (∀ n : Nat, Kd.C (Kd.slice 5 (Kd.int .u8)) (wg.drewN n) Ar l.length l) := ⟨fun n => Kd.F_now (Kd.F_below HR5.out (hnq n))⟩
    have HKn : Aside0 (∀ n : Nat, Kd.C (Kd.slice 5 (Kd.int .u8)) (wg.drewN n) A3 l.length l) := ⟨fun n => Kd.F_now (Kd.F_below HK5.out (hnq n))⟩
    clear hnq
    repeat (go_quiet (first
     | (go_at_call 21; exact Calls.quiet_of ((creelref12_Same.calls k _ _ l _ _ l true _ (HKn.out _) HKC.out (HRn.out _) HRC.out HSA.out).mono fun _ _ h_ => ⟨h_.1, h_.2.out⟩))
     | (go_at_call 22; exact Calls.quiet_of_same (HLN.out _ _ _ (HP.out _)))); try go_wp2)
    go_ret
    exact ⟨by first | rfl | simp, by repeat (first | (with_reducible exact HBg.out) | apply pw_below_drewN | apply Below.drew)⟩
   ·replace HRO : Aside0 (creelref16_Open.f k y = some (l, 6)) := ⟨by simpa using HRO.out⟩
    go_enter Try.func4, Try.ntmps4
    go_wp2_with (first
     | (go_at_call 9; (with_reducible refine (creellaw16_shown.calls k _ _ HS.out).mono ?_); rintro e wa ⟨rfl, hb⟩; have HBa := Aside0.mk hb; have HX2 := Aside0.mk (Kd.F_below HF1.out hb); have HC2 := Aside0.mk (Kd.C_below HX.out hb); clear hb)
     | (go_at_call 15; (with_reducible refine (dict_Open.calls k _ _ y _ _ (Kd.F_now HX2.out) HN1.out HO.out).mono ?_); rintro e wb ⟨h_, hb⟩; replace h_ : e = .returned (.tuple #[.pointer none, .int .i64 6]) := h_; subst h_; have HD : Aside0 (DPtr wb (.pointer none) wa.heap.size none) := ⟨rfl⟩; have hmb := hb.size; have HBb := Aside0.mk (below_step HBa.out hb); have HX3 := Aside0.mk (Kd.F_below HX2.out hb); have HC3 := Aside0.mk (Kd.C_below HC2.out hb); clear hb)
     | (go_at_call 16; (with_reducible refine (creelref16_Open.calls k _ _ y l 6 _ (Kd.F_now HX3.out) HN1.out HRO.out).mono ?_); rintro e wc ⟨vr, rfl, ho, hb⟩; obtain ⟨Ar, cr, rfl⟩ := Kd.N_slice ho; have HR := Aside0.mk (Kd.C_F (Kd.heap_slice 5 (Kd.heap_int .u8)) (Kd.N_reads' ho).2.2); have HRC := Aside0.mk (Kd.N_reads' ho).2.1; have hmc := Nat.le_trans hmb hb.size; have HBc := Aside0.mk (below_step HBb.out hb); have HD2 := Aside0.mk (HD.out.below hb); have HC4 := Aside0.mk (Kd.C_below HC3.out hb); clear ho hb)
     | (go_at_call 17; (with_reducible refine (HLM.out _ _ _ HD2.out hmc).mono ?_); rintro e wd ⟨vl, rfl, ho, hb⟩; obtain ⟨A3, c3, rfl⟩ := Kd.N_slice ho; have HK := Aside0.mk (Kd.C_F (Kd.heap_slice 5 (Kd.heap_int .u8)) (Kd.N_reads' ho).2.2); have HKC := Aside0.mk (Kd.N_reads' ho).2.1; have hmd := Nat.le_trans hmc hb.size; have HBd := Aside0.mk (below_step HBc.out hb); have HD3 := Aside0.mk (HD2.out.below hb); have HC5 := Aside0.mk (Kd.C_below HC4.out hb); have HR2 := Aside0.mk (Kd.F_below HR.out hb); clear ho hb)
     | (go_at_call 18; (with_reducible refine (HID.out _ _ _ HD3.out HC5.out).mono ?_); rintro e we ⟨rfl, hb⟩; have hme := Nat.le_trans hmd hb.size; have HBe := Aside0.mk (below_step HBd.out hb); have HD4 := Aside0.mk (HD3.out.below hb); have HC6 := Aside0.mk (Kd.C_below HC5.out hb); have HR3 := Aside0.mk (Kd.F_below HR2.out hb); have HK3 := Aside0.mk (Kd.F_below HK.out hb); clear hb)
     | (go_at_call 19; (with_reducible refine (creelref16_Id.calls k _ _ l _ _ x zn zb _ (Kd.F_now HR3.out) HRC.out HC6.out HXC.out HRI.out).mono ?_); rintro e wf ⟨rfl, hd⟩; have hb := hd.below; have hmf := Nat.le_trans hme hb.size; have HBf := Aside0.mk (below_step HBe.out hb); have HD5 := Aside0.mk (HD4.out.below hb); have HR4 := Aside0.mk (Kd.F_below HR3.out hb); have HK4 := Aside0.mk (Kd.F_below HK3.out hb); clear hb hd)
     | (go_at_call 20; (with_reducible refine (HLB.out _ _ _ HD5.out hmf).mono ?_); rintro e wg ⟨vz, rfl, ho, hb⟩; obtain ⟨Az, cz, rfl⟩ := Kd.R_slice ho; have HZ := Aside0.mk (Kd.R_reads' ho).2.2; have HBg := Aside0.mk (below_step HBf.out hb); have HD6 := Aside0.mk (HD5.out.below hb); have HR5 := Aside0.mk (Kd.F_below HR4.out hb); have HK5 := Aside0.mk (Kd.F_below HK4.out hb); clear ho hb))
    have hnq : ∀ n : Nat, Below wg.heap.size wg (wg.drewN n) := fun n => pw_below_drewN (Below.refl _ _) n
    have HP : Aside0 (∀ n : Nat, DPtr (wg.drewN n) (.pointer none) wa.heap.size none) := ⟨fun n => HD6.out.below (hnq n)⟩
    have HRn : Aside0 (∀ n : Nat, Kd.C (Kd.slice 5 (Kd.int .u8)) (wg.drewN n) Ar l.length l) := ⟨fun n => Kd.F_now (Kd.F_below HR5.out (hnq n))⟩
    have HKn : Aside0 (∀ n : Nat, Kd.C (Kd.slice 5 (Kd.int .u8)) (wg.drewN n) A3 l.length l) := ⟨fun n => Kd.F_now (Kd.F_below HK5.out (hnq n))⟩
    clear hnq
    repeat (go_quiet (first
     | (go_at_call 21; exact Calls.quiet_of ((creelref12_Same.calls k _ _ l _ _ l true _ (HKn.out _) HKC.out (HRn.out _) HRC.out HSA.out).mono fun _ _ h_ => ⟨h_.1, h_.2.out⟩))
     | (go_at_call 22; exact Calls.quiet_of_same (HLN.out _ _ _ (HP.out _)))); try go_wp2)
    go_ret
    exact ⟨by first | rfl | simp, by repeat (first | (with_reducible exact HBg.out) | apply pw_below_drewN | apply Below.drew)⟩
  | some B =>
   clear hs hO hRO hfit hlab hS hup hri hlm hln hidc hlb hat hF1 hn1c hc2 hw0 hm0 hr0 hw2 hm2 hr2 y0 y2 w0 w1 w2 hZ hnl hy hyl hdn hc0
   rcases hd with ⟨d1, d2⟩ | ⟨d1, d2⟩
   ·replace HRO : Aside0 (creelref16_Open.f k y = some (l, 0)) := ⟨by simpa using HRO.out⟩
    go_enter Try.func4, Try.ntmps4
    go_wp2_with (first
     | (go_at_call 9; (with_reducible refine (creellaw16_shown.calls k _ _ HS.out).mono ?_); rintro e wa ⟨rfl, hb⟩; have HBa := Aside0.mk hb; have HX2 := Aside0.mk (Kd.F_below HF1.out hb); have HC2 := Aside0.mk (Kd.C_below HX.out hb); clear hb)
     | (go_at_call 15; (with_reducible refine (dict_Open.calls k _ _ y _ _ (Kd.F_now HX2.out) HN1.out HO.out).mono ?_); rintro e wb ⟨⟨q, rfl, hD⟩, hb⟩; have HD : Aside0 (DPtr wb (.pointer (some ⟨q, 0, none⟩)) wa.heap.size (some B)) := ⟨⟨q, rfl, hD⟩⟩; have hmb := hb.size; have HBb := Aside0.mk (below_step HBa.out hb); have HX3 := Aside0.mk (Kd.F_below HX2.out hb); have HC3 := Aside0.mk (Kd.C_below HC2.out hb); clear hb)
     | (go_at_call 16; (with_reducible refine (creelref16_Open.calls k _ _ y l 0 _ (Kd.F_now HX3.out) HN1.out HRO.out).mono ?_); rintro e wc ⟨vr, rfl, ho, hb⟩; obtain ⟨Ar, cr, rfl⟩ := Kd.N_slice ho; have HR := Aside0.mk (Kd.C_F (Kd.heap_slice 5 (Kd.heap_int .u8)) (Kd.N_reads' ho).2.2); have HRC := Aside0.mk (Kd.N_reads' ho).2.1; have hmc := Nat.le_trans hmb hb.size; have HBc := Aside0.mk (below_step HBb.out hb); have HD2 := Aside0.mk (HD.out.below hb); have HC4 := Aside0.mk (Kd.C_below HC3.out hb); clear ho hb)
     | (go_at_call 17; (with_reducible refine (HLM.out _ _ _ HD2.out hmc).mono ?_); rintro e wd ⟨vl, rfl, ho, hb⟩; obtain ⟨A3, c3, rfl⟩ := Kd.N_slice ho; have HK := Aside0.mk (Kd.C_F (Kd.heap_slice 5 (Kd.heap_int .u8)) (Kd.N_reads' ho).2.2); have HKC := Aside0.mk (Kd.N_reads' ho).2.1; have hmd := Nat.le_trans hmc hb.size; have HBd := Aside0.mk (below_step HBc.out hb); have HD3 := Aside0.mk (HD2.out.below hb); have HC5 := Aside0.mk (Kd.C_below HC4.out hb); have HR2 := Aside0.mk (Kd.F_below HR.out hb); clear ho hb)
     | (go_at_call 18; (with_reducible refine (HID.out _ _ _ HD3.out HC5.out).mono ?_); rintro e we ⟨rfl, hb⟩; have hme := Nat.le_trans hmd hb.size; have HBe := Aside0.mk (below_step HBd.out hb); have HD4 := Aside0.mk (HD3.out.below hb); have HC6 := Aside0.mk (Kd.C_below HC5.out hb); have HR3 := Aside0.mk (Kd.F_below HR2.out hb); have HK3 := Aside0.mk (Kd.F_below HK.out hb); clear hb)
     | (go_at_call 19; (with_reducible refine (creelref16_Id.calls k _ _ l _ _ x zn zb _ (Kd.F_now HR3.out) HRC.out HC6.out HXC.out HRI.out).mono ?_); rintro e wf ⟨rfl, hd⟩; have hb := hd.below; have hmf := Nat.le_trans hme hb.size; have HBf := Aside0.mk (below_step HBe.out hb); have HD5 := Aside0.mk (HD4.out.below hb); have HR4 := Aside0.mk (Kd.F_below HR3.out hb); have HK4 := Aside0.mk (Kd.F_below HK3.out hb); clear hb hd)
     | (go_at_call 20; (with_reducible refine (HLB.out _ _ _ HD5.out hmf).mono ?_); rintro e wg ⟨vz, rfl, ho, hb⟩; obtain ⟨Az, cz, rfl⟩ := Kd.R_slice ho; have HZ := Aside0.mk (Kd.R_reads' ho).2.2; have HBg := Aside0.mk (below_step HBf.out hb); have HD6 := Aside0.mk (HD5.out.below hb); have HR5 := Aside0.mk (Kd.F_below HR4.out hb); have HK5 := Aside0.mk (Kd.F_below HK4.out hb); clear ho hb))
    have hnq : ∀ n : Nat, Below wg.heap.size wg (wg.drewN n) := fun n => pw_below_drewN (Below.refl _ _) n
    have HP : Aside0 (∀ n : Nat, DPtr (wg.drewN n) (.pointer (some ⟨q, 0, none⟩)) wa.heap.size (some B)) := ⟨fun n => HD6.out.below (hnq n)⟩
    have HRn : Aside0 (∀ n : Nat, Kd.C (Kd.slice 5 (Kd.int .u8)) (wg.drewN n) Ar l.length l) := ⟨fun n => Kd.F_now (Kd.F_below HR5.out (hnq n))⟩
    have HKn : Aside0 (∀ n : Nat, Kd.C (Kd.slice 5 (Kd.int .u8)) (wg.drewN n) A3 l.length l) := ⟨fun n => Kd.F_now (Kd.F_below HK5.out (hnq n))⟩
    clear hnq
    repeat (go_quiet (first
     | (go_at_call 21; exact Calls.quiet_of ((creelref12_Same.calls k _ _ l _ _ l true _ (HKn.out _) HKC.out (HRn.out _) HRC.out HSA.out).mono fun _ _ h_ => ⟨h_.1, h_.2.out⟩))
     | (go_at_call 22; exact Calls.quiet_of_same (HLN.out _ _ _ (HP.out _)))); try go_wp2)
    go_ret
    exact ⟨by first | rfl | simp, by repeat (first | (with_reducible exact HBg.out) | apply pw_below_drewN | apply Below.drew)⟩
   ·replace HRO : Aside0 (creelref16_Open.f k y = some (l, 0)) := ⟨by simpa using HRO.out⟩
    go_enter Try.func4, Try.ntmps4
    go_wp2_with (first
     | (go_at_call 9; (with_reducible refine (creellaw16_shown.calls k _ _ HS.out).mono ?_); rintro e wa ⟨rfl, hb⟩; have HBa := Aside0.mk hb; have HX2 := Aside0.mk (Kd.F_below HF1.out hb); have HC2 := Aside0.mk (Kd.C_below HX.out hb); clear hb)
     | (go_at_call 15; (with_reducible refine (dict_Open.calls k _ _ y _ _ (Kd.F_now HX2.out) HN1.out HO.out).mono ?_); rintro e wb ⟨⟨q, rfl, hD⟩, hb⟩; have HD : Aside0 (DPtr wb (.pointer (some ⟨q, 0, none⟩)) wa.heap.size (some B)) := ⟨⟨q, rfl, hD⟩⟩; have hmb := hb.size; have HBb := Aside0.mk (below_step HBa.out hb); have HX3 := Aside0.mk (Kd.F_below HX2.out hb); have HC3 := Aside0.mk (Kd.C_below HC2.out hb); clear hb)
     | (go_at_call 16; (with_reducible refine (creelref16_Open.calls k _ _ y l 0 _ (Kd.F_now HX3.out) HN1.out HRO.out).mono ?_); rintro e wc ⟨vr, rfl, ho, hb⟩; obtain ⟨Ar, cr, rfl⟩ := Kd.N_slice ho; have HR := Aside0.mk (Kd.C_F (Kd.heap_slice 5 (Kd.heap_int .u8)) (Kd.N_reads' ho).2.2); have HRC := Aside0.mk (Kd.N_reads' ho).2.1; have hmc := Nat.le_trans hmb hb.size; have HBc := Aside0.mk (below_step HBb.out hb); have HD2 := Aside0.mk (HD.out.below hb); have HC4 := Aside0.mk (Kd.C_below HC3.out hb); clear ho hb)
     | (go_at_call 17; (with_reducible refine (HLM.out _ _ _ HD2.out hmc).mono ?_); rintro e wd ⟨vl, rfl, ho, hb⟩; obtain ⟨A3, c3, rfl⟩ := Kd.N_slice ho; have HK := Aside0.mk (Kd.C_F (Kd.heap_slice 5 (Kd.heap_int .u8)) (Kd.N_reads' ho).2.2); have HKC := Aside0.mk (Kd.N_reads' ho).2.1; have hmd := Nat.le_trans hmc hb.size; have HBd := Aside0.mk (below_step HBc.out hb); have HD3 := Aside0.mk (HD2.out.below hb); have HC5 := Aside0.mk (Kd.C_below HC4.out hb); have HR2 := Aside0.mk (Kd.F_below HR.out hb); clear ho hb)
     | (go_at_call 18; (with_reducible refine (HID.out _ _ _ HD3.out HC5.out).mono ?_); rintro e we ⟨rfl, hb⟩; have hme := Nat.le_trans hmd hb.size; have HBe := Aside0.mk (below_step HBd.out hb); have HD4 := Aside0.mk (HD3.out.below hb); have HC6 := Aside0.mk (Kd.C_below HC5.out hb); have HR3 := Aside0.mk (Kd.F_below HR2.out hb); have HK3 := Aside0.mk (Kd.F_below HK.out hb); clear hb)
     | (go_at_call 19; (with_reducible refine (creelref16_Id.calls k _ _ l _ _ x zn zb _ (Kd.F_now HR3.out) HRC.out HC6.out HXC.out HRI.out).mono ?_); rintro e wf ⟨rfl, hd⟩; have hb := hd.below; have hmf := Nat.le_trans hme hb.size; have HBf := Aside0.mk (below_step HBe.out hb); have HD5 := Aside0.mk (HD4.out.below hb); have HR4 := Aside0.mk (Kd.F_below HR3.out hb); have HK4 := Aside0.mk (Kd.F_below HK3.out hb); clear hb hd)
     | (go_at_call 20; (with_reducible refine (HLB.out _ _ _ HD5.out hmf).mono ?_); rintro e wg ⟨vz, rfl, ho, hb⟩; obtain ⟨Az, cz, rfl⟩ := Kd.R_slice ho; have HZ := Aside0.mk (Kd.R_reads' ho).2.2; have HBg := Aside0.mk (below_step HBf.out hb); have HD6 := Aside0.mk (HD5.out.below hb); have HR5 := Aside0.mk (Kd.F_below HR4.out hb); have HK5 := Aside0.mk (Kd.F_below HK4.out hb); clear ho hb))
    have hnq : ∀ n : Nat, Below wg.heap.size wg (wg.drewN n) := fun n => pw_below_drewN (Below.refl _ _) n
    have HP : Aside0 (∀ n : Nat, DPtr (wg.drewN n) (.pointer (some ⟨q, 0, none⟩)) wa.heap.size (some B)) := ⟨fun n => HD6.out.below (hnq n)⟩
    have HRn : Aside0 (∀ n : Nat, Kd.C (Kd.slice 5 (Kd.int .u8)) (wg.drewN n) Ar l.length l) := ⟨fun n => Kd.F_now (Kd.F_below HR5.out (hnq n))⟩
    have HKn : Aside0 (∀ n : Nat, Kd.C (Kd.slice 5 (Kd.int .u8)) (wg.drewN n) A3 l.length l) := ⟨fun n => Kd.F_now (Kd.F_below HK5.out (hnq n))⟩
    clear hnq
    repeat (go_quiet (first
     | (go_at_call 21; exact Calls.quiet_of ((creelref12_Same.calls k _ _ l _ _ l true _ (HKn.out _) HKC.out (HRn.out _) HRC.out HSA.out).mono fun _ _ h_ => ⟨h_.1, h_.2.out⟩))
     | (go_at_call 22; exact Calls.quiet_of_same (HLN.out _ _ _ (HP.out _)))); try go_wp2)
    go_ret
    exact ⟨by first | rfl | simp, by repeat (first | (with_reducible exact HBg.out) | apply pw_below_drewN | apply Below.drew)⟩

end Go.Proofs.Ytaiechbdcddalaa.Print
