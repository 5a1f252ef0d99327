-- Written by a program of this session (wip/cprint.py), which calls the kit's print and adds contracts proved by hand.
import Derived.Test.YthnjeddcnkbebaaPrint0
import Derived.Test.YthnjeddcnkbebaaPrint2
import Derived.Test.YthnjeddcnkbebaaPrint3
import Derived.Test.YthnjeddcnkbebaaPrint5
namespace Go.Proofs.Ythnjeddcnkbebaa.Print
open Go.RowKit Go.Proofs.YthnjeddcnkbebaaW.PrintWords Go.Proofs.YthnjeddcnkbebaaW.PrintLast Go.Proofs.YthnjeddcnkbebaaW.PrintMore
attribute [local go_sem] max2_int min2_int max_two min_two max_three min_three max_four min_four   -- for this text's walks alone
set_option linter.unusedVariables false
set_option linter.unusedSimpArgs false

/-! ### creellaw10_DumpBack: function 4 -/
def creellaw10_DumpBack.Pure : Prop := ∀ (l0 : List S38) (a1 : Int), l0.length ≤ maxLen → (∀ x ∈ l0, (Lit.int .u32 x.f0).wf = true ∧ (Lit.int .u32 x.f1).wf = true) → (Lit.int .u16 a1).wf = true → ∃ (k n : Nat) (x : List S38) (p : List Int) (all some_ : List S36) (N_ : Nat), a1 = n ∧ n < 65536 ∧ l0.take (min l0.length 100) = x ∧ creellaw10_shown.f k = some true ∧ dump_Put.f k x = some p ∧ p.length = 8 + 8 * x.length ∧ Hand.itemsR S36.mk p = all ∧ all.length = x.length ∧ n % (p.length + 1) = N_ ∧ Hand.itemsR S36.mk (p.take N_) = some_ ∧ (∀ i : Nat, i < x.length → (rd_T36 all (i : Int)).f0 = true ∧ (rd_T36 all (i : Int)).f3 = 0 ∧ 8 + (strOfNums (rd_T36 all (i : Int)).f1).size ≤ 9223372036854775807 ∧ 8 + (strOfNums (rd_T36 all (i : Int)).f1).size + (strOfNums (rd_T36 all (i : Int)).f2).size ≤ 9223372036854775807 ∧ ∃ (k2 : Nat) (t : List Int), dump_Put.f k2 [rd_T38 x (i : Int)] = some t ∧ (strOfNums t).toList = (((⟨#[99, 114, 101, 101, 108, 100, 109, 112]⟩ : ByteArray) ++ strOfNums (rd_T36 all (i : Int)).f1) ++ strOfNums (rd_T36 all (i : Int)).f2).toList) ∧ (N_ < 8 → some_.length = 1 ∧ (rd_T36 some_ 0).f3 = 100) ∧ (¬ N_ < 8 → ∀ want : List S36, want = all.take ((N_ - 8) / 8) ++ (if N_ % 8 = 0 then [] else [⟨false, [], [], 5, 8 + ((8 * ((N_ - 8) / 8) : Nat) : Int)⟩]) → ∃ k3 : Nat, creelref08_SameAll.f k3 some_ want = some true)
set_option maxHeartbeats 8000000 in
set_option maxRecDepth 100000 in
theorem creellaw10_DumpBack.calls (A0 : Option Addr) (c0 : Nat) (l0 : List S38) (a1 : Nat) (w : World) (hr0 : Kd.C k38 w A0 l0.length l0) (hc0 : l0.length ≤ c0) (ha1 : a1 < 65536) (k : Nat) (x : List S38) (hx : l0.take (min l0.length 100) = x) (p : List Int) (all some_ : List S36) (N_ : Nat)
    (hs : creellaw10_shown.f k = some true) (hp : dump_Put.f k x = some p) (hpl : p.length = 8 + 8 * x.length) (hall : Hand.itemsR S36.mk p = all) (hal : all.length = x.length) (hN : a1 % (p.length + 1) = N_) (hsome : Hand.itemsR S36.mk (p.take N_) = some_) (hit : ∀ i : Nat, i < x.length → (rd_T36 all (i : Int)).f0 = true ∧ (rd_T36 all (i : Int)).f3 = 0 ∧ 8 + (strOfNums (rd_T36 all (i : Int)).f1).size ≤ 9223372036854775807 ∧ 8 + (strOfNums (rd_T36 all (i : Int)).f1).size + (strOfNums (rd_T36 all (i : Int)).f2).size ≤ 9223372036854775807 ∧ ∃ (k2 : Nat) (t : List Int), dump_Put.f k2 [rd_T38 x (i : Int)] = some t ∧ (strOfNums t).toList = (((⟨#[99, 114, 101, 101, 108, 100, 109, 112]⟩ : ByteArray) ++ strOfNums (rd_T36 all (i : Int)).f1) ++ strOfNums (rd_T36 all (i : Int)).f2).toList) (hshort : N_ < 8 → some_.length = 1 ∧ (rd_T36 some_ 0).f3 = 100) (hlong : ¬ N_ < 8 → ∀ want : List S36, want = all.take ((N_ - 8) / 8) ++ (if N_ % 8 = 0 then [] else [⟨false, [], [], 5, 8 + ((8 * ((N_ - 8) / 8) : Nat) : Int)⟩]) → ∃ k3 : Nat, creelref08_SameAll.f k3 some_ want = some true) :
    Calls Try.prog 4 #[.slice A0 l0.length c0, .int .u16 a1] w fun e w' => e = .returned (.bool true) ∧ Below w.heap.size w w' := by
  have hxl : x.length = min l0.length 100 := by rw [← hx, List.length_take]; omega
  have hl1 : creellaw10_list.f p = some (all, true) := by unfold creellaw10_list.f; rw [if_pos (by omega), hall]
  have hNl : N_ ≤ p.length := by rw [← hN]; have := Nat.mod_lt a1 (show 0 < p.length + 1 by omega); omega
  have hl2 : creellaw10_list.f (p.take N_) = some (some_, true) := by unfold creellaw10_list.f; rw [if_pos (by rw [List.length_take]; omega), hsome]
  have hln : min l0.length 100 ≤ l0.length := Nat.min_le_left _ _
  have HF0 := Aside0.mk (Kd.C_F k38_heap hr0)
  obtain ⟨n1, hn1, hn1c, hcut1, hF1⟩ := Hand.cut_take (P := Try.prog) 22 .i64 Try.underlying22 (by kernel_rfl) HF0.out hc0 (min l0.length 100) (by omega)
  rw [hx] at hn1 hF1
  subst hn1
  have hmin : (if (l0.length : Int) < 100 then (l0.length : Int) else 100) = (x.length : Int) := by rw [hxl]; split <;> omega
  have hmin2 : (if (100 : Int) < (l0.length : Int) then (100 : Int) else (l0.length : Int)) = (x.length : Int) := by rw [hxl]; split <;> omega
  rw [← hxl] at hcut1
  have hx100 : x.length ≤ 100 := by omega
  have hpd : decide ((p.length : Int) = 8 + 8 * (x.length : Int)) = true := decide_eq_true (by omega)
  have hpe : ((p.length : Int) == 8 + 8 * (x.length : Int)) = true := beq_iff_eq.mpr (by omega)
  have hpn : ((p.length : Int) != 8 + 8 * (x.length : Int)) = false := by rw [bne, hpe]; rfl
  have hp1000 : p.length ≤ 1000 := by omega
  have hrem : (a1 : Int) % ((p.length : Int) + 1) = (N_ : Int) := by rw [← hN, Int.natCast_emod]; rfl
  have HXL := Aside0.mk hxl
  have HPL := Aside0.mk hpl
  have HC0 := Aside0.mk hc0
  have HF1 := Aside0.mk hF1
  have HN1 := Aside0.mk hn1c
  have HHN := Aside0.mk hN
  have HAL := Aside0.mk hal
  clear hxl hpl hc0 hx hF1 hn1c hN hal
  refine (callsIn_wide (n := 10)).1 ?_
  refine callsIn_of_wp Try.func4 rfl trivial ?_ rfl
  simp only [Try.ntmps4, List.size_toArray, List.length_cons, List.length_nil, Nat.reduceAdd, Nat.reduceSub, Array.replicate_succ, Array.replicate_zero, List.push_toArray, List.append_toArray, List.nil_append, List.cons_append]
  gi_wp2_with fail
  refine ⟨trivial, ?_⟩
  refine (callsIn_wide.2 (creellaw10_shown.calls k true _ hs)).mono ?_
  rintro e wa ⟨rfl, hb1⟩
  have HB1 := Aside0.mk hb1
  clear hb1
  gi_wp2_with fail
  refine ⟨trivial, ?_⟩
  refine (callsIn_wide.2 (dump_Put.calls k A0 c0 x p _ (Kd.F_now (Kd.F_below HF1.out HB1.out)) HN1.out hp)).mono ?_
  rintro e wb ⟨v, rfl, hv, hb2⟩
  obtain ⟨Ap, cp, rfl⟩ := Kd.V_slice hv
  have HV1 := Aside0.mk hv
  have HB2 := Aside0.mk (below_step HB1.out hb2)
  clear hv hb2
  gi_wp2_with fail
  refine ⟨trivial, ?_⟩
  refine (callsIn_wide.2 (creellaw10_list.calls _ _ p all true _ (Kd.V_reads' HV1.out).2.2 (Kd.V_reads' HV1.out).2.1 hl1)).mono ?_
  rintro e wc ⟨v, rfl, hNa, hb3⟩
  obtain ⟨Ai, ci, rfl⟩ := Kd.N_slice hNa
  have hcp := (Kd.V_reads' HV1.out).2.1
  have hFp := Kd.F_below (Kd.C_F (Kd.heap_int .u8) (Kd.V_reads' HV1.out).2.2) hb3
  obtain ⟨n2, hn2, hn2c, hcut2, hF2⟩ := Hand.cut_take (P := Try.prog) 23 .i64 Try.underlying23 (by kernel_rfl) hFp hcp N_ hNl
  have hn2' : n2 = N_ := by rw [hn2, List.length_take]; omega
  rw [hn2'] at hcut2 hn2c
  have HF2 := Aside0.mk hF2
  have HN2 := Aside0.mk hn2
  have HN2C := Aside0.mk hn2c
  have HB3 := Aside0.mk (below_step HB2.out hb3)
  have HNA := Aside0.mk hNa
  clear hNa hb3 hFp hF2 hn2 hn2' hn2c hcp
  gi_wp2_with fail
  rw [hrem]
  refine ⟨trivial, ?_⟩
  have hct := creellaw10_list.calls Ap cp (p.take N_) some_ true wc (by have h5 := Kd.F_now HF2.out; rwa [HN2.out] at h5) (by rw [List.length_take]; have h6 := HN2C.out; omega) hl2
  rw [show (p.take N_).length = N_ from by rw [List.length_take]; omega] at hct
  refine (callsIn_wide.2 hct).mono ?_
  rintro e wd ⟨v, rfl, hNs, hb4⟩
  obtain ⟨As, cs, rfl⟩ := Kd.N_slice hNs
  have HNB := Aside0.mk (Kd.N_below HNA.out hb4)
  have HNS := Aside0.mk hNs
  have HB4 := Aside0.mk (below_step HB3.out hb4)
  have HXX := Aside0.mk (Kd.F_below HF1.out HB4.out)
  have hne2 : ((all.length : Int) != (x.length : Int)) = false := by rw [HAL.out]; simp
  have hal2 := HAL.out
  clear hNs hb4 hct HNA
-- LOOP
  gi_wp2_with fail
  have hwd := HB4.out.size
  refine wpIn_loop_ghost (fun j a B => ∃ (i : Nat) (f : Nat → Value), j = x.length - i ∧ i ≤ x.length ∧ Below wd.heap.size wd B ∧ a = { tmps := #[.slice A0 l0.length c0, .int .u16 a1, undef, undef, .bool false, .bool true, .slice A0 x.length c0, .slice Ap p.length cp, .slice Ai x.length ci, .bool true, .int .i64 N_, .slice As some_.length cs, .bool true, f 13, f 14, undef, undef, .bool true, .slice A0 l0.length c0, .slice A0 l0.length c0, .int .i64 l0.length, .int .i64 x.length, .slice A0 x.length c0, .slice A0 x.length c0, .slice Ap p.length cp, .slice Ap p.length cp, .int .i64 p.length, .slice A0 x.length c0, .int .i64 x.length, .int .i64 (8 * (x.length : Int)), .int .i64 (8 + 8 * (x.length : Int)), .bool false, .tuple #[.slice Ai x.length ci, .bool true], .slice Ap p.length cp, .tuple #[.slice Ai x.length ci, .bool true], .slice Ai x.length ci, .bool true, .int .u16 a1, .int .i64 a1, .slice Ap p.length cp, .int .i64 p.length, .int .i64 ((p.length : Int) + 1), .int .i64 N_, .tuple #[.slice As some_.length cs, .bool true], .slice Ap p.length cp, .int .i64 N_, .slice Ap N_ cp, .tuple #[.slice As some_.length cs, .bool true], .slice As some_.length cs, .bool true, .bool true, .bool false, .bool false, .bool true, .bool false, .bool false, .bool false, .slice Ai x.length ci, .int .i64 x.length, .slice A0 x.length c0, .int .i64 x.length, .bool false, .bool false, .slice Ai x.length ci, .int .i64 x.length, .int .i64 i, f 66, f 67, f 68, f 69, f 70, f 71, f 72, f 73, f 74, f 75, f 76, f 77, f 78, f 79, f 80, f 81, f 82, f 83, f 84, f 85, f 86, f 87, f 88, f 89, f 90, f 91, f 92, f 93, f 94, f 95, f 96, undef, undef, undef, undef, undef, undef, undef, undef, undef, undef, undef, undef, undef, undef, undef, undef, undef, undef, undef, undef, undef, undef, undef, undef, undef, undef, undef, undef, undef, undef, undef, undef, undef, undef, undef, undef, undef, undef, undef], defers := [] }) x.length ?start ?round
  case start => exact ⟨0, fun _ => undef, rfl, Nat.zero_le _, Below.refl _ _, rfl⟩
  case round =>
    rintro j a B ⟨i, f, rfl, hix, hB, rfl⟩
    by_cases hi : i < x.length
    · have hix2 : (i : Int) < (x.length : Int) := by omega
      have hCa := Kd.C_below (Kd.N_reads' HNB.out).2.2 hB
      obtain ⟨ad, A1, c1, A2, c2, rfl, h0, h1, h2, h3, h4, h5, h6, h7, h8⟩ := at_T36 hCa (i : Int) (by omega) (by rw [HAL.out]; omega)
      simp only [Int.toNat_natCast] at h0 h1 h2 h3 h4
      obtain ⟨y, hy⟩ : ∃ y, rd_T36 all (i : Int) = y := ⟨_, rfl⟩
      rw [hy] at h0 h1 h2 h3 h4 h5 h6 h7 h8
      obtain ⟨hy0, hy3, hs1, hs2, k2, t, ht, hts⟩ := hit i hi
      rw [hy] at hy0 hy3 hts hs1 hs2
      rw [hy0] at h0
      rw [hy3] at h3
      obtain ⟨adx, hadx, hx0, hx1⟩ := at_T38 (Kd.F_now (Kd.F_below HXX.out hB)) (i : Int) (by omega) (by omega)
      simp only [Int.toNat_natCast] at hx0 hx1
      generalize hxe : rd_T38 x (i : Int) = xe at *
      gi_wp2_with fail
      obtain ⟨W1, hW1⟩ : ∃ W1, (B.alloc (Obj.cells #[Value.bool true, Value.slice A1 y.f1.length c1, Value.slice A2 y.f2.length c2, Value.int .i64 0, Value.int .i64 y.f4] 36)) = W1 := ⟨_, rfl⟩
      first | rw [hW1] | skip
      refine Hand.calm ?_
      refine wpIn_region_any (by kernel_rfl) ?_
      change wpAnyIn _ _ _ _ _ _ _ _ _ (World.drew _)
      have hlt1 : B.heap.size < W1.drew.heap.size := by rw [← hW1]; show _ < (B.alloc _).heap.size; rw [World.size_alloc]; omega
      have hbW : Below B.heap.size B W1.drew := by rw [← hW1]; exact ((Below.refl _ _).alloc (Nat.le_refl _) _).drew
      have hbxc : W1.drew.heap[B.heap.size]? = some (.cells #[.bool true, .slice A1 y.f1.length c1, .slice A2 y.f2.length c2, .int .i64 0, .int .i64 y.f4] 36) := by rw [← hW1]; exact heap_alloc_new _ _
      have HH6 := Aside0.mk (Kd.C_below h6 hbW)
      have HH8 := Aside0.mk (Kd.C_below h8 hbW)
      have ltc : ∀ {q : Addr} {v : Value}, B.cell? q = some v → W1.drew.cell? q = some v := fun h => (hbW.cell (World.block_lt_of_cell? _ _ h)).trans h
      have hy0' := ltc hx0
      have hy1' := ltc hx1
      have HX0 := Aside0.mk hy0'
      have HX1 := Aside0.mk hy1'
      have HTS := Aside0.mk hts
      have HT := Aside0.mk ht
      have HBXC := Aside0.mk hbxc
      have HBW := Aside0.mk hbW
      clear h0 h1 h2 h3 h4 h6 h8 hx0 hx1 hy0' hy1' hW1 hbxc hts ht hy hy0 hy3 hbW ltc
      refine Hand.region_inv (fun g => { tmps := #[.slice (some adx) l0.length c0, .int .u16 a1, undef, undef, .bool false, .bool true, .slice (some adx) x.length c0, .slice Ap p.length cp, .slice (some ad) x.length ci, .bool true, .int .i64 N_, .slice As some_.length cs, .bool true, .int .i64 i, .pointer (some ⟨B.heap.size, 0, none⟩), undef, undef, .bool true, .slice (some adx) l0.length c0, .slice (some adx) l0.length c0, .int .i64 l0.length, .int .i64 x.length, .slice (some adx) x.length c0, .slice (some adx) x.length c0, .slice Ap p.length cp, .slice Ap p.length cp, .int .i64 p.length, .slice (some adx) x.length c0, .int .i64 x.length, .int .i64 (8 * (x.length : Int)), .int .i64 (8 + 8 * (x.length : Int)), .bool false, .tuple #[.slice (some ad) x.length ci, .bool true], .slice Ap p.length cp, .tuple #[.slice (some ad) x.length ci, .bool true], .slice (some ad) x.length ci, .bool true, .int .u16 a1, .int .i64 a1, .slice Ap p.length cp, .int .i64 p.length, .int .i64 ((p.length : Int) + 1), .int .i64 N_, .tuple #[.slice As some_.length cs, .bool true], .slice Ap p.length cp, .int .i64 N_, .slice Ap N_ cp, .tuple #[.slice As some_.length cs, .bool true], .slice As some_.length cs, .bool true, .bool true, .bool false, .bool false, .bool true, .bool false, .bool false, .bool false, .slice (some ad) x.length ci, .int .i64 x.length, .slice (some adx) x.length c0, .int .i64 x.length, .bool false, .bool false, .slice (some ad) x.length ci, .int .i64 x.length, .int .i64 i, .bool true, .int .i64 i, .pointer (some (ad.add (i * 5))), .agg #[.bool true, .slice A1 y.f1.length c1, .slice A2 y.f2.length c2, .int .i64 0, .int .i64 y.f4], g 0, g 1, g 2, g 3, g 4, g 5, g 6, g 7, g 8, g 9, g 10, g 11, g 12, g 13, g 14, g 15, g 16, g 17, g 18, g 19, g 20, g 21, g 22, g 23, g 24, g 25, f 96, undef, undef, undef, undef, undef, undef, undef, undef, undef, undef, undef, undef, undef, undef, undef, undef, undef, undef, undef, undef, undef, undef, undef, undef, undef, undef, undef, undef, undef, undef, undef, undef, undef, undef, undef, undef, undef, undef, undef], defers := [] }) (fun j v W' => match j with | 0 => v = .pointer (some ⟨B.heap.size, 0, none⟩) | 1 => v = .bool true | 2 => v = .bool false | 3 => v = .bool false | 4 => v = .pointer (some ⟨B.heap.size, 3, none⟩) | 5 => v = .int .i64 0 | 6 => v = .bool false | 7 => v = .bool false | 8 => v = .bool false | 9 => v = .slice (some adx) x.length c0 | 10 => v = .int .i64 i | 11 => v = .pointer (some (adx.add (i * 2))) | 12 => v = .agg #[.int .u32 xe.f0, .int .u32 xe.f1] | 13 => ∃ q, v = .slice (some ⟨q, 0, none⟩) 1 1 ∧ W'.heap[q]? = some (.cells #[.int .u32 xe.f0, .int .u32 xe.f1] 38) | 14 => ∃ q cq, v = .slice q t.length cq ∧ t.length ≤ cq ∧ Kd.C (Kd.int .u8) W' q t.length t | 15 => v = .string (strOfNums t) | 16 => v = .pointer (some ⟨B.heap.size, 1, none⟩) | 17 => v = .slice A1 y.f1.length c1 | 18 => v = .string (strOfNums y.f1) | 19 => v = .string ((⟨#[99, 114, 101, 101, 108, 100, 109, 112]⟩ : ByteArray) ++ strOfNums y.f1) | 20 => v = .pointer (some ⟨B.heap.size, 2, none⟩) | 21 => v = .slice A2 y.f2.length c2 | 22 => v = .string (strOfNums y.f2) | 23 => v = .string (((⟨#[99, 114, 101, 101, 108, 100, 109, 112]⟩ : ByteArray) ++ strOfNums y.f1) ++ strOfNums y.f2) | 24 => v = .bool false | 25 => v = .bool false | _ => True) (fun W' => Below W1.drew.heap.size W1.drew W') (Hand.depOk_spec (by kernel_rfl)) ?hstep ?hfin _ _ (fun j => f (70 + j)) _ (by simp) (by simp) (Below.refl _ _) (fun j h => by simp [Array.getD] at h)
      case hfin =>
        intro g w' hI hV
        have d25 : g 25 = .bool false := hV 25 (by decide)
        clear hV
        have hBw := hB.trans ((HBW.out.trans (hI.mono HBW.out.size)).mono hB.size)
        simp only [Exit.then]
        go_at_K
        rw [d25]
        gi_wp2_with fail
        refine ⟨x.length - (i + 1), by omega, i + 1, fun j => if j = 13 then .int .i64 i else if j = 14 then .pointer (some ⟨B.heap.size, 0, none⟩) else if j = 66 then .bool true else if j = 67 then .int .i64 i else if j = 68 then .pointer (some (ad.add (i * 5))) else if j = 69 then .agg #[.bool true, .slice A1 y.f1.length c1, .slice A2 y.f2.length c2, .int .i64 0, .int .i64 y.f4] else if j = 96 then .int .i64 ((i : Int) + 1) else g (j - 70), rfl, by omega, hBw, ?_⟩
        simp [d25]
        exact hadx.symm
      case hstep =>
        intro j o g w' L ho hI hV hd
        have hbw := (hI.block _ hlt1).trans HBXC.out
        have b0 : w'.cell? ⟨B.heap.size, 0, none⟩ = some (.bool true) := cell_of_row _ _ _ _ _ _ hbw
        have b1 : w'.cell? ⟨B.heap.size, 1, none⟩ = some (.slice A1 y.f1.length c1) := cell_of_row _ _ _ _ _ _ hbw
        have b2 : w'.cell? ⟨B.heap.size, 2, none⟩ = some (.slice A2 y.f2.length c2) := cell_of_row _ _ _ _ _ _ hbw
        have b3 : w'.cell? ⟨B.heap.size, 3, none⟩ = some (.int .i64 0) := cell_of_row _ _ _ _ _ _ hbw
        have b4 : w'.cell? ⟨B.heap.size, 4, none⟩ = some (.int .i64 y.f4) := cell_of_row _ _ _ _ _ _ hbw
        have z0 := (hI.cell (World.block_lt_of_cell? _ _ HX0.out)).trans HX0.out
        have z1 := (hI.cell (World.block_lt_of_cell? _ _ HX1.out)).trans HX1.out
        have HBV := Aside0.mk hbw
        have HIV := Aside0.mk hI
        clear hbw hI
        rcases j with _ | _ | _ | _ | _ | _ | _ | _ | _ | _ | _ | _ | _ | _ | _ | _ | _ | _ | _ | _ | _ | _ | _ | _ | _ | _ | j
        · obtain rfl := Option.some.inj ho
          clear ho hd hV
          refine Hand.opIn_of rfl (fun K hK => ?_)
          go_simp
          exact hK _ _ ⟨.pointer (some ⟨B.heap.size, 0, none⟩), by simp [Hand.upd], rfl, HIV.out, fun _ _ h => h⟩
        · obtain rfl := Option.some.inj ho
          have d0 : g 0 = .pointer (some ⟨B.heap.size, 0, none⟩) := hV 0 (hd { on := 0, ground := Ground.data } (by simp) rfl)
          clear ho hd hV
          refine Hand.opIn_of rfl (fun K hK => ?_)
          go_simp
          exact hK _ _ ⟨.bool true, by simp [Hand.upd, d0], rfl, HIV.out, fun _ _ h => h⟩
        · obtain rfl := Option.some.inj ho
          have d1 : g 1 = .bool true := hV 1 (hd { on := 1, ground := Ground.data } (by simp) rfl)
          clear ho hd hV
          refine Hand.opIn_of rfl (fun K hK => ?_)
          go_simp
          exact hK _ _ ⟨.bool false, by simp [Hand.upd, d1], rfl, HIV.out, fun _ _ h => h⟩
        · obtain rfl := Option.some.inj ho
          have d2 : g 2 = .bool false := hV 2 (hd { on := 2, ground := Ground.data } (by simp) rfl)
          clear ho hd hV
          refine Hand.opIn_of rfl (fun K hK => ?_)
          go_simp
          exact hK _ _ ⟨.bool false, by simp [Hand.upd, d2], rfl, HIV.out, fun _ _ h => h⟩
        · obtain rfl := Option.some.inj ho
          have d3 : g 3 = .bool false := hV 3 (hd { on := 3, ground := Ground.guard } (by simp) rfl)
          clear ho hd hV
          refine Hand.opIn_of rfl (fun K hK => ?_)
          go_simp
          exact hK _ _ ⟨.pointer (some ⟨B.heap.size, 3, none⟩), by simp [Hand.upd, d3], rfl, HIV.out, fun _ _ h => h⟩
        · obtain rfl := Option.some.inj ho
          have d4 : g 4 = .pointer (some ⟨B.heap.size, 3, none⟩) := hV 4 (hd { on := 4, ground := Ground.data } (by simp) rfl)
          have d3 : g 3 = .bool false := hV 3 (hd { on := 3, ground := Ground.guard } (by simp) rfl)
          clear ho hd hV
          refine Hand.opIn_of rfl (fun K hK => ?_)
          go_simp
          exact hK _ _ ⟨.int .i64 0, by simp [Hand.upd, d4, d3], rfl, HIV.out, fun _ _ h => h⟩
        · obtain rfl := Option.some.inj ho
          have d5 : g 5 = .int .i64 0 := hV 5 (hd { on := 5, ground := Ground.data } (by simp) rfl)
          have d3 : g 3 = .bool false := hV 3 (hd { on := 3, ground := Ground.guard } (by simp) rfl)
          clear ho hd hV
          refine Hand.opIn_of rfl (fun K hK => ?_)
          go_simp
          exact hK _ _ ⟨.bool false, by simp [Hand.upd, d5, d3], rfl, HIV.out, fun _ _ h => h⟩
        · obtain rfl := Option.some.inj ho
          have d3 : g 3 = .bool false := hV 3 (hd { on := 3, ground := Ground.data } (by simp) rfl)
          have d6 : g 6 = .bool false := hV 6 (hd { on := 6, ground := Ground.data } (by simp) rfl)
          clear ho hd hV
          refine Hand.opIn_of rfl (fun K hK => ?_)
          go_simp
          exact hK _ _ ⟨.bool false, by simp [Hand.upd, d3, d6], rfl, HIV.out, fun _ _ h => h⟩
        · obtain rfl := Option.some.inj ho
          have d7 : g 7 = .bool false := hV 7 (hd { on := 7, ground := Ground.data } (by simp) rfl)
          clear ho hd hV
          refine Hand.opIn_of rfl (fun K hK => ?_)
          go_simp
          exact hK _ _ ⟨.bool false, by simp [Hand.upd, d7], rfl, HIV.out, fun _ _ h => h⟩
        · obtain rfl := Option.some.inj ho
          have d8 : g 8 = .bool false := hV 8 (hd { on := 8, ground := Ground.guard } (by simp) rfl)
          clear ho hd hV
          refine Hand.opIn_of rfl (fun K hK => ?_)
          go_simp
          exact hK _ _ ⟨.slice (some adx) x.length c0, by simp [Hand.upd, d8], rfl, HIV.out, fun _ _ h => h⟩
        · obtain rfl := Option.some.inj ho
          have d8 : g 8 = .bool false := hV 8 (hd { on := 8, ground := Ground.guard } (by simp) rfl)
          clear ho hd hV
          refine Hand.opIn_of rfl (fun K hK => ?_)
          go_simp
          exact hK _ _ ⟨.int .i64 i, by simp [Hand.upd, d8], rfl, HIV.out, fun _ _ h => h⟩
        · obtain rfl := Option.some.inj ho
          have d9 : g 9 = .slice (some adx) x.length c0 := hV 9 (hd { on := 9, ground := Ground.data } (by simp) rfl)
          have d10 : g 10 = .int .i64 i := hV 10 (hd { on := 10, ground := Ground.data } (by simp) rfl)
          have d8 : g 8 = .bool false := hV 8 (hd { on := 8, ground := Ground.guard } (by simp) rfl)
          clear ho hd hV
          refine Hand.opIn_of rfl (fun K hK => ?_)
          go_simp
          exact hK _ _ ⟨.pointer (some (adx.add (i * 2))), by simp [Hand.upd, d9, d10, d8], rfl, HIV.out, fun _ _ h => h⟩
        · obtain rfl := Option.some.inj ho
          have d11 : g 11 = .pointer (some (adx.add (i * 2))) := hV 11 (hd { on := 11, ground := Ground.data } (by simp) rfl)
          have d8 : g 8 = .bool false := hV 8 (hd { on := 8, ground := Ground.guard } (by simp) rfl)
          clear ho hd hV
          refine Hand.opIn_of rfl (fun K hK => ?_)
          go_simp
          exact hK _ _ ⟨.agg #[.int .u32 xe.f0, .int .u32 xe.f1], by simp [Hand.upd, d11, d8], rfl, HIV.out, fun _ _ h => h⟩
        · obtain rfl := Option.some.inj ho
          have d12 : g 12 = .agg #[.int .u32 xe.f0, .int .u32 xe.f1] := hV 12 (hd { on := 12, ground := Ground.data } (by simp) rfl)
          have d8 : g 8 = .bool false := hV 8 (hd { on := 8, ground := Ground.guard } (by simp) rfl)
          clear ho hd hV
          refine Hand.opIn_of rfl (fun K hK => ?_)
          go_simp
          have hb : Below w'.heap.size w' (w'.alloc (.cells #[.int .u32 xe.f0, .int .u32 xe.f1] 38)) := (Below.refl _ _).alloc (Nat.le_refl _) _
          refine hK _ _ ⟨.slice (some ⟨w'.heap.size, 0, none⟩) 1 1, by simp [Hand.upd, d12, d8], ⟨_, rfl, heap_alloc_new _ _⟩, HIV.out.trans (hb.mono HIV.out.size), ?_⟩
          intro jj vv h
          rcases jj with _ | _ | _ | _ | _ | _ | _ | _ | _ | _ | _ | _ | _ | _ | _ | _ | _ | _ | _ | _ | _ | _ | _ | _ | _ | _ | jj
          · exact h
          · exact h
          · exact h
          · exact h
          · exact h
          · exact h
          · exact h
          · exact h
          · exact h
          · exact h
          · exact h
          · exact h
          · exact h
          · obtain ⟨q, e, hq⟩ := h; exact ⟨q, e, (hb.block _ (Array.getElem?_eq_some_iff.1 hq).1).trans hq⟩
          · obtain ⟨q, cq, e, h1, h2⟩ := h; exact ⟨q, cq, e, h1, Kd.C_below h2 hb⟩
          · exact h
          · exact h
          · exact h
          · exact h
          · exact h
          · exact h
          · exact h
          · exact h
          · exact h
          · exact h
          · exact h
          · trivial
        · obtain rfl := Option.some.inj ho
          have d13 : ∃ q, g 13 = .slice (some ⟨q, 0, none⟩) 1 1 ∧ w'.heap[q]? = some (.cells #[.int .u32 xe.f0, .int .u32 xe.f1] 38) := hV 13 (hd { on := 13, ground := Ground.data } (by simp) rfl)
          have d8 : g 8 = .bool false := hV 8 (hd { on := 8, ground := Ground.guard } (by simp) rfl)
          clear ho hd hV
          obtain ⟨q, hq, hqc⟩ := d13
          have hCx : Kd.C k38 w' (some ⟨q, 0, none⟩) [xe].length [xe] := by
            refine ⟨rfl, by show 1 ≤ 9223372036854775807; decide, fun _ => ⟨_, rfl, fun jj pp hj => ?_⟩⟩
            obtain _ | jj := jj
            · obtain rfl : xe = pp := by simpa using hj
              refine ⟨_, rfl, k38_mk _ xe, fun ii u hu => ?_⟩
              obtain _ | _ | ii := ii
              · obtain rfl : _ = u := Option.some.inj hu
                exact cell_of_row _ _ _ _ _ _ hqc
              · obtain rfl : _ = u := Option.some.inj hu
                exact cell_of_row _ _ _ _ _ _ hqc
              · simp at hu
            · simp at hj
          refine Hand.opIn_of rfl (fun K hK => ?_)
          go_simp
          refine ⟨trivial, ?_⟩
          refine (callsIn_wide.2 (dump_Put.calls k2 (some ⟨q, 0, none⟩) 1 [xe] t _ hCx (Nat.le_refl _) HT.out)).mono ?_
          rintro e w2 ⟨v, rfl, hv, hb⟩
          obtain ⟨Aq, cq, rfl⟩ := Kd.V_slice hv
          obtain ⟨-, hvc, hvC⟩ := Kd.V_reads' hv
          refine hK _ _ ⟨.slice Aq t.length cq, by simp [Hand.upd, hq, d8], ⟨_, _, rfl, hvc, hvC⟩, HIV.out.trans (hb.mono HIV.out.size), ?_⟩
          intro jj vv h
          rcases jj with _ | _ | _ | _ | _ | _ | _ | _ | _ | _ | _ | _ | _ | _ | _ | _ | _ | _ | _ | _ | _ | _ | _ | _ | _ | _ | jj
          · exact h
          · exact h
          · exact h
          · exact h
          · exact h
          · exact h
          · exact h
          · exact h
          · exact h
          · exact h
          · exact h
          · exact h
          · exact h
          · obtain ⟨q, e, hq⟩ := h; exact ⟨q, e, (hb.block _ (Array.getElem?_eq_some_iff.1 hq).1).trans hq⟩
          · obtain ⟨q, cq, e, h1, h2⟩ := h; exact ⟨q, cq, e, h1, Kd.C_below h2 hb⟩
          · exact h
          · exact h
          · exact h
          · exact h
          · exact h
          · exact h
          · exact h
          · exact h
          · exact h
          · exact h
          · exact h
          · trivial
        · obtain rfl := Option.some.inj ho
          have d14 : ∃ q cq, g 14 = .slice q t.length cq ∧ t.length ≤ cq ∧ Kd.C (Kd.int .u8) w' q t.length t := hV 14 (hd { on := 14, ground := Ground.data } (by simp) rfl)
          have d8 : g 8 = .bool false := hV 8 (hd { on := 8, ground := Ground.guard } (by simp) rfl)
          clear ho hd hV
          obtain ⟨q, cq, hq, hqc, hqC⟩ := d14
          have hcv := Kd.C_string (P := Try.prog) (A := q) (c := cq) (xs := t) Try.underlying23 Try.underlying5 Try.underlying9 hqC
          refine Hand.opIn_of rfl (fun K hK => ?_)
          go_simp
          exact hK _ _ ⟨.string (strOfNums t), by simp [Hand.upd, hq, d8], rfl, HIV.out, fun _ _ h => h⟩
        · obtain rfl := Option.some.inj ho
          have d8 : g 8 = .bool false := hV 8 (hd { on := 8, ground := Ground.guard } (by simp) rfl)
          clear ho hd hV
          refine Hand.opIn_of rfl (fun K hK => ?_)
          go_simp
          exact hK _ _ ⟨.pointer (some ⟨B.heap.size, 1, none⟩), by simp [Hand.upd, d8], rfl, HIV.out, fun _ _ h => h⟩
        · obtain rfl := Option.some.inj ho
          have d16 : g 16 = .pointer (some ⟨B.heap.size, 1, none⟩) := hV 16 (hd { on := 16, ground := Ground.data } (by simp) rfl)
          have d8 : g 8 = .bool false := hV 8 (hd { on := 8, ground := Ground.guard } (by simp) rfl)
          clear ho hd hV
          refine Hand.opIn_of rfl (fun K hK => ?_)
          go_simp
          exact hK _ _ ⟨.slice A1 y.f1.length c1, by simp [Hand.upd, d16, d8], rfl, HIV.out, fun _ _ h => h⟩
        · obtain rfl := Option.some.inj ho
          have d17 : g 17 = .slice A1 y.f1.length c1 := hV 17 (hd { on := 17, ground := Ground.data } (by simp) rfl)
          have d8 : g 8 = .bool false := hV 8 (hd { on := 8, ground := Ground.guard } (by simp) rfl)
          clear ho hd hV
          have hcv := Kd.C_string (P := Try.prog) (A := A1) (c := c1) (xs := y.f1) Try.underlying23 Try.underlying5 Try.underlying9 (Kd.C_below HH6.out HIV.out)
          refine Hand.opIn_of rfl (fun K hK => ?_)
          go_simp
          exact hK _ _ ⟨.string (strOfNums y.f1), by simp [Hand.upd, d17, d8], rfl, HIV.out, fun _ _ h => h⟩
        · obtain rfl := Option.some.inj ho
          have d18 : g 18 = .string (strOfNums y.f1) := hV 18 (hd { on := 18, ground := Ground.data } (by simp) rfl)
          have d8 : g 8 = .bool false := hV 8 (hd { on := 8, ground := Ground.guard } (by simp) rfl)
          clear ho hd hV
          refine Hand.opIn_of rfl (fun K hK => ?_)
          go_simp
          rw [if_neg (by omega)]
          go_simp
          exact hK _ _ ⟨.string ((⟨#[99, 114, 101, 101, 108, 100, 109, 112]⟩ : ByteArray) ++ strOfNums y.f1), by simp [Hand.upd, d18, d8], rfl, HIV.out, fun _ _ h => h⟩
        · obtain rfl := Option.some.inj ho
          have d8 : g 8 = .bool false := hV 8 (hd { on := 8, ground := Ground.guard } (by simp) rfl)
          clear ho hd hV
          refine Hand.opIn_of rfl (fun K hK => ?_)
          go_simp
          exact hK _ _ ⟨.pointer (some ⟨B.heap.size, 2, none⟩), by simp [Hand.upd, d8], rfl, HIV.out, fun _ _ h => h⟩
        · obtain rfl := Option.some.inj ho
          have d20 : g 20 = .pointer (some ⟨B.heap.size, 2, none⟩) := hV 20 (hd { on := 20, ground := Ground.data } (by simp) rfl)
          have d8 : g 8 = .bool false := hV 8 (hd { on := 8, ground := Ground.guard } (by simp) rfl)
          clear ho hd hV
          refine Hand.opIn_of rfl (fun K hK => ?_)
          go_simp
          exact hK _ _ ⟨.slice A2 y.f2.length c2, by simp [Hand.upd, d20, d8], rfl, HIV.out, fun _ _ h => h⟩
        · obtain rfl := Option.some.inj ho
          have d21 : g 21 = .slice A2 y.f2.length c2 := hV 21 (hd { on := 21, ground := Ground.data } (by simp) rfl)
          have d8 : g 8 = .bool false := hV 8 (hd { on := 8, ground := Ground.guard } (by simp) rfl)
          clear ho hd hV
          have hcv := Kd.C_string (P := Try.prog) (A := A2) (c := c2) (xs := y.f2) Try.underlying23 Try.underlying5 Try.underlying9 (Kd.C_below HH8.out HIV.out)
          refine Hand.opIn_of rfl (fun K hK => ?_)
          go_simp
          exact hK _ _ ⟨.string (strOfNums y.f2), by simp [Hand.upd, d21, d8], rfl, HIV.out, fun _ _ h => h⟩
        · obtain rfl := Option.some.inj ho
          have d19 : g 19 = .string ((⟨#[99, 114, 101, 101, 108, 100, 109, 112]⟩ : ByteArray) ++ strOfNums y.f1) := hV 19 (hd { on := 19, ground := Ground.data } (by simp) rfl)
          have d22 : g 22 = .string (strOfNums y.f2) := hV 22 (hd { on := 22, ground := Ground.data } (by simp) rfl)
          have d8 : g 8 = .bool false := hV 8 (hd { on := 8, ground := Ground.guard } (by simp) rfl)
          clear ho hd hV
          refine Hand.opIn_of rfl (fun K hK => ?_)
          go_simp
          rw [if_neg (by omega)]
          go_simp
          exact hK _ _ ⟨.string (((⟨#[99, 114, 101, 101, 108, 100, 109, 112]⟩ : ByteArray) ++ strOfNums y.f1) ++ strOfNums y.f2), by simp [Hand.upd, d19, d22, d8], rfl, HIV.out, fun _ _ h => h⟩
        · obtain rfl := Option.some.inj ho
          have d15 : g 15 = .string (strOfNums t) := hV 15 (hd { on := 15, ground := Ground.data } (by simp) rfl)
          have d23 : g 23 = .string (((⟨#[99, 114, 101, 101, 108, 100, 109, 112]⟩ : ByteArray) ++ strOfNums y.f1) ++ strOfNums y.f2) := hV 23 (hd { on := 23, ground := Ground.data } (by simp) rfl)
          have d8 : g 8 = .bool false := hV 8 (hd { on := 8, ground := Ground.guard } (by simp) rfl)
          clear ho hd hV
          have hse : (strOfNums t).toList = (((⟨#[99, 114, 101, 101, 108, 100, 109, 112]⟩ : ByteArray) ++ strOfNums y.f1) ++ strOfNums y.f2).toList := HTS.out
          refine Hand.opIn_of rfl (fun K hK => ?_)
          go_simp
          exact hK _ _ ⟨.bool false, by simp [Hand.upd, d15, d23, d8], rfl, HIV.out, fun _ _ h => h⟩
        · obtain rfl := Option.some.inj ho
          have d8 : g 8 = .bool false := hV 8 (hd { on := 8, ground := Ground.data } (by simp) rfl)
          have d24 : g 24 = .bool false := hV 24 (hd { on := 24, ground := Ground.data } (by simp) rfl)
          clear ho hd hV
          refine Hand.opIn_of rfl (fun K hK => ?_)
          go_simp
          exact hK _ _ ⟨.bool false, by simp [Hand.upd, d8, d24], rfl, HIV.out, fun _ _ h => h⟩
        · simp at ho
    · have e1 : decide ((i : Int) < (x.length : Int)) = false := decide_eq_false (by omega)
      by_cases h8 : N_ < 8
      · have e8 : decide ((N_ : Int) < 8) = true := decide_eq_true (by omega)
        obtain ⟨hso1, hso2⟩ := hshort h8
        obtain ⟨ads, s1, e1_, s2, e2_, rfl, g0, g1, g2, g3, g4, -⟩ := at_T36 (Kd.C_below (Kd.N_reads' HNS.out).2.2 hB) 0 (by omega) (by rw [hso1]; decide)
        rw [hso2] at g3
        have hz : ads.add ((0 : Int).toNat * 5) = ads := by unfold Addr.add; split <;> simp_all
        rw [hz] at g3
        clear g0 g1 g2 g4 hz
        have hone : ((some_.length : Int) == 1) = true := beq_iff_eq.mpr (by omega)
        gi_wp2_with fail
        refine bodyPost_ret (results_tmp rfl _ _ _) rfl ?_
        exact ⟨rfl, HB4.out.trans (hB.mono hwd)⟩
      · have e8 : decide ((N_ : Int) < 8) = false := decide_eq_false (by omega)
        have hwant := hlong h8
        obtain ⟨kk, hkk⟩ : ∃ kk, (N_ - 8) / 8 = kk := ⟨_, rfl⟩
        rw [hkk] at hwant
        have hq1 : ((N_ : Int) - 8) / 8 = (kk : Int) := by omega
        have hkx : kk ≤ x.length := by have := HPL.out; omega
        have hFa := Kd.F_below ((Hand.N_view HNB.out).2.2) (hB.mono (Nat.le_refl _))
        have hci := (Hand.N_view HNB.out).2.1
        obtain ⟨n5, hn5, hn5c, hcut5, hF5⟩ := Hand.cut_take (P := Try.prog) 24 .i64 Try.underlying24 (by kernel_rfl) hFa hci kk (by have := HAL.out; omega)
        have hn6 : n5 = kk := by rw [hn5, List.length_take]; have := HAL.out; omega
        rw [hn6, HAL.out] at hcut5
        rw [hn6] at hF5
        have HF5 := Aside0.mk hF5
        have HWT := Aside0.mk hwant
        have hp0 : (0 : Int) ≤ (N_ : Int) - 8 := by omega
        have hN9 : (N_ : Int) ≤ 1000 := by omega
        clear hFa hF5 hn5 hn6 hn5c hwant
        gi_wp2_with (refine Hand.stop_list (o := { dst := some 119, op := _, type := _, pos := _, after := _, guard := _ }) ?_)
        refine ⟨?_⟩
        refine Hand.list_wide ?_
        have hba : Below B.heap.size B (B.alloc (Obj.cells #[] 36)) := (Below.refl _ _).alloc (Nat.le_refl _) _
        refine Kd.N_append_rows_step k36 (w0 := B) B.heap.size (by rfl) (.tmp 115) (.tmp 118) 24 36 (.agg #[(.bool false), (.slice none 0 0), (.slice none 0 0), (.int .i64 0), (.int .i64 0)]) 72 (by rfl) Try.underlying24 creellaw10_list.info rfl (by decide) (by decide) (.slice (some ⟨B.heap.size, 0, none⟩) 0 0) [] (all.take kk) Ai kk ci (fun _ => True) (fun k_ => k_ < B.heap.size) (by rfl) (by rfl) (Hand.N_lit0' k36 36 _ rfl (Nat.le_refl _) trivial) (Kd.F_mono (Kd.F_below HF5.out hba) (fun k_ h => Nat.lt_of_lt_of_le h.2 hB.size)) (fun k_ h => ⟨trivial, fun e => by simp [Value.ownBlock] at e; omega⟩) (fun _ _ => trivial) hba (by simp) (by simp; omega) ?_
        intro v1 w1 hN1 hB1 hg1 hob1
        rw [List.nil_append] at hN1
        obtain ⟨Av, cv, rfl⟩ := Kd.N_slice hN1
        have htl : (all.take kk).length = kk := by rw [List.length_take]; have := HAL.out; omega
        rw [htl] at hN1 hob1 ⊢
        have HN1_ := Aside0.mk hN1
        have HCS := Aside0.mk (Kd.C_below (Kd.C_below (Kd.N_reads' HNS.out).2.2 hB) hB1)
        have hcs := (Kd.N_reads' HNS.out).2.1
        have HB1_ := Aside0.mk hB1
        have hkk2 : (kk : Int) ≤ 1000 := by omega
        clear hN1 hg1 hob1 hB1
        simp only [Act.put]
        by_cases hm : N_ % 8 = 0
        · have hq3 : (N_ : Int) % 8 = 0 := by omega
          obtain ⟨k3, hsame⟩ := HWT.out (all.take kk) (by rw [if_pos hm, List.append_nil])
          gi_wp2_with fail
          refine ⟨trivial, ?_⟩
          have hC1 := Kd.N_reads' HN1_.out
          have hcall := creelref08_SameAll.calls k3 As cs some_ Av cv (all.take kk) true w1 HCS.out hcs (by have := hC1.2.2; first | exact this | (rw [htl] at this ⊢; exact this) | (rw [htl]; exact this)) (by rw [htl]; exact hC1.2.1) hsame
          rw [htl] at hcall
          refine (callsIn_wide.2 hcall).mono ?_
          rintro e w2 ⟨rfl, hb2⟩
          have HFIN : Aside0 (Below w.heap.size w w2) := ⟨(HB4.out.trans (hB.mono hwd)).trans ((HB1_.out.mono (Nat.le_trans hwd hB.size)).trans (hb2.mono (Nat.le_trans (Nat.le_trans hwd hB.size) HB1_.out.size)))⟩
          clear hcall hC1 hsame htl hb2 hq3 hq1 hcut5 hrem
          gi_wp2_with fail
          refine bodyPost_ret (results_tmp rfl _ _ _) rfl ?_
          exact ⟨rfl, HFIN.out⟩
        · have hq3 : (N_ : Int) % 8 = ((N_ % 8 : Nat) : Int) := by omega
          have hq4 : (((N_ : Int) % 8) == 0) = false := beq_eq_false_iff_ne.mpr (by omega)
          have hq5 : (((N_ : Int) % 8) != 0) = true := bne_iff_ne.mpr (by omega)
          have HQ3 := Aside0.mk hq3
          clear hq3
          gi_wp2_with (refine Hand.stop_list (o := { dst := some 129, op := _, type := _, pos := _, after := _, guard := _ }) ?_)
          refine ⟨?_⟩
          refine Hand.list_wide ?_
          refine Kd.N_append_step k36 (w0 := w1) B.heap.size (by rfl) (.tmp 123) (.tmp 128) 24 36 (.agg #[(.bool false), (.slice none 0 0), (.slice none 0 0), (.int .i64 0), (.int .i64 0)]) 72 (by rfl) Try.underlying24 creellaw10_list.info rfl (by decide) (by decide) (.slice Av kk cv) (all.take kk) ⟨false, [], [], 5, 8 + 8 * (kk : Int)⟩ [.bool false, .slice none 0 0, .slice none 0 0, .int .i64 5, .int .i64 (8 + 8 * (kk : Int))] (fun _ => True) (fun _ => False) (by rfl) (by rfl) (k36_mkF w1 _ ⟨false, [], [], 5, 8 + 8 * (kk : Int)⟩ (Nat.le_refl _) (Kd.F_nil _ _ _) (Nat.le_refl _) (Kd.F_nil _ _ _)) (fun _ h => h.elim) (fun _ _ => trivial) HN1_.out (Below.refl _ _) HB1_.out.size (by rw [htl]; omega) ?_
          intro v2 w2 hN2 hB2 hg2 hob2
          obtain ⟨Aw, cw, rfl⟩ := Kd.N_slice hN2
          obtain ⟨want, hwa⟩ : ∃ want, all.take kk ++ [(⟨false, [], [], 5, 8 + 8 * (kk : Int)⟩ : S36)] = want := ⟨_, rfl⟩
          rw [hwa] at hN2 hob2 ⊢
          obtain ⟨k3, hsame⟩ := HWT.out want (by rw [← hwa, if_neg hm]; congr 3)
          have HN2_ := Aside0.mk hN2
          have HCS2 := Aside0.mk (Kd.C_below (Kd.C_below (Kd.N_reads' HNS.out).2.2 hB) (HB1_.out.trans hB2))
          have HFB : Aside0 (Below w.heap.size w w2) := ⟨((HB4.out.trans (hB.mono hwd)).trans (HB1_.out.mono (Nat.le_trans hwd hB.size))).trans (hB2.mono (Nat.le_trans hwd hB.size))⟩
          clear hN2 hB2 hg2 hob2 htl hq1 hq4 hq5 hcut5 hrem hwa
          simp only [Act.put]
          gi_wp2_with fail
          refine ⟨trivial, ?_⟩
          have hC1 := Kd.N_reads' HN2_.out
          refine (callsIn_wide.2 (creelref08_SameAll.calls k3 As cs some_ Aw cw want true w2 HCS2.out hcs hC1.2.2 hC1.2.1 hsame)).mono ?_
          rintro e w3 ⟨rfl, hb3⟩
          have HFIN : Aside0 (Below w.heap.size w w3) := ⟨HFB.out.trans (hb3.mono HFB.out.size)⟩
          clear hC1 hsame hb3
          gi_wp2_with fail
          refine bodyPost_ret (results_tmp rfl _ _ _) rfl ?_
          exact ⟨rfl, HFIN.out⟩
theorem creellaw10_DumpBack.walk (P : creellaw10_DumpBack.Pure) (a0 : Option Addr) (len0 cap0 : Nat) (l0 : List S38) (a1 : Int) (w : World) (w0 : Hand.IsSl k38 (fun x => (Lit.int .u32 x.f0).wf = true ∧ (Lit.int .u32 x.f1).wf = true) w a0 len0 cap0 l0) (w1 : (Lit.int .u16 a1).wf = true) :
    Calls Try.prog 4 #[.slice a0 len0 cap0, .int .u16 a1] w fun e w' => e = .returned (.bool true) ∧ Below w.heap.size w w' := by
  obtain ⟨rfl, hc0, hm0, hr0, hw0⟩ := w0
  obtain ⟨k, n, x, p, all, some_, N_, rfl, hn, hx, hs, hp, hpl, hall, hal, hN, hsome, hit, hshort, hlong⟩ := P l0 a1 hm0 hw0 w1
  exact creellaw10_DumpBack.calls _ _ l0 n w hr0 hc0 hn k x hx p all some_ N_ hs hp hpl hall hal hN hsome hit hshort hlong

end Go.Proofs.Ythnjeddcnkbebaa.Print
