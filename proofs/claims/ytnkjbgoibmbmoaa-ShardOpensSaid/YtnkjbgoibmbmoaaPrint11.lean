-- Written by a program of this session (wip/cprint.py), which calls the kit's print and adds contracts proved by hand.
import Derived.Test.YtnkjbgoibmbmoaaPrint0
import Derived.Test.YtnkjbgoibmbmoaaPrint4
import Derived.Test.YtnkjbgoibmbmoaaPrint5
import Derived.Test.YtnkjbgoibmbmoaaPrint7
import Derived.Test.YtnkjbgoibmbmoaaPrint9
import Derived.Test.YtnkjbgoibmbmoaaPrint10
namespace Go.Proofs.Ytnkjbgoibmbmoaa.Print
open Go.RowKit Go.Proofs.YtnkjbgoibmbmoaaW.PrintWords Go.Proofs.YtnkjbgoibmbmoaaW.PrintLast Go.Proofs.YtnkjbgoibmbmoaaW.PrintMore
attribute [local go_sem] max2_int min2_int max_two min_two max_three min_three max_four min_four   -- for this text's walks alone
set_option linter.unusedVariables false
set_option linter.unusedSimpArgs false

/-! ### creelref18_Open: function 19 -/
def creelref18_Open.l (k : Nat) (a : Int) : Nat → List (List Int) → List Int → Option (Option (List (List Int)))
 | 0, next, b => some (some next)
 | m + 1, next, b => (creelref01_Take.f k b).bind fun t =>
  if 0 ≤ t.1 ∧ t.1 < 18446744073709551616 ∧ t.2.1.length ≤ 1000000 then
   (if t.2.2 = 0 ∧ t.1 ≤ t.2.1.length then
    (creelref17_Take.f k ((a + next.length) % 4294967296) (t.2.1.take t.1.toNat)).bind fun u => if u.2 = 0 then (if u.1.length ≤ 1000000 then creelref18_Open.l k a m (next ++ [u.1]) (t.2.1.drop t.1.toNat) else none) else some none
   else some none)
  else none
/-- The document's answer: whatever can be taken, built again, must be the bytes themselves. -/
def creelref18_Open.f (k : Nat) (b : List Int) : Option (Option (Int × List (List Int))) := (creelref03_Only.f k b).bind fun o =>
 if o.2 = 0 then
  (if o.1.length ≤ 1000000 ∧ (∀ x ∈ o.1, x.length ≤ 100000) ∧ o.1.flatten.length ≤ 1000000 then
   (creelref01_Take.f k o.1.flatten).bind fun t => (creelref01_Take.f k t.2.1).bind fun u =>
    if 0 ≤ t.1 ∧ t.1 < 18446744073709551616 ∧ 0 ≤ u.1 ∧ u.1 < 18446744073709551616 ∧ u.2.1.length ≤ 1000000 then
     (if t.2.2 = 0 ∧ u.2.2 = 0 ∧ t.1 ≤ 4294967296 ∧ u.1 ≤ u.2.1.length then
      (creelref18_Open.l k t.1 u.1.toNat [] u.2.1).bind fun r => match r with
       | none => some none
       | some L => (creelref18_Build.f k t.1 L).bind fun p => if p.2 = 0 ∧ (strOfNums p.1).toList = (strOfNums b).toList then some (some (t.1, L)) else some none
     else some none)
    else none
  else none)
 else some none
/-- The reference's Shard in memory. -/
def RsIs (W : World) (q m : Nat) (from_ : Int) (next : List (List Int)) : Prop :=
 m ≤ q ∧ ∃ v, W.heap[q]? = some (.cells #[.int .i64 from_, v] 48) ∧ Kd.N (Kd.slice 31 (Kd.int .u32)) 36 W m (fun k => m ≤ k ∧ k ≠ q) v next
theorem RsIs.below {W W' : World} {q m : Nat} {a : Int} {l : List (List Int)} (h : RsIs W q m a l) (hb : Below W.heap.size W W') : RsIs W' q m a l := by
 obtain ⟨h0, v, h1, h2⟩ := h
 exact ⟨h0, v, (hb.block _ (Array.getElem?_eq_some_iff.1 h1).1).trans h1, Kd.N_below h2 hb⟩
theorem row2_1 {W : World} {q : Nat} {T : TypeId} {a b : Value} (h : W.heap[q]? = some (.cells #[a, b] T)) (u : Value) : (W.setCell ⟨q, 1, none⟩ u).heap[q]? = some (.cells #[a, u] T) := heap_setCell_same W q 1 _ T u h
def RefIs (w w' : World) (e : Ending) : Option (Int × List (List Int)) → Prop
 | none => e = .returned (.tuple #[.pointer none, .int .i64 6])
 | some p => ∃ q, e = .returned (.tuple #[.pointer (some ⟨q, 0, none⟩), .int .i64 0]) ∧ RsIs w' q w.heap.size p.1 p.2
set_option maxHeartbeats 8000000 in
set_option maxRecDepth 100000 in
theorem creelref18_Open.calls (k : Nat) (A0 : Option Addr) (c0 : Nat) (l0 : List Int) (o : Option (Int × List (List Int))) (w : World) (hr0 : Kd.C (Kd.int .u8) w A0 l0.length l0) (hc0 : l0.length ≤ c0) (h : creelref18_Open.f k l0 = some o) :
  Calls Try.prog 19 #[.slice A0 l0.length c0] w fun e w' => RefIs w w' e o ∧ Below w.heap.size w w' := by
 have HR0 := Aside0.mk hr0
 have HC0 := Aside0.mk hc0
 clear hr0 hc0
 unfold creelref18_Open.f at h
 obtain ⟨⟨F, e0⟩, ho, h'⟩ := Option.bind_eq_some_iff.mp h
 have HON := Aside0.mk ho
 clear ho h
 simp only at h'
 by_cases he0 : e0 = 0
 ·subst he0
  rw [if_pos rfl] at h'
  by_cases hb : F.length ≤ 1000000 ∧ (∀ x ∈ F, x.length ≤ 100000) ∧ F.flatten.length ≤ 1000000
  ·rw [if_pos hb] at h'
   obtain ⟨hF1, hF2, hF3⟩ := hb
   have HF2 := Aside0.mk hF2
   clear hF2
   obtain ⟨body, hbody⟩ : ∃ y, F.flatten = y := ⟨_, rfl⟩
   rw [hbody] at h' hF3
   have HBD := Aside0.mk hbody
   clear hbody
   obtain ⟨⟨n0, x1, e1⟩, ht, h⟩ := Option.bind_eq_some_iff.mp h'
   have HT := Aside0.mk ht
   clear ht h'
   simp only at h
   obtain ⟨⟨n1, x2, e2⟩, hu, h'⟩ := Option.bind_eq_some_iff.mp h
   have HU := Aside0.mk hu
   clear hu h
   simp only at h'
   by_cases hb2 : 0 ≤ n0 ∧ n0 < 18446744073709551616 ∧ 0 ≤ n1 ∧ n1 < 18446744073709551616 ∧ x2.length ≤ 1000000
   ·rw [if_pos hb2] at h'
    obtain ⟨g1, g2, g3, g4, g5⟩ := hb2
    obtain ⟨a, rfl⟩ := Int.eq_ofNat_of_zero_le g1
    obtain ⟨M, rfl⟩ := Int.eq_ofNat_of_zero_le g3
    clear g1 g3
    have HH := Aside0.mk h'
    clear h'
    go_enter Try.func19, Try.ntmps19
    go_wp2_with (first | (go_at_call 34; (with_reducible refine (creelref03_Only.calls k _ _ l0 _ _ _ HR0.out HC0.out HON.out).mono ?_); rintro e w1 ⟨v1, rfl, ho, hb⟩; obtain ⟨Af, cf, rfl⟩ := Kd.S_slice ho; have HF := Aside0.mk (Kd.C_F (Kd.heap_slice 5 (Kd.heap_int .u8)) (Kd.S_reads' ho).2.2); have HB1 := Aside0.mk hb; clear ho hb))
    go_loopw [6, 7] (fun v6 v7 wr => ∃ (i : Nat) (acc : List Int), v7 = .int .i64 i ∧ i ≤ F.length ∧ Aside0 (acc ++ (F.drop i).flatten = body) ∧ Aside0 (Kd.R (Kd.int .u8) 5 wr w1.heap.size (fun _ => True) v6 acc) ∧ Aside0 (Below w1.heap.size w1 wr)) (fun _ v7 _ => F.length - (intOf v7).toNat)
    case atStart => exact ⟨0, [], rfl, Nat.zero_le _, ⟨HBD.out⟩, ⟨Kd.R_nil _ _ _ _ _⟩, ⟨Below.refl _ _⟩⟩
    case round =>
     obtain ⟨i, acc, rfl, hi, HE, HR, HBR⟩ := hrel
     obtain ⟨Aa, ca, rfl⟩ := Kd.R_slice HR.out
     by_cases hlt : i < F.length
     ·obtain ⟨ad, Ai, ci, e5, hcell, hci, hCi⟩ := at_L2 (Kd.F_now (Kd.F_below HF.out HBR.out)) (i : Int) (by omega) (by omega)
      obtain ⟨x, hx⟩ : ∃ x, rd_L2 F (i : Int) = x := ⟨_, rfl⟩
      have hxe : rd_L2 F (i : Int) = F[i] := by simp [rd_L2, hlt]
      have hxl : x.length ≤ 100000 := by rw [← hx, hxe]; exact HF2.out _ (List.getElem_mem _)
      have he := HE.out
      rw [List.drop_eq_getElem_cons hlt, ← hxe, hx, List.flatten_cons, ← List.append_assoc] at he
      have hal : acc.length + x.length ≤ 1000000 := by
       have h_ := congrArg List.length he
       simp only [List.length_append] at h_
       omega
      rw [hx, Int.toNat_natCast] at hcell
      rw [hx] at hci hCi
      cases e5
      have HE2 := Aside0.mk he
      have HCI := Aside0.mk hCi
      have hi0 : (0 : Int) ≤ (i : Int) := by omega
      have hi1 : (i : Int) < (F.length : Int) := by omega
      have hs := HBR.out.size
      clear he hci hCi hx hxe HE
      go_wp2_with (first | ((with_reducible refine gate_dst (N := 41) rfl ?_); refine Kd.R_append_row (w0 := w1) (Value.int .u8) (0 : Int) (h1 := fun _ => rfl) w1.heap.size rfl (.tmp 36) (.tmp 40) 26 5 (.int .u8 0) 1 rfl Try.underlying26 info5 rfl (by decide) (.slice Aa acc.length ca) acc x Ai x.length ci (fun _ => True) rfl rfl (fun _ _ => trivial) HR.out HCI.out HBR.out hs (by omega) ?_; intro v3 w3 ho hb hg hat; have HR3 := Aside0.mk ho; have HB3 := Aside0.mk hb; clear ho hb hg hat))
      go_roundw
      case rel => exact ⟨i + 1, acc ++ x, by go_num, by omega, HE2, HR3, HB3⟩
      case measure => simp [intOf]; omega
     ·obtain rfl : i = F.length := by omega
      have he := HE.out
      rw [List.drop_length, List.flatten_nil, List.append_nil] at he
      have he' := he.symm
      clear he
      subst he'
      have HBW := Aside0.mk (HB1.out.trans (HBR.out.mono HB1.out.size))
      have hh := HH.out
      clear HE HH
      by_cases hok : e1 = 0 ∧ e2 = 0 ∧ (a : Int) ≤ 4294967296 ∧ (M : Int) ≤ x2.length
      ·rw [if_pos hok] at hh
       obtain ⟨rfl, rfl, k1, k2⟩ := hok
       simp only [Int.toNat_natCast] at hh
       obtain ⟨r, hl, hh'⟩ := Option.bind_eq_some_iff.mp hh
       have HL := Aside0.mk hl
       have HE := Aside0.mk hh'
       clear hl hh hh'
       have d1 : decide (x2.length < M) = false := decide_eq_false (by omega)
       have d2 : decide ((4294967296 : Int) < (a : Int)) = false := decide_eq_false (by omega)
       have d3 : decide (4294967296 < a) = false := decide_eq_false (by omega)
       go_wp2_with (first | (go_at_call 35; (with_reducible refine (creelref01_Take.calls k _ _ body _ _ _ _ (Kd.R_reads' HR.out).2.2 (Kd.R_reads' HR.out).2.1 HT.out).mono ?_); rintro e w2 ⟨v1, rfl, ho, hb⟩; obtain ⟨A1, c1, rfl⟩ := Kd.R_slice ho; have HX1 := Aside0.mk ho; have HB2 := Aside0.mk (below_step HBW.out hb); clear ho hb) | (go_at_call 35; (with_reducible refine (creelref01_Take.calls k _ _ x1 _ _ _ _ (Kd.R_reads' HX1.out).2.2 (Kd.R_reads' HX1.out).2.1 HU.out).mono ?_); rintro e w3 ⟨v1, rfl, ho, hb⟩; obtain ⟨A2, c2, rfl⟩ := Kd.R_slice ho; have HX2 := Aside0.mk ho; have HB3 := Aside0.mk (below_step HB2.out hb); clear ho hb HX1))
       obtain ⟨q, hq⟩ : ∃ q, w3.heap.size = q := ⟨_, rfl⟩
       rw [hq]
       have hwq : w.heap.size ≤ q := by rw [← hq]; exact HB3.out.size
       have hsh : RsIs (w3.alloc (Obj.cells #[Value.int .i64 a, Value.slice none 0 0] 48)) q w.heap.size a [] := ⟨hwq, _, by rw [← hq]; exact heap_alloc_new _ _, Kd.N_nil _ _ _ _ _⟩
       have hx2 := Kd.C_alloc (Kd.R_reads' HX2.out).2.2 (Obj.cells #[Value.int .i64 a, Value.slice none 0 0] 48)
       have hb4 : Below w.heap.size w (w3.alloc (Obj.cells #[Value.int .i64 a, Value.slice none 0 0] 48)) := Below.alloc HB3.out (by omega) _
       have hc2 := (Kd.R_reads' HX2.out).2.1
       have HSH := Aside0.mk hsh
       have HX3 := Aside0.mk hx2
       have HB4 := Aside0.mk hb4
       clear hsh hx2 hb4 HX2 HB3 hq
       go_loopw [12, 15] (fun v12 v15 wr => ∃ (i : Nat) (next : List (List Int)) (b : List Int) (A4 : Option Addr) (c4 : Nat), v12 = .slice A4 b.length c4 ∧ v15 = .int .i64 i ∧ i ≤ M ∧ next.length = i ∧ b.length ≤ c4 ∧ Aside0 (creelref18_Open.l k a (M - i) next b = some r) ∧ Aside0 (RsIs wr q w.heap.size a next) ∧ Aside0 (Kd.C (Kd.int .u8) wr A4 b.length b) ∧ Aside0 (Below w.heap.size w wr)) (fun _ v15 _ => M - (intOf v15).toNat)
       case atStart => exact ⟨0, [], x2, A2, c2, rfl, rfl, Nat.zero_le _, rfl, hc2, HL, HSH, HX3, HB4⟩
       case round =>
        clear HL HSH HX3 HB4
        obtain ⟨i, next, b, A4, c4, rfl, rfl, hi, hni, hbc, HL, HSH, HX3, HB4⟩ := hrel
        obtain ⟨wS, rfl⟩ : ∃ z, z = wr := ⟨_, rfl⟩
        have HNI := Aside0.mk hni
        clear hni
        by_cases hlt : i < M
        ·have hl := HL.out
         clear HL
         rw [show M - i = (M - (i + 1)) + 1 by omega] at hl
         unfold creelref18_Open.l at hl
         obtain ⟨⟨n2, x, e2⟩, ht2, hl'⟩ := Option.bind_eq_some_iff.mp hl
         have HT2 := Aside0.mk ht2
         clear ht2 hl
         simp only at hl'
         by_cases hg : 0 ≤ n2 ∧ n2 < 18446744073709551616 ∧ x.length ≤ 1000000
         ·rw [if_pos hg] at hl'
          obtain ⟨p1, p2, p3⟩ := hg
          obtain ⟨m1, rfl⟩ := Int.eq_ofNat_of_zero_le p1
          clear p1
          by_cases hok2 : e2 = 0 ∧ (m1 : Int) ≤ x.length
          ·rw [if_pos hok2] at hl'
           obtain ⟨rfl, hm1⟩ := hok2
           simp only [Int.toNat_natCast] at hl'
           obtain ⟨⟨y, e3⟩, hg2, hl2⟩ := Option.bind_eq_some_iff.mp hl'
           have HG := Aside0.mk hg2
           have HL2 := Aside0.mk hl2
           clear hg2 hl' hl2
           have d6 : decide (x.length < m1) = false := decide_eq_false (by omega)
           obtain ⟨hqm, vn, hqc, hN⟩ := HSH.out
           obtain ⟨An, cn, rfl⟩ := Kd.N_slice hN
           have hqw : q < wS.heap.size := (Array.getElem?_eq_some_iff.1 hqc).1
           have HQC := Aside0.mk hqc
           have HN := Aside0.mk hN
           clear hqc hN
           go_wp2_with (first | (go_at_call 35; (with_reducible refine (creelref01_Take.calls k _ _ b _ _ _ _ HX3.out hbc HT2.out).mono ?_); rintro e w5 ⟨v1, rfl, ho, hb⟩; obtain ⟨Ax, cx, rfl⟩ := Kd.R_slice ho; have HX := Aside0.mk ho; have HB5 := Aside0.mk hb; clear ho hb))
           obtain ⟨n3, hn3, hnc3, hcut3, hFt⟩ := Hand.cut_take (P := Try.prog) 26 .u64 Try.underlying26 (by kernel_rfl) (Kd.R_F HX.out) (Kd.R_reads' HX.out).2.1 m1 (by omega)
           obtain ⟨A6, n6, c6, hn6, hnc6, hcut6, hFr⟩ := Hand.cut_drop (P := Try.prog) 26 .u64 Try.underlying26 (by kernel_rfl) (Kd.R_F (Kd.R_bound HX.out)) (Kd.R_reads' HX.out).2.1 m1 (by omega)
           have hn3' : n3 = m1 := by rw [hn3, List.length_take]; omega
           subst hn3'
           have q1 := (HB5.out.block q hqw).trans HQC.out
           have o0 : w5.cell? ⟨q, 0, none⟩ = some (.int .i64 a) := cell_of_row _ _ _ _ _ _ q1
           have o1 : w5.cell? ⟨q, 1, none⟩ = some (.slice An next.length cn) := cell_of_row _ _ _ _ _ _ q1
           generalize x.take n3 = ya at *
           generalize x.drop n3 = z at *
           subst hn3
           subst hn6
           have HQ1 := Aside0.mk q1
           have HFR := Aside0.mk hFr
           have HZ := Aside0.mk hnc6
           have hz1 := HB5.out.size
           have hw : IntKind.u32.wrap (IntKind.i64.wrap ((a : Int) + (i : Int))) = ((a : Int) + (i : Int)) % 4294967296 := by simp only [IntKind.wrap, IntKind.bits, IntKind.signed]; simp; omega
           have HFD := Aside0.mk (Kd.C_drew (Kd.F_now hFt))
           rw [HNI.out] at HG
           clear q1 hFt hFr hnc6
           go_region_held3 (fun W => W.cell? ⟨q, 0, none⟩ = some (.int .i64 a) ∧ W.cell? ⟨q, 1, none⟩ = some (.slice An next.length cn)) (first | exact ⟨o0, o1⟩ | exact ⟨p0_, p1_⟩ | fail) (first | (go_at_call 36; (with_reducible refine (creelref17_Take.calls k _ _ _ ya _ _ _ HFD.out hnc3 HG.out).mono ?_); rintro e w6 ⟨v2, rfl, ho, hb⟩; obtain ⟨Al, cl, rfl⟩ := Kd.R_slice ho; have HLL := Aside0.mk ho; have p0_ : w6.cell? ⟨q, 0, none⟩ = some (.int .i64 a) := (hb.cell (World.block_lt_of_cell? w5.drew _ o0)).trans o0; have p1_ : w6.cell? ⟨q, 1, none⟩ = some (.slice An next.length cn) := (hb.cell (World.block_lt_of_cell? w5.drew _ o1)).trans o1; have HB6 := Aside0.mk hb; clear ho hb) | fail)
           have HBW2 := Aside0.mk (Below.trans HB5.out (Below.mono (Below.drew (Below.refl w5.heap.size w5)) hz1))
           have hh := HL2.out
           clear HL2 hw
           by_cases hk : e3 = 0
           ·subst hk
            rw [if_pos rfl] at hh
            by_cases hyl : y.length ≤ 1000000
            ·rw [if_pos hyl] at hh
             have HL3 := Aside0.mk hh
             clear hh
             have hsz1 : w5.heap.size ≤ w6.heap.size := HB6.out.size
             have HBA := Aside0.mk (below_step HBW2.out HB6.out)
             have q2 := (HB6.out.block q (by show q < w5.heap.size; omega)).trans (show w5.drew.heap[q]? = _ from HQ1.out)
             have HN2 := Aside0.mk (Kd.N_below HN.out HBA.out)
             have HNL := Aside0.mk (Kd.N_lt HN.out)
             have HFR2 := Aside0.mk (Kd.F_below (Kd.F_drew HFR.out) HB6.out)
             have HLF := Aside0.mk (Kd.R_F (Kd.R_bound HLL.out))
             have HLC := Aside0.mk (Kd.R_reads' HLL.out).2.1
             have HQ2 := Aside0.mk q2
             have hlen : (next.length + 1) * 24 ≤ 140737488355328 := by have := HNI.out; omega
             have HLEN := Aside0.mk hlen
             clear q2 hlen
             have hwS := HB4.out.size
             have HOK : Aside0 (∀ k_, (w5.heap.size ≤ k_ ∧ k_ < w6.heap.size) → (w.heap.size ≤ k_ ∧ k_ ≠ q) ∧ some k_ ≠ (Value.slice An next.length cn).ownBlock) := ⟨fun k_ hk => ⟨⟨by omega, by omega⟩, fun e_ => by have := HNL.out k_ e_.symm; omega⟩⟩
             have HFRS : Aside0 (∀ k_, w6.heap.size ≤ k_ → w.heap.size ≤ k_ ∧ k_ ≠ q) := ⟨fun k_ hk => ⟨by omega, by omega⟩⟩
             have HLF2 := Aside0.mk (show (Kd.slice 31 (Kd.int .u32)).FK w6 (fun k_ => w5.heap.size ≤ k_ ∧ k_ < w6.heap.size) y [Value.slice Al y.length cl] from Kd.FK_slice_mk HLC.out (Kd.F_mono HLF.out (fun k_ hk => (⟨hk.2.1, hk.2.2.1⟩ : w5.heap.size ≤ k_ ∧ k_ < w6.heap.size))))
             have HBM := Aside0.mk (HB4.out.trans (HBA.out.mono hwS))
             have HMW : Aside0 (w.heap.size ≤ w6.heap.size) := ⟨by omega⟩
             have HQO := Aside0.mk (fun k_ (hk : (Value.slice An next.length cn).ownBlock = some k_) => (HN.out.1 k_ hk).2)
             have HQL : Aside0 (q < w6.heap.size) := ⟨by omega⟩
             go_wp2_with (first | ((with_reducible refine gate_dst (N := 119) rfl ?_); refine Kd.N_append (Kd.slice 31 (Kd.int .u32)) (w0 := w) w.heap.size rfl (.tmp 116) (.tmp 118) 22 36 (.slice none 0 0) 24 rfl Try.underlying22 info36 rfl (by decide) (by decide) (.slice An next.length cn) next y [.slice Al y.length cl] (fun k_ => w.heap.size ≤ k_ ∧ k_ ≠ q) (fun k_ => w5.heap.size ≤ k_ ∧ k_ < w6.heap.size) rfl rfl HLF2.out HOK.out HFRS.out HN2.out HBM.out HMW.out HLEN.out ?_; intro u7 w7 ho hb hg hat; obtain ⟨Au, cu, rfl⟩ := Kd.N_slice ho; obtain ⟨mm, hmm⟩ : ∃ m_, (next ++ [y]).length = m_ := ⟨_, rfl⟩; rw [hmm] at ho hat ⊢; have HMM := Aside0.mk hmm; clear hmm; have HN7 := Aside0.mk ho; have HB7 := Aside0.mk hb; have HG7 := Aside0.mk hg; have q4 := (hg.block q HQL.out (fun e_ => HQO.out q e_.symm rfl)).trans HQ2.out; have s1 : w7.cell? ⟨q, 1, none⟩ = some (.slice An next.length cn) := cell_of_row _ _ _ _ _ _ q4; have fs1 : w7.frozen? ⟨q, 1, none⟩ = false := frozen_of_row q4; have HQ5 := Aside0.mk (row2_1 q4 (.slice Au mm cu)); clear ho hb hg hat q4))
             have hoth : ∀ k_, k_ ≠ q → (w7.setCell ⟨q, 1, none⟩ (.slice Au mm cu)).heap[k_]? = w7.heap[k_]? := fun k_ hk => Below.heap_setCell _ ⟨q, 1, none⟩ _ k_ hk
             have hb7 := HB7.out
             have hcz := Kd.F_now (Kd.F_step HFR2.out (W1 := w7.setCell ⟨q, 1, none⟩ (.slice Au mm cu)) (fun k_ hk hlt_ => (hoth k_ (by omega)).trans (HG7.out.block k_ hlt_ (fun e_ => by have := HNL.out k_ e_.symm; omega))))
             have hrs : RsIs (w7.setCell ⟨q, 1, none⟩ (.slice Au mm cu)) q w.heap.size a (next ++ [y]) := ⟨hqm, _, HQ5.out, Kd.N_step (by rw [← HMM.out] at *; exact HN7.out) (fun k_ hk hlt => hoth k_ hk.2)⟩
             have hbf : Below w.heap.size w (w7.setCell ⟨q, 1, none⟩ (.slice Au mm cu)) := ⟨hb7.os, hb7.tape, hb7.output, by simpa using hb7.size, fun k_ hk => (hoth k_ (by omega)).trans (hb7.block k_ hk)⟩
             go_roundw
             case rel => exact ⟨i + 1, next ++ [y], z, A6, c6, rfl, by go_num, by omega, by rw [List.length_append, HNI.out]; rfl, HZ.out, HL3, ⟨hrs⟩, ⟨hcz⟩, ⟨hbf⟩⟩
             case measure => simp [intOf]; omega
            ·rw [if_neg hyl] at hh
             exact absurd hh (by simp)
           ·rw [if_neg hk] at hh
            obtain rfl : none = r := Option.some.inj hh
            obtain rfl : none = o := Option.some.inj HE.out
            have d5 : (e3 != 0) = true := bne_iff_ne.mpr hk
            have HBA := Aside0.mk (HB4.out.trans ((below_step HBW2.out HB6.out).mono HB4.out.size))
            go_wp2
            go_ret2
            exact ⟨rfl, HBA.out⟩
          ·rw [if_neg hok2] at hl'
           obtain rfl : none = r := Option.some.inj hl'
           obtain rfl : none = o := Option.some.inj HE.out
           by_cases hz2 : e2 = 0
           ·subst hz2
            have hm1 : ¬ (m1 : Int) ≤ x.length := fun h_ => hok2 ⟨rfl, h_⟩
            have d6 : decide (x.length < m1) = true := decide_eq_true (by omega)
            go_wp2_with (first | (go_at_call 35; (with_reducible refine (creelref01_Take.calls k _ _ b _ _ _ _ HX3.out hbc HT2.out).mono ?_); rintro e w5 ⟨v1, rfl, ho, hb⟩; obtain ⟨Ax, cx, rfl⟩ := Kd.R_slice ho; have HB5 := Aside0.mk (below_step HB4.out hb); clear ho hb))
            go_ret2
            exact ⟨rfl, HB5.out⟩
           ·have d5 : (e2 != 0) = true := bne_iff_ne.mpr hz2
            go_wp2_with (first | (go_at_call 35; (with_reducible refine (creelref01_Take.calls k _ _ b _ _ _ _ HX3.out hbc HT2.out).mono ?_); rintro e w5 ⟨v1, rfl, ho, hb⟩; obtain ⟨Ax, cx, rfl⟩ := Kd.R_slice ho; have HB5 := Aside0.mk (below_step HB4.out hb); clear ho hb))
            go_ret2
            exact ⟨rfl, HB5.out⟩
         ·rw [if_neg hg] at hl'
          exact absurd hl' (by simp)
        ·obtain rfl : i = M := by omega
         have hl := HL.out
         clear HL
         rw [Nat.sub_self] at hl
         unfold creelref18_Open.l at hl
         obtain rfl := Option.some.inj hl
         obtain ⟨⟨p, pe⟩, hp, he⟩ := Option.bind_eq_some_iff.mp HE.out
         have HP := Aside0.mk hp
         have HE3 := Aside0.mk he
         clear HE hl hp he
         obtain ⟨hqm, vn, hqc, hN⟩ := HSH.out
         obtain ⟨An, cn, rfl⟩ := Kd.N_slice hN
         have hqw : q < wS.heap.size := (Array.getElem?_eq_some_iff.1 hqc).1
         have o0 : wS.cell? ⟨q, 0, none⟩ = some (.int .i64 a) := cell_of_row _ _ _ _ _ _ hqc
         have o1 : wS.cell? ⟨q, 1, none⟩ = some (.slice An next.length cn) := cell_of_row _ _ _ _ _ _ hqc
         have HND := Aside0.mk (Kd.C_drew (Kd.N_reads' hN).2.2)
         have HNC := Aside0.mk (Kd.N_reads' hN).2.1
         clear hqc hN
         go_wp2
         go_region_held3 (fun W => W.cell? ⟨q, 0, none⟩ = some (.int .i64 a) ∧ W.cell? ⟨q, 1, none⟩ = some (.slice An next.length cn)) (first | exact ⟨o0, o1⟩ | exact ⟨p0_, p1_⟩ | fail) (first | (go_at_call 13; (with_reducible refine (creelref18_Build.calls k _ _ _ next _ _ _ HND.out HNC.out HP.out).mono ?_); rintro e w6 ⟨v2, rfl, ho, hb⟩; obtain ⟨Ap, cp, rfl⟩ := Kd.R_slice ho; have hs1 := Kd.C_string (P := Try.prog) (A := Ap) (c := cp) Try.underlying26 Try.underlying5 Try.underlying9 (Kd.R_reads' ho).2.2; have p0_ : w6.cell? ⟨q, 0, none⟩ = some (.int .i64 a) := (hb.cell (World.block_lt_of_cell? wS.drew _ o0)).trans o0; have p1_ : w6.cell? ⟨q, 1, none⟩ = some (.slice An next.length cn) := (hb.cell (World.block_lt_of_cell? wS.drew _ o1)).trans o1; have HB6 := Aside0.mk hb; clear ho hb) | fail)
         have HB7 := Aside0.mk (Below.trans (Below.drew (Below.refl wS.heap.size wS)) HB6.out)
         have HB8 := Aside0.mk (below_step HB4.out HB7.out)
         have HSH6 := Aside0.mk (HSH.out.below HB7.out)
         have hs2 := Kd.C_string (P := Try.prog) (A := A0) (c := c0) Try.underlying26 Try.underlying5 Try.underlying9 (Kd.C_below HR0.out HB8.out)
         have hh := HE3.out
         clear HE3
         by_cases hok3 : pe = 0 ∧ (strOfNums p).toList = (strOfNums l0).toList
         ·rw [if_pos hok3] at hh
          obtain ⟨rfl, hq⟩ := hok3
          obtain rfl := Option.some.inj hh
          have d7 : ((strOfNums p).toList == (strOfNums l0).toList) = true := beq_iff_eq.mpr hq
          have d8 : ((strOfNums p).toList != (strOfNums l0).toList) = false := by rw [bne, d7]; rfl
          clear hq hh
          go_wp2
          go_ret2
          exact ⟨⟨q, rfl, HSH6.out⟩, HB8.out⟩
         ·rw [if_neg hok3] at hh
          obtain rfl : none = o := Option.some.inj hh
          by_cases hp0 : pe = 0
          ·subst hp0
           have d7 : ((strOfNums p).toList == (strOfNums l0).toList) = false := beq_eq_false_iff_ne.mpr (fun hq => hok3 ⟨rfl, hq⟩)
           have d8 : ((strOfNums p).toList != (strOfNums l0).toList) = true := by rw [bne, d7]; rfl
           clear hh
           go_wp2
           go_ret2
           exact ⟨rfl, HB8.out⟩
          ·have d5 : (pe != 0) = true := bne_iff_ne.mpr hp0
           clear hh
           go_wp2
           go_ret2
           exact ⟨rfl, HB8.out⟩
      ·rw [if_neg hok] at hh
       obtain rfl : none = o := Option.some.inj hh
       by_cases c1_ : e1 = 0
       ·subst c1_
        by_cases c2_ : e2 = 0
        ·subst c2_
         by_cases c3_ : (a : Int) ≤ 4294967296
         ·have d2 : decide ((4294967296 : Int) < (a : Int)) = false := decide_eq_false (by omega)
          have d3 : decide (4294967296 < a) = false := decide_eq_false (by omega)
          have c4_ : ¬ (M : Int) ≤ x2.length := fun h_ => hok ⟨rfl, rfl, c3_, h_⟩
          have d1 : decide (x2.length < M) = true := decide_eq_true (by omega)
          go_wp2_with (first | (go_at_call 35; (with_reducible refine (creelref01_Take.calls k _ _ body _ _ _ _ (Kd.R_reads' HR.out).2.2 (Kd.R_reads' HR.out).2.1 HT.out).mono ?_); rintro e w2 ⟨v1, rfl, ho, hb⟩; obtain ⟨A1, c1, rfl⟩ := Kd.R_slice ho; have HX1 := Aside0.mk ho; have HB2 := Aside0.mk (below_step HBW.out hb); clear ho hb) | (go_at_call 35; (with_reducible refine (creelref01_Take.calls k _ _ x1 _ _ _ _ (Kd.R_reads' HX1.out).2.2 (Kd.R_reads' HX1.out).2.1 HU.out).mono ?_); rintro e w3 ⟨v1, rfl, ho, hb⟩; obtain ⟨A2, c2, rfl⟩ := Kd.R_slice ho; have HX2 := Aside0.mk ho; have HB3 := Aside0.mk (below_step HB2.out hb); clear ho hb HX1))
          go_ret2
          exact ⟨rfl, HB3.out⟩
         ·have d2 : decide ((4294967296 : Int) < (a : Int)) = true := decide_eq_true (by omega)
          have d3 : decide (4294967296 < a) = true := decide_eq_true (by omega)
          go_wp2_with (first | (go_at_call 35; (with_reducible refine (creelref01_Take.calls k _ _ body _ _ _ _ (Kd.R_reads' HR.out).2.2 (Kd.R_reads' HR.out).2.1 HT.out).mono ?_); rintro e w2 ⟨v1, rfl, ho, hb⟩; obtain ⟨A1, c1, rfl⟩ := Kd.R_slice ho; have HX1 := Aside0.mk ho; have HB2 := Aside0.mk (below_step HBW.out hb); clear ho hb) | (go_at_call 35; (with_reducible refine (creelref01_Take.calls k _ _ x1 _ _ _ _ (Kd.R_reads' HX1.out).2.2 (Kd.R_reads' HX1.out).2.1 HU.out).mono ?_); rintro e w3 ⟨v1, rfl, ho, hb⟩; obtain ⟨A2, c2, rfl⟩ := Kd.R_slice ho; have HX2 := Aside0.mk ho; have HB3 := Aside0.mk (below_step HB2.out hb); clear ho hb HX1))
          go_ret2
          exact ⟨rfl, HB3.out⟩
        ·have d5 : (e2 != 0) = true := bne_iff_ne.mpr c2_
         go_wp2_with (first | (go_at_call 35; (with_reducible refine (creelref01_Take.calls k _ _ body _ _ _ _ (Kd.R_reads' HR.out).2.2 (Kd.R_reads' HR.out).2.1 HT.out).mono ?_); rintro e w2 ⟨v1, rfl, ho, hb⟩; obtain ⟨A1, c1, rfl⟩ := Kd.R_slice ho; have HX1 := Aside0.mk ho; have HB2 := Aside0.mk (below_step HBW.out hb); clear ho hb) | (go_at_call 35; (with_reducible refine (creelref01_Take.calls k _ _ x1 _ _ _ _ (Kd.R_reads' HX1.out).2.2 (Kd.R_reads' HX1.out).2.1 HU.out).mono ?_); rintro e w3 ⟨v1, rfl, ho, hb⟩; obtain ⟨A2, c2, rfl⟩ := Kd.R_slice ho; have HX2 := Aside0.mk ho; have HB3 := Aside0.mk (below_step HB2.out hb); clear ho hb HX1))
         go_ret2
         exact ⟨rfl, HB3.out⟩
       ·have d5 : (e1 != 0) = true := bne_iff_ne.mpr c1_
        go_wp2_with (first | (go_at_call 35; (with_reducible refine (creelref01_Take.calls k _ _ body _ _ _ _ (Kd.R_reads' HR.out).2.2 (Kd.R_reads' HR.out).2.1 HT.out).mono ?_); rintro e w2 ⟨v1, rfl, ho, hb⟩; obtain ⟨A1, c1, rfl⟩ := Kd.R_slice ho; have HX1 := Aside0.mk ho; have HB2 := Aside0.mk (below_step HBW.out hb); clear ho hb) | (go_at_call 35; (with_reducible refine (creelref01_Take.calls k _ _ x1 _ _ _ _ (Kd.R_reads' HX1.out).2.2 (Kd.R_reads' HX1.out).2.1 HU.out).mono ?_); rintro e w3 ⟨v1, rfl, ho, hb⟩; obtain ⟨A2, c2, rfl⟩ := Kd.R_slice ho; have HX2 := Aside0.mk ho; have HB3 := Aside0.mk (below_step HB2.out hb); clear ho hb HX1))
        go_ret2
        exact ⟨rfl, HB3.out⟩
   ·rw [if_neg hb2] at h'
    exact absurd h' (by simp)
  ·rw [if_neg hb] at h'
   exact absurd h' (by simp)
 ·rw [if_neg he0] at h'
  obtain rfl : none = o := Option.some.inj h'
  have d5 : (e0 != 0) = true := bne_iff_ne.mpr he0
  go_enter Try.func19, Try.ntmps19
  go_wp2_with (first | (go_at_call 34; (with_reducible refine (creelref03_Only.calls k _ _ l0 _ _ _ HR0.out HC0.out HON.out).mono ?_); rintro e w1 ⟨v1, rfl, ho, hb⟩; have HB1 := Aside0.mk hb; clear ho hb))
  go_ret2
  exact ⟨rfl, HB1.out⟩

/-! ### creelref18_Shard_Edges: function 21 -/

/-! ### creelref18_Shard_Next: function 22 -/
set_option maxHeartbeats 8000000 in
set_option maxRecDepth 100000 in
theorem rs_Edges (q m : Nat) (a : Int) (L : List (List Int)) (w : World) (h : RsIs w q m a L) (hl : L.length ≤ 1000000) (hs : sumLen L ≤ 1000000000) : Calls Try.prog 21 #[.pointer (some ⟨q, 0, none⟩)] w fun e w' => e = .returned (.int .i64 (sumLen L : Nat)) ∧ w' = w := by
 obtain ⟨-, v, hq, hN⟩ := h
 obtain ⟨An, cn, rfl⟩ := Kd.N_slice hN
 have o1 : w.cell? ⟨q, 1, none⟩ = some (.slice An L.length cn) := cell_of_row _ _ _ _ _ _ hq
 have HC := Aside0.mk (Kd.N_reads' hN).2.2
 clear hq hN
 go_enter Try.func21, Try.ntmps21
 go_wp2
 go_loopw [3, 4] (fun v3 v4 wr => ∃ (i : Nat), v4 = .int .i64 i ∧ i ≤ L.length ∧ v3 = .int .i64 (sumLen (L.take i) : Nat) ∧ wr = w) (fun _ v4 _ => L.length - (intOf v4).toNat)
 case atStart => exact ⟨0, rfl, Nat.zero_le _, rfl, rfl⟩
 case round =>
  obtain ⟨i, rfl, hi, rfl, rfl⟩ := hrel
  by_cases hlt : i < L.length
  ·obtain ⟨ad, Ai, ci, e5, hcell, -, -⟩ := at_L3 HC.out (i : Int) (by omega) (by omega)
   rw [Int.toNat_natCast] at hcell
   cases e5
   obtain ⟨x, hx⟩ : ∃ x, rd_L3 L (i : Int) = x := ⟨_, rfl⟩
   have hnx := sumLen_next hlt
   rw [hx] at hcell hnx
   have hsm : sumLen (L.take i) + x.length ≤ 1000000000 := by
    have h1 : sumLen L = sumLen (L.take (i + 1)) + sumLen (L.drop (i + 1)) := by
     unfold sumLen
     rw [← List.sum_append, ← List.map_append, List.take_append_drop]
    omega
   have HNX := Aside0.mk hnx
   have i0 : (0 : Int) ≤ (i : Int) := by omega
   have i1 : (i : Int) < (L.length : Int) := by omega
   clear hnx hx
   go_wp2
   go_roundw
   case rel => exact ⟨i + 1, by go_num, by omega, by rw [HNX.out, Int.natCast_add], by first | rfl | trivial⟩
   case measure => simp [intOf]; omega
  ·obtain rfl : i = L.length := by omega
   rw [List.take_length]
   go_wp2
   go_ret
   exact ⟨rfl, rfl⟩
set_option maxHeartbeats 8000000 in
set_option maxRecDepth 100000 in
theorem rs_Next (q m : Nat) (a : Int) (L : List (List Int)) (v : Int) (w : World) (h : RsIs w q m a L) (hs : 0 ≤ a ∧ a ≤ 4294967296 ∧ L.length ≤ 1000000) (hv : -9223372036854775808 ≤ v ∧ v < 9223372036854775808) :
  Calls Try.prog 22 #[.pointer (some ⟨q, 0, none⟩), .int .i64 v] w fun e w' => ∃ Ax cx, e = .returned (.tuple #[.slice Ax (shNext (some (a, L)) v).1.length cx, .bool (shNext (some (a, L)) v).2]) ∧ (shNext (some (a, L)) v).1.length ≤ cx ∧ Kd.C (Kd.int .u32) w' Ax (shNext (some (a, L)) v).1.length (shNext (some (a, L)) v).1 ∧ Below w.heap.size w w' := by
 obtain ⟨-, u, hq, hN⟩ := h
 obtain ⟨An, cn, rfl⟩ := Kd.N_slice hN
 have o0 : w.cell? ⟨q, 0, none⟩ = some (.int .i64 a) := cell_of_row _ _ _ _ _ _ hq
 have o1 : w.cell? ⟨q, 1, none⟩ = some (.slice An L.length cn) := cell_of_row _ _ _ _ _ _ hq
 have HC := Aside0.mk (Kd.N_reads' hN).2.2
 obtain ⟨k1, k2, k3⟩ := hs
 clear hq hN
 have hnil : ∀ W : World, Kd.C (Kd.int .u32) W none ([] : List Int).length [] := fun W => Kd.F_now (Kd.V_F (Kd.V_nil (Kd.int .u32) 31 W 0 (fun _ => True)))
 by_cases h1 : v < a
 ·rw [shNext_out a L v (.inl h1)]
  have d1 : decide (v < a) = true := decide_eq_true h1
  go_enter Try.func22, Try.ntmps22
  go_wp2
  go_quiet (fail)
  go_wp2
  go_ret2
  exact ⟨none, 0, rfl, Nat.le_refl _, hnil _, pw_below_drewN (Below.refl _ _) _⟩
 ·have d1 : decide (v < a) = false := decide_eq_false h1
  obtain ⟨i, hi⟩ : ∃ i, v - a = i := ⟨_, rfl⟩
  have hw1 : IntKind.i64.wrap i = i := by simp only [IntKind.wrap, IntKind.bits, IntKind.signed]; simp; omega
  by_cases h2 : a + (L.length : Int) ≤ v
  ·rw [shNext_out a L v (.inr h2)]
   have d2 : decide ((L.length : Int) ≤ i) = true := decide_eq_true (by omega)
   go_enter Try.func22, Try.ntmps22
   go_wp2
   go_quiet (fail)
   go_wp2
   go_ret2
   exact ⟨none, 0, rfl, Nat.le_refl _, hnil _, pw_below_drewN (Below.refl _ _) _⟩
  ·have d2 : decide ((L.length : Int) ≤ i) = false := decide_eq_false (by omega)
   obtain ⟨n, hn⟩ := Int.eq_ofNat_of_zero_le (show 0 ≤ i by omega)
   subst hn
   have hnl : n < L.length := by omega
   have hsn := shNext_in a L n hnl
   rw [show a + (n : Int) = v by omega] at hsn
   rw [hsn]
   obtain ⟨ad, Ax, cx, e5, hcell, hcx, hC⟩ := at_L3 HC.out (n : Int) (by omega) (by omega)
   rw [Int.toNat_natCast] at hcell
   cases e5
   generalize rd_L3 L (n : Int) = x at *
   have HCX := Aside0.mk hC
   have i0 : (0 : Int) ≤ (n : Int) := by omega
   have i1 : (n : Int) < (L.length : Int) := by omega
   have b0 : decide ((n : Int) < 0) = false := decide_eq_false (by omega)
   clear hC hsn
   go_enter Try.func22, Try.ntmps22
   go_wp2
   go_quiet (fail)
   go_wp2
   go_quiet (fail)
   go_wp2
   go_ret2
   exact ⟨_, cx, rfl, hcx, by repeat (first | exact HCX.out | apply Kd.C_drewN), by repeat (first | exact Below.refl _ _ | apply pw_below_drewN)⟩

/-! ### cmp_isNaN_uint32: function 63 -/
def cmp_isNaN_uint32.f (a0 : Int) : Option (Bool) := some (a0 != a0)
set_option maxHeartbeats 8000000 in
set_option maxRecDepth 100000 in
theorem cmp_isNaN_uint32.calls (a0 : Int) (r : Bool) (w : World) (h : cmp_isNaN_uint32.f a0 = some r) :
  Calls Try.prog 63 #[.int .u32 a0] w fun e w' => e = .returned (.bool r) ∧ Drawn0 w w' := by
 have H : (some (a0 != a0)) = some r := h
 clear h
 obtain rfl := Option.some.inj H
 go_enter Try.func63, Try.ntmps63
 go_wp2
 go_ret
 exact ⟨by first | rfl | (simp; done) | (simp [*]; done), by repeat (first | exact Drawn0.refl _ | apply Drawn0.step)⟩

/-! ### cmp_Less_uint32: function 51 -/
def cmp_Less_uint32.f (a0 : Int) (a1 : Int) : Option (Bool) := (cmp_isNaN_uint32.f a0).bind fun t476 => (if t476 = true then ((cmp_isNaN_uint32.f a1).bind fun t477 => (if t477 = true then (some (decide (a0 < a1))) else (some true))) else (some (decide (a0 < a1))))
set_option maxHeartbeats 8000000 in
set_option maxRecDepth 100000 in
theorem cmp_Less_uint32.calls (a0 : Int) (a1 : Int) (r : Bool) (w : World) (h : cmp_Less_uint32.f a0 a1 = some r) :
  Calls Try.prog 51 #[.int .u32 a0, .int .u32 a1] w fun e w' => e = .returned (.bool r) ∧ Drawn0 w w' := by
 have H : ((cmp_isNaN_uint32.f a0).bind fun t476 => (if t476 = true then ((cmp_isNaN_uint32.f a1).bind fun t477 => (if t477 = true then (some (decide (a0 < a1))) else (some true))) else (some (decide (a0 < a1))))) = some r := h
 clear h
 replace H := Option.bind_eq_some_iff.mp H
 obtain ⟨t476, A30, H⟩ := H
 replace H : (if t476 = true then ((cmp_isNaN_uint32.f a1).bind fun t477 => (if t477 = true then (some (decide (a0 < a1))) else (some true))) else (some (decide (a0 < a1)))) = some r := H
 have A3 := Aside0.mk A30
 clear A30
 by_cases c4 : t476 = true
 ·subst c4
  have H1 : ((cmp_isNaN_uint32.f a1).bind fun t477 => (if t477 = true then (some (decide (a0 < a1))) else (some true))) = some r := by rw [if_pos rfl] at H; exact H
  clear H
  have H := H1
  clear H1
  replace H := Option.bind_eq_some_iff.mp H
  obtain ⟨t477, A50, H⟩ := H
  replace H : (if t477 = true then (some (decide (a0 < a1))) else (some true)) = some r := H
  have A5 := Aside0.mk A50
  clear A50
  by_cases c6 : t477 = true
  ·subst c6
   have H1 : (some (decide (a0 < a1))) = some r := by rw [if_pos rfl] at H; exact H
   clear H
   have H := H1
   clear H1
   obtain rfl := Option.some.inj H
   go_enter Try.func51, Try.ntmps51
   go_wp2_with (first | ((with_reducible refine gate_callee (f := 63) rfl ?_); refine goesL_ (some 6) rfl rfl Try.func63 (by kernel_rfl) rfl #[.int .u32 a0] rfl (by (try simp only [List.map_toArray, List.map_cons, List.map_nil]); first | done | rfl | (simp only [List.length_drop, List.length_take]; rfl)) ?_; (with_reducible refine (cmp_isNaN_uint32.calls a0 true _ A3.out).mono ?_); rintro e w' ⟨rfl, ⟨nd, rfl⟩⟩; refine ⟨_, rfl, ?_⟩) | (go_at_call 63; (with_reducible refine (cmp_isNaN_uint32.calls a1 true _ A5.out).mono ?_); rintro e w' ⟨rfl, ⟨nd, rfl⟩⟩))
   go_ret
   exact ⟨by first | rfl | (simp; done) | (simp [*]; done), by repeat (first | exact Drawn0.refl _ | apply Drawn0.step)⟩
  ·replace c6 := Bool.eq_false_iff.mpr c6
   subst c6
   have H1 : (some true) = some r := by rw [if_neg (show ¬ (false = true) by decide)] at H; exact H
   clear H
   have H := H1
   clear H1
   obtain rfl := Option.some.inj H
   go_enter Try.func51, Try.ntmps51
   go_wp2_with (first | ((with_reducible refine gate_callee (f := 63) rfl ?_); refine goesL_ (some 6) rfl rfl Try.func63 (by kernel_rfl) rfl #[.int .u32 a0] rfl (by (try simp only [List.map_toArray, List.map_cons, List.map_nil]); first | done | rfl | (simp only [List.length_drop, List.length_take]; rfl)) ?_; (with_reducible refine (cmp_isNaN_uint32.calls a0 true _ A3.out).mono ?_); rintro e w' ⟨rfl, ⟨nd, rfl⟩⟩; refine ⟨_, rfl, ?_⟩) | (go_at_call 63; (with_reducible refine (cmp_isNaN_uint32.calls a1 false _ A5.out).mono ?_); rintro e w' ⟨rfl, ⟨nd, rfl⟩⟩))
   go_ret
   exact ⟨by first | rfl | (simp; done) | (simp [*]; done), by repeat (first | exact Drawn0.refl _ | apply Drawn0.step)⟩
 ·replace c4 := Bool.eq_false_iff.mpr c4
  subst c4
  have H1 : (some (decide (a0 < a1))) = some r := by rw [if_neg (show ¬ (false = true) by decide)] at H; exact H
  clear H
  have H := H1
  clear H1
  obtain rfl := Option.some.inj H
  go_enter Try.func51, Try.ntmps51
  go_wp2_with (first | ((with_reducible refine gate_callee (f := 63) rfl ?_); refine goesL_ (some 6) rfl rfl Try.func63 (by kernel_rfl) rfl #[.int .u32 a0] rfl (by (try simp only [List.map_toArray, List.map_cons, List.map_nil]); first | done | rfl | (simp only [List.length_drop, List.length_take]; rfl)) ?_; (with_reducible refine (cmp_isNaN_uint32.calls a0 false _ A3.out).mono ?_); rintro e w' ⟨rfl, ⟨nd, rfl⟩⟩; refine ⟨_, rfl, ?_⟩))
  go_ret
  exact ⟨by first | rfl | (simp; done) | (simp [*]; done), by repeat (first | exact Drawn0.refl _ | apply Drawn0.step)⟩

/-! ### slices_isNaN_uint32: function 52 -/
def slices_isNaN_uint32.f (a0 : Int) : Option (Bool) := some (a0 != a0)
set_option maxHeartbeats 8000000 in
set_option maxRecDepth 100000 in
theorem slices_isNaN_uint32.calls (a0 : Int) (r : Bool) (w : World) (h : slices_isNaN_uint32.f a0 = some r) :
  Calls Try.prog 52 #[.int .u32 a0] w fun e w' => e = .returned (.bool r) ∧ Drawn0 w w' := by
 have H : (some (a0 != a0)) = some r := h
 clear h
 obtain rfl := Option.some.inj H
 go_enter Try.func52, Try.ntmps52
 go_wp2
 go_ret
 exact ⟨by first | rfl | (simp; done) | (simp [*]; done), by repeat (first | exact Drawn0.refl _ | apply Drawn0.step)⟩

/-! ### slices_BinarySearch_uint32_uint32: function 37 -/
def slices_BinarySearch_uint32_uint32.l0 : Nat → List Int → Int → Int → Int → Int → Option (Int × Bool)
 | 0, _, _, _, _, _ => none
 | k + 1, x0, x1, x6, x7, x8 => if x7 < x8 then (if 0 ≤ (wrap64 ((IntKind.u64.wrap (wrap64 (x7 + x8))) / 2)) then (if (wrap64 ((IntKind.u64.wrap (wrap64 (x7 + x8))) / 2)) < (x0.length : Int) then ((cmp_Less_uint32.f (rd x0 (wrap64 ((IntKind.u64.wrap (wrap64 (x7 + x8))) / 2))) x1).bind fun t479 => (if t479 = true then (slices_BinarySearch_uint32_uint32.l0 k x0 x1 x6 (wrap64 ((wrap64 ((IntKind.u64.wrap (wrap64 (x7 + x8))) / 2)) + 1)) x8) else (slices_BinarySearch_uint32_uint32.l0 k x0 x1 x6 x7 (wrap64 ((IntKind.u64.wrap (wrap64 (x7 + x8))) / 2))))) else (none)) else (none)) else (if x7 < x6 then (if 0 ≤ x7 then (if x7 < (x0.length : Int) then (if (rd x0 x7) = x1 then (some (x7, true)) else ((slices_isNaN_uint32.f (rd x0 x7)).bind fun t482 => (if t482 = true then ((slices_isNaN_uint32.f x1).bind fun t483 => (some (x7, t483))) else (some (x7, false))))) else (none)) else (none)) else (some (x7, false)))
def slices_BinarySearch_uint32_uint32.f (k : Nat) (l0 : List Int) (a1 : Int) : Option (Int × Bool) := slices_BinarySearch_uint32_uint32.l0 k l0 a1 (l0.length : Int) 0 (l0.length : Int)
theorem slices_BinarySearch_uint32_uint32.mono_l : ∀ k, (∀ y0 y1 y2 y3 y4, LeO (slices_BinarySearch_uint32_uint32.l0 k y0 y1 y2 y3 y4) (slices_BinarySearch_uint32_uint32.l0 (k + 1) y0 y1 y2 y3 y4))
 | 0 => fun _ _ _ _ _ r h => by simp [slices_BinarySearch_uint32_uint32.l0] at h
 | k + 1 => by
  have ih0 := slices_BinarySearch_uint32_uint32.mono_l k
  ·intro y0 y1 y2 y3 y4
   unfold slices_BinarySearch_uint32_uint32.l0
   repeat' first
   | (with_reducible exact ih0 _ _ _ _ _)
   | (with_reducible exact LeO.refl _)
   | (with_reducible exact LeO.none _)
   | (with_reducible refine LeO.ite ?_ ?_)
   | (with_reducible refine LeO.bind ?_ (fun _ => ?_))
   | exact ih0 _ _ _ _ _
   | exact LeO.none _
   | refine LeO.ite ?_ ?_
   | refine LeO.bind ?_ (fun _ => ?_)
theorem slices_BinarySearch_uint32_uint32.mono : ∀ a0 a1 k, LeO (slices_BinarySearch_uint32_uint32.f k a0 a1) (slices_BinarySearch_uint32_uint32.f (k + 1) a0 a1) := by
 intro a0 a1 k
 have ih0 := slices_BinarySearch_uint32_uint32.mono_l k
 unfold slices_BinarySearch_uint32_uint32.f
 repeat' first
   | (with_reducible exact ih0 _ _ _ _ _)
   | (with_reducible exact LeO.refl _)
   | (with_reducible exact LeO.none _)
   | (with_reducible refine LeO.ite ?_ ?_)
   | (with_reducible refine LeO.bind ?_ (fun _ => ?_))
   | exact ih0 _ _ _ _ _
   | exact LeO.none _
   | refine LeO.ite ?_ ?_
   | refine LeO.bind ?_ (fun _ => ?_)
set_option maxHeartbeats 8000000 in
set_option maxRecDepth 100000 in
theorem slices_BinarySearch_uint32_uint32.calls (k : Nat) (A0 : Option Addr) (c0 : Nat) (l0 : List Int) (a1 : Int) (r1 : Int) (r2 : Bool) (w : World) (hr0 : Kd.C (Kd.int .u32) w A0 l0.length l0) (hc0 : l0.length ≤ c0) (h : slices_BinarySearch_uint32_uint32.f k l0 a1 = some (r1, r2)) :
  Calls Try.prog 37 #[.slice A0 l0.length c0, .int .u32 a1] w fun e w' => e = .returned (.tuple #[.int .i64 r1, .bool r2]) ∧ Drawn0 w w' := by
 have HR0 := Aside0.mk hr0
 have HC0 := Aside0.mk hc0
 clear hr0 hc0
 have H : (slices_BinarySearch_uint32_uint32.l0 k l0 a1 (l0.length : Int) 0 (l0.length : Int)) = some (r1, r2) := h
 clear h
 have H' := Aside0.mk H
 clear H
 go_enter Try.func37, Try.ntmps37
 go_wp2
 go_loopg [7, 8] k (fun kq v7 v8 w' => ∃ (x7_1 : Int) (x8_1 : Int), v7 = .int .i64 x7_1 ∧ v8 = .int .i64 x8_1 ∧ Aside0 (slices_BinarySearch_uint32_uint32.l0 kq l0 a1 (l0.length : Int) x7_1 x8_1 = some (r1, r2)) ∧ Aside0 (kq ≤ k) ∧ Drawn0 w w')
 case atStart => exact ⟨(0), ((l0.length : Int)), (by first | rfl | (simp; done) | (simp [*]; done)), (by first | rfl | (simp; done) | (simp [*]; done)), H', ⟨Nat.le_refl _⟩, by repeat (first | exact Drawn0.refl _ | apply Drawn0.step)⟩
 case round =>
  clear H'
  try clear p2
  obtain ⟨x7_1, x8_1, rfl, rfl, HA, HK1, ⟨m1, rfl⟩⟩ := hrel
  cases gk with
  | zero => exact absurd HA.out (by simp [slices_BinarySearch_uint32_uint32.l0])
  | succ k1 =>
   have H := HA.out
   clear HA
   simp only [slices_BinarySearch_uint32_uint32.l0] at H
   by_cases c3 : x7_1 < x8_1
   ·rw [if_pos c3] at H
    have c3b0 : decide (x7_1 < x8_1) = true := decide_eq_true c3
    clear c3
    obtain ⟨ji4, hji4⟩ : ∃ j_ : Int, (wrap64 ((IntKind.u64.wrap (wrap64 (x7_1 + x8_1))) / 2)) = j_ := ⟨_, rfl⟩
    replace H : (if 0 ≤ (ji4) then (if (ji4) < (l0.length : Int) then ((cmp_Less_uint32.f (rd l0 (ji4)) a1).bind fun t479 => (if t479 = true then (slices_BinarySearch_uint32_uint32.l0 k1 l0 a1 (l0.length : Int) (wrap64 ((ji4) + 1)) x8_1) else (slices_BinarySearch_uint32_uint32.l0 k1 l0 a1 (l0.length : Int) x7_1 ji4))) else (none)) else (none)) = some (r1, r2) := by first | (rw [hji4] at H; exact H) | (simp only [hji4] at H ⊢; exact H)
    have hji4w : (IntKind.i64.wrap ((IntKind.u64.wrap (wrap64 (x7_1 + x8_1))) / 2)) = ji4 := (i64_w _).trans hji4
    by_cases c5 : 0 ≤ (ji4)
    ·rw [if_pos c5] at H
     have c5b0 : decide (0 ≤ (ji4)) = true := decide_eq_true c5
     clear c5
     by_cases c6 : (ji4) < (l0.length : Int)
     ·rw [if_pos c6] at H
      have c6b0 : decide ((ji4) < (l0.length : Int)) = true := decide_eq_true c6
      clear c6
      replace H := Option.bind_eq_some_iff.mp H
      obtain ⟨t479, A70, H⟩ := H
      replace H : (if t479 = true then (slices_BinarySearch_uint32_uint32.l0 k1 l0 a1 (l0.length : Int) (wrap64 ((ji4) + 1)) x8_1) else (slices_BinarySearch_uint32_uint32.l0 k1 l0 a1 (l0.length : Int) x7_1 ji4)) = some (r1, r2) := H
      have A7 := Aside0.mk A70
      clear A70
      by_cases c8 : t479 = true
      ·subst c8
       have H1 : (slices_BinarySearch_uint32_uint32.l0 k1 l0 a1 (l0.length : Int) (wrap64 ((ji4) + 1)) x8_1) = some (r1, r2) := by rw [if_pos rfl] at H; exact H
       clear H
       have H := H1
       clear H1
       have H' := Aside0.mk H
       clear H
       have p478 : 0 ≤ ((ji4) : Int) := of_decide_eq_true (by first | (with_reducible assumption) | assumption)
       have q478 : (ji4) < (l0.length : Int) := of_decide_eq_true (by first | (with_reducible assumption) | assumption)
       obtain ⟨ad478, e478, hx478_0⟩ := Kd.at_int HR0.out (ji4) p478 q478
       cases e478
       replace p478 := eq_true p478
       replace q478 := eq_true q478
       go_wp2_with (first | ((with_reducible refine gate_callee (f := 51) rfl ?_); refine goesL_ (some 27) rfl rfl Try.func51 (by kernel_rfl) rfl #[.int .u32 (rd l0 (ji4)), .int .u32 a1] rfl (by (try simp only [List.map_toArray, List.map_cons, List.map_nil]); first | done | (simp only [hji4]; rfl) | rfl | (simp only [List.length_drop, List.length_take]; rfl)) ?_; (with_reducible refine (cmp_Less_uint32.calls (rd l0 (ji4)) a1 true _ A7.out).mono ?_); rintro e w' ⟨rfl, ⟨nd, rfl⟩⟩; refine ⟨_, rfl, ?_⟩))
       go_roundg k1
       case measure => have := HK1.out; omega
       case rel => exact ⟨(wrap64 ((ji4) + 1)), (x8_1), (by first | rfl | (simp; done) | (simp only [← hji4] <;> (first | rfl | simp)) | (simp [*]; done)), (by first | rfl | (simp; done) | (simp [*]; done)), H', ⟨by have := HK1.out; omega⟩, by repeat (first | exact Drawn0.refl _ | apply Drawn0.step)⟩
      ·replace c8 := Bool.eq_false_iff.mpr c8
       subst c8
       have H1 : (slices_BinarySearch_uint32_uint32.l0 k1 l0 a1 (l0.length : Int) x7_1 ji4) = some (r1, r2) := by rw [if_neg (show ¬ (false = true) by decide)] at H; exact H
       clear H
       have H := H1
       clear H1
       have H' := Aside0.mk H
       clear H
       have p478 : 0 ≤ ((ji4) : Int) := of_decide_eq_true (by first | (with_reducible assumption) | assumption)
       have q478 : (ji4) < (l0.length : Int) := of_decide_eq_true (by first | (with_reducible assumption) | assumption)
       obtain ⟨ad478, e478, hx478_0⟩ := Kd.at_int HR0.out (ji4) p478 q478
       cases e478
       replace p478 := eq_true p478
       replace q478 := eq_true q478
       go_wp2_with (first | ((with_reducible refine gate_callee (f := 51) rfl ?_); refine goesL_ (some 27) rfl rfl Try.func51 (by kernel_rfl) rfl #[.int .u32 (rd l0 (ji4)), .int .u32 a1] rfl (by (try simp only [List.map_toArray, List.map_cons, List.map_nil]); first | done | (simp only [hji4]; rfl) | rfl | (simp only [List.length_drop, List.length_take]; rfl)) ?_; (with_reducible refine (cmp_Less_uint32.calls (rd l0 (ji4)) a1 false _ A7.out).mono ?_); rintro e w' ⟨rfl, ⟨nd, rfl⟩⟩; refine ⟨_, rfl, ?_⟩))
       go_roundg k1
       case measure => have := HK1.out; omega
       case rel => exact ⟨(x7_1), (ji4), (by first | rfl | (simp; done) | (simp [*]; done)), (by first | rfl | (simp; done) | (simp only [← hji4] <;> (first | rfl | simp)) | (simp [*]; done)), H', ⟨by have := HK1.out; omega⟩, by repeat (first | exact Drawn0.refl _ | apply Drawn0.step)⟩
     ·rw [if_neg c6] at H
      exact absurd H (by simp)
    ·rw [if_neg c5] at H
     exact absurd H (by simp)
   ·rw [if_neg c3] at H
    have c3b0 : decide (x7_1 < x8_1) = false := decide_eq_false c3
    clear c3
    by_cases c9 : x7_1 < (l0.length : Int)
    ·rw [if_pos c9] at H
     have c9b0 : decide (x7_1 < (l0.length : Int)) = true := decide_eq_true c9
     clear c9
     by_cases c10 : 0 ≤ x7_1
     ·rw [if_pos c10] at H
      have c10b0 : decide (0 ≤ x7_1) = true := decide_eq_true c10
      clear c10
      by_cases c11 : x7_1 < (l0.length : Int)
      ·rw [if_pos c11] at H
       have c11b0 : decide (x7_1 < (l0.length : Int)) = true := decide_eq_true c11
       clear c11
       by_cases c12 : (rd l0 x7_1) = a1
       ·rw [if_pos c12] at H
        have c12b0 : ((rd l0 x7_1) == a1) = true := beq_iff_eq.mpr c12
        have c12b1 : ((rd l0 x7_1) != a1) = false := bne_eq_false_iff_eq.mpr c12
        clear c12
        simp only [Option.some.injEq, Prod.mk.injEq] at H
        obtain ⟨rfl, rfl⟩ := H
        have p480 : 0 ≤ (x7_1 : Int) := of_decide_eq_true (by first | (with_reducible assumption) | assumption)
        have q480 : x7_1 < (l0.length : Int) := of_decide_eq_true (by first | (with_reducible assumption) | assumption)
        obtain ⟨ad480, e480, hx480_0⟩ := Kd.at_int HR0.out x7_1 p480 q480
        cases e480
        replace p480 := eq_true p480
        replace q480 := eq_true q480
        go_wp2
        go_ret2
        exact ⟨by first | rfl | (simp; done) | (simp [*]; done), by repeat (first | exact Drawn0.refl _ | apply Drawn0.step)⟩
       ·rw [if_neg c12] at H
        have c12b0 : ((rd l0 x7_1) == a1) = false := beq_eq_false_iff_ne.mpr c12
        have c12b1 : ((rd l0 x7_1) != a1) = true := bne_iff_ne.mpr c12
        replace H := Option.bind_eq_some_iff.mp H
        obtain ⟨t482, A130, H⟩ := H
        replace H : (if t482 = true then ((slices_isNaN_uint32.f a1).bind fun t483 => (some (x7_1, t483))) else (some (x7_1, false))) = some (r1, r2) := H
        have A13 := Aside0.mk A130
        clear A130
        by_cases c14 : t482 = true
        ·subst c14
         have H1 : ((slices_isNaN_uint32.f a1).bind fun t483 => (some (x7_1, t483))) = some (r1, r2) := by rw [if_pos rfl] at H; exact H
         clear H
         have H := H1
         clear H1
         replace H := Option.bind_eq_some_iff.mp H
         obtain ⟨t483, A150, H⟩ := H
         replace H : (some (x7_1, t483)) = some (r1, r2) := H
         have A15 := Aside0.mk A150
         clear A150
         simp only [Option.some.injEq, Prod.mk.injEq] at H
         obtain ⟨rfl, rfl⟩ := H
         have p480 : 0 ≤ (x7_1 : Int) := of_decide_eq_true (by first | (with_reducible assumption) | assumption)
         have q480 : x7_1 < (l0.length : Int) := of_decide_eq_true (by first | (with_reducible assumption) | assumption)
         obtain ⟨ad480, e480, hx480_0⟩ := Kd.at_int HR0.out x7_1 p480 q480
         cases e480
         replace p480 := eq_true p480
         replace q480 := eq_true q480
         have p481 : 0 ≤ (x7_1 : Int) := of_decide_eq_true (by first | (with_reducible assumption) | assumption)
         have q481 : x7_1 < (l0.length : Int) := of_decide_eq_true (by first | (with_reducible assumption) | assumption)
         obtain ⟨ad481, e481, hx481_0⟩ := Kd.at_int HR0.out x7_1 p481 q481
         obtain rfl : ad480 = ad481 := (by injection e481)
         replace p481 := eq_true p481
         replace q481 := eq_true q481
         go_wp2_with (first | (go_at_call 52; (with_reducible refine (slices_isNaN_uint32.calls (rd l0 x7_1) true _ A13.out).mono ?_); rintro e w' ⟨rfl, ⟨nd, rfl⟩⟩) | (go_at_call 52; (with_reducible refine (slices_isNaN_uint32.calls a1 t483 _ A15.out).mono ?_); rintro e w' ⟨rfl, ⟨nd, rfl⟩⟩))
         go_ret2
         exact ⟨by first | rfl | (simp; done) | (simp [*]; done), by repeat (first | exact Drawn0.refl _ | apply Drawn0.step)⟩
        ·replace c14 := Bool.eq_false_iff.mpr c14
         subst c14
         have H1 : (some (x7_1, false)) = some (r1, r2) := by rw [if_neg (show ¬ (false = true) by decide)] at H; exact H
         clear H
         have H := H1
         clear H1
         simp only [Option.some.injEq, Prod.mk.injEq] at H
         obtain ⟨rfl, rfl⟩ := H
         have p480 : 0 ≤ (x7_1 : Int) := of_decide_eq_true (by first | (with_reducible assumption) | assumption)
         have q480 : x7_1 < (l0.length : Int) := of_decide_eq_true (by first | (with_reducible assumption) | assumption)
         obtain ⟨ad480, e480, hx480_0⟩ := Kd.at_int HR0.out x7_1 p480 q480
         cases e480
         replace p480 := eq_true p480
         replace q480 := eq_true q480
         have p481 : 0 ≤ (x7_1 : Int) := of_decide_eq_true (by first | (with_reducible assumption) | assumption)
         have q481 : x7_1 < (l0.length : Int) := of_decide_eq_true (by first | (with_reducible assumption) | assumption)
         obtain ⟨ad481, e481, hx481_0⟩ := Kd.at_int HR0.out x7_1 p481 q481
         obtain rfl : ad480 = ad481 := (by injection e481)
         replace p481 := eq_true p481
         replace q481 := eq_true q481
         go_wp2_with (first | (go_at_call 52; (with_reducible refine (slices_isNaN_uint32.calls (rd l0 x7_1) false _ A13.out).mono ?_); rintro e w' ⟨rfl, ⟨nd, rfl⟩⟩))
         go_ret2
         exact ⟨by first | rfl | (simp; done) | (simp [*]; done), by repeat (first | exact Drawn0.refl _ | apply Drawn0.step)⟩
      ·rw [if_neg c11] at H
       exact absurd H (by simp)
     ·rw [if_neg c10] at H
      exact absurd H (by simp)
    ·rw [if_neg c9] at H
     have c9b0 : decide (x7_1 < (l0.length : Int)) = false := decide_eq_false c9
     clear c9
     simp only [Option.some.injEq, Prod.mk.injEq] at H
     obtain ⟨rfl, rfl⟩ := H
     go_wp2
     go_ret2
     exact ⟨by first | rfl | (simp; done) | (simp [*]; done), by repeat (first | exact Drawn0.refl _ | apply Drawn0.step)⟩

/-! ### shard_Shard_Has: function 23 -/
/-- What 'Has' tells, by the neighbours of the vertex. -/
def shHas (k : Nat) (s : Option (Int × List (List Int))) (v to_ : Int) : Option Bool := (slices_BinarySearch_uint32_uint32.f k (shNext s v).1 to_).bind fun r => some r.2
set_option maxHeartbeats 8000000 in
set_option maxRecDepth 100000 in
theorem sh_Has (k : Nat) (p : Value) (m : Nat) (s : Option (Int × List (List Int))) (v to_ : Int) (b : Bool) (w : World) (h : ShPtr w p m s) (hs : ShFit s) (hv : -9223372036854775808 ≤ v ∧ v < 9223372036854775808) (hl : (shNext s v).1.length < 1000000000) (hb : shHas k s v to_ = some b) :
  Calls Try.prog 23 #[p, .int .i64 v, .int .u32 to_] w fun e w' => e = .returned (.bool b) ∧ Below w.heap.size w w' := by
 obtain ⟨⟨r1, r2⟩, hf, hb⟩ := Option.bind_eq_some_iff.mp hb
 obtain rfl := Option.some.inj hb
 have HF := Aside0.mk hf
 have HN := Aside0.mk (sh_Next p m s v w h hs hv hl)
 clear h hs hv hl hf hb
 go_enter Try.func23, Try.ntmps23
 go_wp2_with (first | (go_at_call 15; (with_reducible refine (HN.out).mono ?_); rintro e w1 ⟨v1, rfl, ho, hb⟩; obtain ⟨A1, c1, rfl⟩ := Kd.R_slice ho; have HO := Aside0.mk ho; have HB := Aside0.mk hb; clear ho hb) | (go_at_call 37; (with_reducible refine (slices_BinarySearch_uint32_uint32.calls k _ _ _ _ _ _ _ (Kd.R_reads' HO.out).2.2 (Kd.R_reads' HO.out).2.1 HF.out).mono ?_); rintro e w2 ⟨rfl, hd⟩; have HD := Aside0.mk hd; clear hd))
 go_ret
 exact ⟨rfl, below_step HB.out HD.out.below⟩

/-! ### creellaw18_ShardOpens: function 6 -/
def OpensOk (k : Nat) (v t : Int) : Option (Int × List (List Int)) → Prop
 | none => True
 | some s => 0 ≤ s.1 ∧ s.1 ≤ 4294967296 ∧ s.2.length ≤ 100000 ∧ sumLen s.2 ≤ 1000000 ∧ (∀ x ∈ s.2, x.length ≤ 1000000 ∧ creelref17_Same.f k x x = some true) ∧ creelref17_Same.f k (shNext (some s) v).1 (shNext (some s) v).1 = some true ∧ (shNext (some s) v).1.length ≤ 1000000 ∧ shHas k (some s) v t = some (decide (t ∈ (shNext (some s) v).1))
def creellaw18_ShardOpens.Pure : Prop := ∀ (l0 : List Int) (v t : Int), l0.length ≤ maxLen → (∀ n ∈ l0, (Lit.int .u8 n).wf = true) → (Lit.int .i64 v).wf = true → (Lit.int .u32 t).wf = true → ∃ (k : Nat) (o : Option (Int × List (List Int))), creellaw18_shown.f k = some true ∧ shard_Open.f k (l0.take (min l0.length 4000)) = some o ∧ creelref18_Open.f k (l0.take (min l0.length 4000)) = some o ∧ OpensOk k v t o
theorem wf_range64b {x : Int} (h : (Lit.int .i64 x).wf = true) : -9223372036854775808 ≤ x ∧ x < 9223372036854775808 := by
 have e1 : IntKind.i64.min = -9223372036854775808 := by decide
 have e2 : IntKind.i64.max = 9223372036854775807 := by decide
 simp only [Lit.wf, e1, e2, Bool.and_eq_true, decide_eq_true_eq] at h
 omega
set_option maxHeartbeats 8000000 in
set_option maxRecDepth 100000 in
theorem creellaw18_ShardOpens.walk (P : creellaw18_ShardOpens.Pure) (a0 : Option Addr) (len0 cap0 : Nat) (z0 : List Int) (a1 : Int) (a2 : Int) (w : World) (w0 : (a0 = none ∧ len0 = 0 ∧ cap0 = 0 ∧ z0 = []) ∨ ∃ x, a0 = some x ∧ len0 ≤ cap0 ∧ cap0 ≤ maxLen ∧ z0.length = cap0 ∧ (∀ i, i < z0.length → w.cell? (x.add i) = some (.int .u8 (z0.getD i 0))) ∧ ∀ n ∈ z0, (Lit.int .u8 n).wf = true) (y0 : len0 * 1 ≤ 140737488351232) (w1 : (Lit.int .i64 a1).wf = true) (w2 : (Lit.int .u32 a2).wf = true) :
  Calls Try.prog 6 #[.slice a0 len0 cap0, .int .i64 a1, .int .u32 a2] w fun e w' => e = .returned (.bool true) ∧ Below w.heap.size w w' := by
 obtain ⟨l0, rfl, hr0, hm0, hw0, hc0⟩ := ReadsInt.ofRowC w0
 obtain ⟨k, o, hs, hO, hRO, hok⟩ := P l0 a1 a2 hm0 hw0 w1 w2
 have hv := wf_range64b w1
 have HF0 := Aside0.mk (Kd.C_F (Kd.heap_int .u8) (Kd.C_of_reads (d := (0 : Int)) (h1 := fun _ => rfl) hr0))
 obtain ⟨x, hx⟩ : ∃ x, l0.take (min l0.length 4000) = x := ⟨_, rfl⟩
 rw [hx] at hO hRO
 have hxl : x.length = min l0.length 4000 := by rw [← hx, List.length_take]; omega
 obtain ⟨n1, hn1, hn1c, hcut1, hF1⟩ := Hand.cut_take (P := Try.prog) 26 .i64 Try.underlying26 (by kernel_rfl) HF0.out hc0 (min l0.length 4000) (Nat.min_le_left _ _)
 rw [hx] at hn1 hF1
 subst hn1
 have hmin : (if (l0.length : Int) < 4000 then (l0.length : Int) else 4000) = (x.length : Int) := by rw [hxl]; split <;> omega
 have hmin2 : (if (4000 : Int) < (l0.length : Int) then (4000 : Int) else (l0.length : Int)) = (x.length : Int) := by rw [hxl]; split <;> omega
 rw [← hxl] at hcut1
 have HS := Aside0.mk hs
 have HO := Aside0.mk hO
 have HRO := Aside0.mk hRO
 have HOK := Aside0.mk hok
 have HF1 := Aside0.mk hF1
 have HN1 := Aside0.mk hn1c
 have HV := Aside0.mk hv
 clear hs hO hRO hok hF1 hn1c hv hx hxl w0 w1 w2 hw0 hm0 hr0 y0
 cases o with
 | none =>
  go_enter Try.func6, Try.ntmps6
  go_wp2_with (first | (go_at_call 9; (with_reducible refine (creellaw18_shown.calls k _ _ HS.out).mono ?_); rintro e wa ⟨rfl, hb⟩; have HBa := Aside0.mk hb; have HX2 := Aside0.mk (Kd.F_below HF1.out hb); clear hb) | (go_at_call 14; (with_reducible refine (shard_Open.calls k _ _ x _ _ (Kd.F_now HX2.out) HN1.out HO.out).mono ?_); rintro e wb ⟨h_, hb⟩; replace h_ : e = .returned (.tuple #[.pointer none, .int .i64 6]) := h_; subst h_; have HBb := Aside0.mk (below_step HBa.out hb); have HX3 := Aside0.mk (Kd.F_below HX2.out hb); clear hb) | (go_at_call 19; (with_reducible refine (creelref18_Open.calls k _ _ x _ _ (Kd.F_now HX3.out) HN1.out HRO.out).mono ?_); rintro e wc ⟨h_, hb⟩; replace h_ : e = .returned (.tuple #[.pointer none, .int .i64 6]) := h_; subst h_; have HBc := Aside0.mk (below_step HBb.out hb); clear hb))
  go_ret
  exact ⟨rfl, HBc.out⟩
 | some s =>
  obtain ⟨a, L⟩ := s
  obtain ⟨k1, k2, k3, k4, hsame, hsm, hml, hhas⟩ : 0 ≤ a ∧ a ≤ 4294967296 ∧ L.length ≤ 100000 ∧ sumLen L ≤ 1000000 ∧ (∀ x ∈ L, x.length ≤ 1000000 ∧ creelref17_Same.f k x x = some true) ∧ creelref17_Same.f k (shNext (some (a, L)) a1).1 (shNext (some (a, L)) a1).1 = some true ∧ (shNext (some (a, L)) a1).1.length ≤ 1000000 ∧ shHas k (some (a, L)) a1 a2 = some (decide (a2 ∈ (shNext (some (a, L)) a1).1)) := HOK.out
  have HSAME := Aside0.mk hsame
  have HSMM := Aside0.mk hsm
  have HHAS := Aside0.mk hhas
  have HML := Aside0.mk hml
  have HFIT : Aside0 (ShFit (some (a, L))) := ⟨⟨k1, k2, by show L.length ≤ 1000000; omega⟩⟩
  have hfr : shFrom (some (a, L)) = a := rfl
  have hle : shLen (some (a, L)) = L.length := rfl
  have hed : shEdges (some (a, L)) = sumLen L := rfl
  clear hsame hsm hhas hml HOK
  go_enter Try.func6, Try.ntmps6
  go_wp2_with (first | (go_at_call 9; (with_reducible refine (creellaw18_shown.calls k _ _ HS.out).mono ?_); rintro e wa ⟨rfl, hb⟩; have HBa := Aside0.mk hb; have HX2 := Aside0.mk (Kd.F_below HF1.out hb); clear hb) | (go_at_call 14; (with_reducible refine (shard_Open.calls k _ _ x _ _ (Kd.F_now HX2.out) HN1.out HO.out).mono ?_); rintro e wb ⟨⟨q, rfl, hsh⟩, hb⟩; have HSH := Aside0.mk hsh; have HBb := Aside0.mk (below_step HBa.out hb); have HX3 := Aside0.mk (Kd.F_below HX2.out hb); clear hb hsh) | (go_at_call 19; (with_reducible refine (creelref18_Open.calls k _ _ x _ _ (Kd.F_now HX3.out) HN1.out HRO.out).mono ?_); rintro e wc ⟨⟨p, rfl, hrs⟩, hb⟩; have HRS := Aside0.mk hrs; have HSH2 := Aside0.mk (HSH.out.below hb); have HBc := Aside0.mk (below_step HBb.out hb); clear hb hrs))
  have hnq : ∀ n : Nat, Below wc.heap.size wc (wc.drewN n) := fun n => pw_below_drewN (Below.refl _ _) n
  have HP1 : Aside0 (∀ n : Nat, ShPtr (wc.drewN n) (.pointer (some ⟨q, 0, none⟩)) wa.heap.size (some (a, L))) := ⟨fun n => ⟨q, rfl, HSH2.out.below (hnq n)⟩⟩
  have HP2 : Aside0 (∀ n : Nat, RsIs (wc.drewN n) p wb.heap.size a L) := ⟨fun n => HRS.out.below (hnq n)⟩
  have hrc := HRS.out
  obtain ⟨-, vr, hrq, hrN⟩ := hrc
  obtain ⟨Ar, cr, rfl⟩ := Kd.N_slice hrN
  have r0 : wc.cell? ⟨p, 0, none⟩ = some (.int .i64 a) := cell_of_row _ _ _ _ _ _ hrq
  have r1 : wc.cell? ⟨p, 1, none⟩ = some (.slice Ar L.length cr) := cell_of_row _ _ _ _ _ _ hrq
  have HLF := Aside0.mk (Kd.C_F (Kd.heap_slice 31 (Kd.heap_int .u32)) (Kd.N_reads' hrN).2.2)
  have HRQ := Aside0.mk hrq
  clear hrq hrN
  go_quiet (first | (go_at_call 20; exact Calls.quiet_of_same (sh_From _ _ _ _ (HP1.out _))) | (go_at_call 17; exact Calls.quiet_of_same (sh_Len _ _ _ _ (HP1.out _))) | (go_at_call 18; exact Calls.quiet_of_same (sh_Edges _ _ _ _ (HP1.out _))) | (go_at_call 21; exact Calls.quiet_of_same (rs_Edges _ _ _ _ _ (HP2.out _) (by omega) (by omega))))
  go_wp2
  have hpw : p < wc.heap.size := World.block_lt_of_cell? _ _ r0
  go_loopw [81] (fun v81 wr => ∃ (i : Nat), v81 = .int .i64 i ∧ i ≤ L.length ∧ Aside0 (Below wc.heap.size wc wr)) (fun v81 _ => L.length - (intOf v81).toNat)
  case atStart => exact ⟨0, rfl, Nat.zero_le _, ⟨pw_below_drewN (Below.refl _ _) _⟩⟩
  case round =>
   clear r0 r1
   obtain ⟨i, rfl, hi, HBR⟩ := hrel
   obtain ⟨wS, rfl⟩ : ∃ z, z = wr := ⟨_, rfl⟩
   have hrs := (HBR.out.block p hpw).trans HRQ.out
   have r0 : wS.cell? ⟨p, 0, none⟩ = some (.int .i64 a) := cell_of_row _ _ _ _ _ _ hrs
   have HSH3 := Aside0.mk (HSH2.out.below HBR.out)
   by_cases hlt : i < L.length
   ·obtain ⟨y, hy⟩ : ∃ y, rd_L3 L (i : Int) = y := ⟨_, rfl⟩
    have hym : y ∈ L := by rw [← hy]; exact rdL_in hlt
    obtain ⟨hyl, hys⟩ := HSAME.out y hym
    have hsn := shNext_in a L i hlt
    rw [hy] at hsn
    have hN := fun (W : World) (h_ : ShIs W q wa.heap.size a L (sumLen L : Nat)) => sh_Next (.pointer (some ⟨q, 0, none⟩)) wa.heap.size (some (a, L)) (a + (i : Int)) W ⟨q, rfl, h_⟩ HFIT.out ⟨by omega, by omega⟩ (by rw [hsn]; show y.length < 1000000000; omega)
    simp only [hsn] at hN
    have HN := Aside0.mk hN
    have HYS := Aside0.mk hys
    have HY := Aside0.mk hy
    have i0 : (0 : Int) ≤ (i : Int) := by omega
    have i1 : (i : Int) < (L.length : Int) := by omega
    have HRW := Aside0.mk hrs
    have hpS : p < wS.heap.size := World.block_lt_of_cell? _ _ r0
    clear hN hys hsn hy hym hrs
    go_wp2_with (first | (go_at_call 15; (with_reducible refine (HN.out _ HSH3.out).mono ?_); rintro e we ⟨v3, rfl, ho, hb⟩; obtain ⟨Ax, cx, rfl⟩ := Kd.R_slice ho; have HX := Aside0.mk ho; have r1 : we.cell? ⟨p, 1, none⟩ = some (.slice Ar L.length cr) := cell_of_row _ _ _ _ _ _ ((hb.block p hpS).trans HRW.out); have HBe := Aside0.mk (below_step HBR.out hb); obtain ⟨ad, Ai, ci, e5, hcell, hci, hCi⟩ := at_L3 (Kd.F_now (Kd.F_below HLF.out HBe.out)) (i : Int) i0 i1; rw [Int.toNat_natCast, HY.out] at hcell; rw [HY.out] at hci hCi; cases e5; have HCI := Aside0.mk hci; have HCC := Aside0.mk hCi; clear ho hb hci hCi) | (go_at_call 16; (with_reducible refine (creelref17_Same.calls k _ _ y _ _ y true _ (Kd.R_reads' HX.out).2.2 (Kd.R_reads' HX.out).2.1 HCC.out HCI.out HYS.out).mono ?_); rintro e wg ⟨rfl, hd⟩; have HBg := Aside0.mk (below_step HBe.out hd.below); clear hd))
    refine ⟨?_, ?_⟩
    ·(repeat apply Exists.intro)
     refine ⟨⟨i + 1, ?_, ?_, HBg⟩, rfl⟩
     ·go_num
     ·omega
    ·simp [intOf]; omega
   ·have HRS3 := Aside0.mk (HRS.out.below HBR.out)
    obtain ⟨Y, hY⟩ : ∃ Y, shNext (some (a, L)) a1 = Y := ⟨_, rfl⟩
    obtain ⟨y, ok⟩ := Y
    have hN := fun (W : World) (h_ : ShIs W q wa.heap.size a L (sumLen L : Nat)) => sh_Next (.pointer (some ⟨q, 0, none⟩)) wa.heap.size (some (a, L)) a1 W ⟨q, rfl, h_⟩ HFIT.out HV.out (by have h_ := HML.out; omega)
    have hR := fun (W : World) (h_ : RsIs W p wb.heap.size a L) => rs_Next p wb.heap.size a L a1 W h_ ⟨k1, k2, by omega⟩ HV.out
    have hH := fun (W : World) (h_ : ShIs W q wa.heap.size a L (sumLen L : Nat)) => sh_Has k (.pointer (some ⟨q, 0, none⟩)) wa.heap.size (some (a, L)) a1 a2 _ W ⟨q, rfl, h_⟩ HFIT.out HV.out (by have h_ := HML.out; omega) HHAS.out
    have hsm := HSMM.out
    have hml := HML.out
    rw [hY] at hsm hml
    simp only [hY] at hN hR hH
    have HN := Aside0.mk hN
    have HR := Aside0.mk hR
    have HH := Aside0.mk hH
    have HSM := Aside0.mk hsm
    clear hN hR hH hsm hY hrs
    go_wp2_with (first | (go_at_call 15; (with_reducible refine (HN.out _ HSH3.out).mono ?_); rintro e we ⟨v3, rfl, ho, hb⟩; obtain ⟨Ax, cx, rfl⟩ := Kd.R_slice ho; have HX := Aside0.mk ho; have HBe := Aside0.mk (below_step HBR.out hb); have HRS4 := Aside0.mk (HRS3.out.below hb); have HSH4 := Aside0.mk (HSH3.out.below hb); clear ho hb) | (go_at_call 22; (with_reducible refine (HR.out _ HRS4.out).mono ?_); rintro e wf ⟨Ay, cy, rfl, hcy, hCy, hb⟩; have HCY := Aside0.mk (Kd.C_F (Kd.heap_int .u32) hCy); have HCL := Aside0.mk hcy; have HXf := Aside0.mk (Kd.R_below HX.out hb); have HBf := Aside0.mk (below_step HBe.out hb); have HSH5 := Aside0.mk (HSH4.out.below hb); clear hCy hcy hb))
    obtain ⟨wY, rfl⟩ : ∃ z, z = wf := ⟨_, rfl⟩
    go_loopw [20, 124] (fun v20 v124 wq => ∃ (j : Nat), v124 = .int .i64 j ∧ j ≤ y.length ∧ v20 = .bool (decide (a2 ∈ y.take j)) ∧ wq = wY) (fun _ v124 _ => y.length - (intOf v124).toNat)
    case atStart => exact ⟨0, rfl, Nat.zero_le _, by simp, rfl⟩
    case round =>
     obtain ⟨j, rfl, hj, rfl, rfl⟩ := hrel
     by_cases hlt2 : j < y.length
     ·obtain ⟨ad2, e6, hce2⟩ := Kd.at_int (Kd.F_now HCY.out) (j : Int) (by omega) (by omega)
      obtain ⟨z, hz⟩ : ∃ z, rd y (j : Int) = z := ⟨_, rfl⟩
      have hze : y[j] = z := by rw [← hz]; simp [rd, hlt2]
      rw [hz, Int.toNat_natCast] at hce2
      subst e6
      have j0 : (0 : Int) ≤ (j : Int) := by omega
      have j1 : (j : Int) < (y.length : Int) := by omega
      have hnx : decide (a2 ∈ y.take (j + 1)) = (decide (a2 ∈ y.take j) || decide (z = a2)) := by
       rw [List.take_succ_eq_append_getElem hlt2, hze]
       by_cases h1 : a2 ∈ y.take j
       ·simp [h1]
       ·by_cases h2 : z = a2
        ·simp [h2]
        ·have h3 : ¬ a2 = z := fun h_ => h2 h_.symm
         simp [h1, h2, h3]
      cases hb : decide (a2 ∈ y.take j) with
      | true =>
       have HNX : Aside0 (decide (a2 ∈ y.take (j + 1)) = true) := ⟨by rw [hnx, hb]; rfl⟩
       clear hnx hz hze hb
       go_wp2
       go_roundw
       case rel => exact ⟨j + 1, by go_num, by omega, by rw [HNX.out], by first | rfl | trivial⟩
       case measure => simp [intOf]; omega
      | false =>
       cases hb2 : decide (z = a2) with
       | true =>
        have HNX : Aside0 (decide (a2 ∈ y.take (j + 1)) = true) := ⟨by rw [hnx, hb, hb2]; rfl⟩
        have hzb : (z == a2) = true := beq_iff_eq.mpr (of_decide_eq_true hb2)
        clear hnx hz hze hb hb2
        go_wp2
        go_roundw
        case rel => exact ⟨j + 1, by go_num, by omega, by rw [HNX.out], by first | rfl | trivial⟩
        case measure => simp [intOf]; omega
       | false =>
        have HNX : Aside0 (decide (a2 ∈ y.take (j + 1)) = false) := ⟨by rw [hnx, hb, hb2]; rfl⟩
        have hzb : (z == a2) = false := beq_eq_false_iff_ne.mpr (of_decide_eq_false hb2)
        clear hnx hz hze hb hb2
        go_wp2
        go_roundw
        case rel => exact ⟨j + 1, by go_num, by omega, by rw [HNX.out], by first | rfl | trivial⟩
        case measure => simp [intOf]; omega
     ·obtain rfl : j = y.length := by omega
      rw [List.take_length]
      obtain ⟨B, hB⟩ : ∃ B, decide (a2 ∈ y) = B := ⟨_, rfl⟩
      rw [hB]
      have hH := HH.out
      simp only [hB] at hH
      have HH2 := Aside0.mk hH
      clear hH hB
      go_wp2_with (first | (go_at_call 16; (with_reducible refine (creelref17_Same.calls k _ _ y _ _ y true _ (Kd.R_reads' HXf.out).2.2 (Kd.R_reads' HXf.out).2.1 (Kd.F_now HCY.out) HCL.out HSM.out).mono ?_); rintro e wg ⟨rfl, hd⟩; have HBg := Aside0.mk (below_step HBf.out hd.below); have HSH6 := Aside0.mk (HSH5.out.below hd.below); clear hd) | (go_at_call 23; (with_reducible refine (HH2.out _ HSH6.out).mono ?_); rintro e wh ⟨rfl, hb⟩; have HBh := Aside0.mk (below_step HBg.out hb); clear hb))
      go_ret
      exact ⟨rfl, HBc.out.trans (HBh.out.mono HBc.out.size)⟩

end Go.Proofs.Ytnkjbgoibmbmoaa.Print
