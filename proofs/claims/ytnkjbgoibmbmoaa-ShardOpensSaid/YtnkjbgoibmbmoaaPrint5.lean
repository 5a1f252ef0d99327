/- Words of the print, of which only those stand here that this claim names. -/
-- Written by a program of this session (wip/cprint.py), which calls the kit's print and adds contracts proved by hand.
import Derived.Test.YtnkjbgoibmbmoaaPrint0
import Derived.Test.YtnkjbgoibmbmoaaPrint1
import Derived.Test.YtnkjbgoibmbmoaaPrint2
import Derived.Test.YtnkjbgoibmbmoaaPrint3
import Derived.Test.YtnkjbgoibmbmoaaPrint4
namespace Go.Proofs.Ytnkjbgoibmbmoaa.Print
open Go.RowKit Go.Proofs.YtnkjbgoibmbmoaaW.PrintWords Go.Proofs.YtnkjbgoibmbmoaaW.PrintLast Go.Proofs.YtnkjbgoibmbmoaaW.PrintMore
attribute [local go_sem] max2_int min2_int max_two min_two max_three min_three max_four min_four   -- for this text's walks alone
set_option linter.unusedVariables false
set_option linter.unusedSimpArgs false

/-! ### shard_Open: function 14 -/
/-- How many neighbours all have. -/
def sumLen (l : List (List Int)) : Nat := (l.map List.length).sum
def shard_Open.l (k : Nat) (a : Int) : Nat → List (List Int) → List Int → Option (Option (List (List Int) × List Int))
 | 0, next, b => some (some (next, b))
 | m + 1, next, b => if sumLen next ≤ 1000000000000 then (shard_Shard_vertex.f k a next.length b).bind fun t => if t.2.2 = true then shard_Open.l k a m (next ++ [t.1]) t.2.1 else some none else none
/-- What a file tells: its first vertex, its vertices' neighbours; none: it is no file. -/
def shard_Open.f (k : Nat) (b : List Int) : Option (Option (Int × List (List Int))) := (shard_whole.f k b).bind fun o =>
 if o.2 = true then (vary_Take.f k o.1).bind fun t =>
  if 0 ≤ t.1 ∧ t.1 < 18446744073709551616 then
   (if t.2.2 = 0 then (vary_Take.f k t.2.1).bind fun u =>
    if 0 ≤ u.1 ∧ u.1 < 18446744073709551616 ∧ u.2.1.length ≤ 1000000 then
     (if u.2.2 = 0 ∧ u.1 ≤ u.2.1.length ∧ t.1 ≤ 4294967296 ∧ t.1 + u.1 ≤ 4294967296 then
      (shard_Open.l k t.1 u.1.toNat [] u.2.1).bind fun r => match r with
       | none => some none
       | some p => if p.2.length = 0 then some (some (t.1, p.1)) else some none
     else some none)
    else none
   else some none)
  else none
 else some none
theorem shard_Open.mono_l (k : Nat) (a : Int) : ∀ (m : Nat) (next : List (List Int)) (b : List Int), LeO (shard_Open.l k a m next b) (shard_Open.l (k + 1) a m next b)
 | 0, _, _ => LeO.refl _
 | m + 1, next, b => by
  unfold shard_Open.l
  refine LeO.ite (LeO.trans (LeO.bind (shard_Shard_vertex.mono _ _ b k) (fun t => LeO.refl _)) (LeO.bind (LeO.refl _) (fun t => ?_))) (LeO.refl _)
  exact LeO.ite (shard_Open.mono_l k a m _ _) (LeO.refl _)
theorem shard_Open.mono : ∀ (b : List Int) (k : Nat), LeO (shard_Open.f k b) (shard_Open.f (k + 1) b) := by
 intro b k
 unfold shard_Open.f
 refine LeO.trans (LeO.bind (shard_whole.mono b k) (fun o => LeO.refl _)) (LeO.bind (LeO.refl _) (fun o => ?_))
 refine LeO.ite ?_ (LeO.refl _)
 refine LeO.trans (LeO.bind (vary_Take.mono _ k) (fun t => LeO.refl _)) (LeO.bind (LeO.refl _) (fun t => ?_))
 refine LeO.ite (LeO.ite ?_ (LeO.refl _)) (LeO.refl _)
 refine LeO.trans (LeO.bind (vary_Take.mono _ k) (fun u => LeO.refl _)) (LeO.bind (LeO.refl _) (fun u => ?_))
 refine LeO.ite (LeO.ite ?_ (LeO.refl _)) (LeO.refl _)
 exact LeO.bind (shard_Open.mono_l k _ _ _ _) (fun r => LeO.refl _)
/-- What is handed back: nil and that it is no file, or a Shard. -/
def OpenIs (w w' : World) (e : Ending) : Option (Int × List (List Int)) → Prop
 | none => e = .returned (.tuple #[.pointer none, .int .i64 6])
 | some p => ∃ q, e = .returned (.tuple #[.pointer (some ⟨q, 0, none⟩), .int .i64 0]) ∧ ShIs w' q w.heap.size p.1 p.2 (sumLen p.2 : Nat)
theorem sumLen_snoc (l : List (List Int)) (x : List Int) : sumLen (l ++ [x]) = sumLen l + x.length := by simp [sumLen]
set_option maxHeartbeats 8000000 in
set_option maxRecDepth 100000 in
theorem shard_Open.calls (k : Nat) (A0 : Option Addr) (c0 : Nat) (l0 : List Int) (o : Option (Int × List (List Int))) (w : World) (hr0 : Kd.C (Kd.int .u8) w A0 l0.length l0) (hc0 : l0.length ≤ c0) (h : shard_Open.f k l0 = some o) :
  Calls Try.prog 14 #[.slice A0 l0.length c0] w fun e w' => OpenIs w w' e o ∧ Below w.heap.size w w' := by
 have HR0 := Aside0.mk hr0
 have HC0 := Aside0.mk hc0
 clear hr0 hc0
 unfold shard_Open.f at h
 obtain ⟨⟨x, ok⟩, hw, h'⟩ := Option.bind_eq_some_iff.mp h
 have HW := Aside0.mk hw
 clear hw h
 simp only at h'
 cases ok with
 | false =>
  obtain rfl : none = o := Option.some.inj h'
  go_enter Try.func14, Try.ntmps14
  go_wp2_with (first | (go_at_call 30; (with_reducible refine (shard_whole.calls k _ _ l0 _ _ _ HR0.out HC0.out HW.out).mono ?_); rintro e w1 ⟨v1, rfl, ho, hb⟩; have HB1 := Aside0.mk hb; clear ho hb))
  go_ret2
  exact ⟨rfl, HB1.out⟩
 | true =>
  rw [if_pos rfl] at h'
  obtain ⟨⟨n0, x1, e0⟩, ht, h⟩ := Option.bind_eq_some_iff.mp h'
  have HT := Aside0.mk ht
  clear ht h'
  simp only at h
  by_cases hb : 0 ≤ n0 ∧ n0 < 18446744073709551616
  ·rw [if_pos hb] at h
   obtain ⟨h1, h2⟩ := hb
   obtain ⟨a, rfl⟩ := Int.eq_ofNat_of_zero_le h1
   clear h1
   by_cases he0 : e0 = 0
   ·subst he0
    rw [if_pos rfl] at h
    obtain ⟨⟨n1, x2, e1⟩, hu, h'⟩ := Option.bind_eq_some_iff.mp h
    have HU := Aside0.mk hu
    clear hu h
    simp only at h'
    by_cases hb : 0 ≤ n1 ∧ n1 < 18446744073709551616 ∧ x2.length ≤ 1000000
    ·rw [if_pos hb] at h'
     obtain ⟨h1, h3, h4⟩ := hb
     obtain ⟨M, rfl⟩ := Int.eq_ofNat_of_zero_le h1
     clear h1
     by_cases hok : e1 = 0 ∧ (M : Int) ≤ x2.length ∧ (a : Int) ≤ 4294967296 ∧ (a : Int) + M ≤ 4294967296
     ·rw [if_pos hok] at h'
      obtain ⟨rfl, g1, g2, g3⟩ := hok
      simp only [Int.toNat_natCast] at h'
      obtain ⟨r, hl, h⟩ := Option.bind_eq_some_iff.mp h'
      have HL := Aside0.mk hl
      have HE := Aside0.mk h
      clear hl h h'
      have d1 : decide (x2.length < M) = false := decide_eq_false (by omega)
      have d2 : decide ((4294967296 : Int) < (a : Int)) = false := decide_eq_false (by omega)
      have d3 : decide (4294967296 < a) = false := decide_eq_false (by omega)
      have d4 : decide ((4294967296 : Int) - (M : Int) < (a : Int)) = false := decide_eq_false (by omega)
      go_enter Try.func14, Try.ntmps14
      go_wp2_with (first | (go_at_call 30; (with_reducible refine (shard_whole.calls k _ _ l0 _ _ _ HR0.out HC0.out HW.out).mono ?_); rintro e w1 ⟨v1, rfl, ho, hb⟩; obtain ⟨Aw, cw, rfl⟩ := Kd.R_slice ho; have HX := Aside0.mk ho; have HB1 := Aside0.mk hb; clear ho hb) | (go_at_call 31; (with_reducible refine (vary_Take.calls k _ _ x _ _ _ _ (Kd.R_reads' HX.out).2.2 (Kd.R_reads' HX.out).2.1 HT.out).mono ?_); rintro e w2 ⟨v1, rfl, ho, hb⟩; obtain ⟨A1, c1, rfl⟩ := Kd.R_slice ho; have HX1 := Aside0.mk ho; have HB2 := Aside0.mk (below_step HB1.out hb); clear ho hb HX) | (go_at_call 31; (with_reducible refine (vary_Take.calls k _ _ x1 _ _ _ _ (Kd.R_reads' HX1.out).2.2 (Kd.R_reads' HX1.out).2.1 HU.out).mono ?_); rintro e w3 ⟨v1, rfl, ho, hb⟩; obtain ⟨A2, c2, rfl⟩ := Kd.R_slice ho; have HX2 := Aside0.mk ho; have HB3 := Aside0.mk (below_step HB2.out hb); clear ho hb HX1))
      obtain ⟨q, hq⟩ : ∃ q, w3.heap.size = q := ⟨_, rfl⟩
      rw [hq]
      have hwq : w.heap.size ≤ q := by rw [← hq]; exact HB3.out.size
      have hsh : ShIs (w3.alloc (Obj.cells #[Value.int .i64 a, Value.slice none 0 0, Value.int .i64 0] 62)) q w.heap.size a [] (sumLen [] : Nat) := ⟨hwq, _, by rw [← hq]; exact heap_alloc_new _ _, Kd.N_nil _ _ _ _ _⟩
      have hx2 := Kd.C_alloc (Kd.R_reads' HX2.out).2.2 (Obj.cells #[Value.int .i64 a, Value.slice none 0 0, Value.int .i64 0] 62)
      have hb4 : Below w.heap.size w (w3.alloc (Obj.cells #[Value.int .i64 a, Value.slice none 0 0, Value.int .i64 0] 62)) := Below.alloc HB3.out (by omega) _
      have hc2 := (Kd.R_reads' HX2.out).2.1
      have HSH := Aside0.mk hsh
      have HX3 := Aside0.mk hx2
      have HB4 := Aside0.mk hb4
      clear hsh hx2 hb4 HX2 HB3 hq
      go_loopw [4, 55] (fun v4 v55 wr => ∃ (i : Nat) (next : List (List Int)) (b : List Int) (A4 : Option Addr) (c4 : Nat), v4 = .slice A4 b.length c4 ∧ v55 = .int .u64 i ∧ i ≤ M ∧ next.length = i ∧ b.length ≤ c4 ∧ Aside0 (shard_Open.l k a (M - i) next b = some r) ∧ Aside0 (ShIs wr q w.heap.size a next (sumLen next : Nat)) ∧ Aside0 (Kd.C (Kd.int .u8) wr A4 b.length b) ∧ Aside0 (Below w.heap.size w wr)) (fun _ v55 _ => M - (intOf v55).toNat)
      case atStart => exact ⟨0, [], x2, A2, c2, rfl, rfl, Nat.zero_le _, rfl, hc2, HL, HSH, HX3, HB4⟩
      case round =>
       clear HL HSH HX3 HB4
       obtain ⟨i, next, b, A4, c4, rfl, rfl, hi, hni, hbc, HL, HSH, HX3, HB4⟩ := hrel
       by_cases hlt : i < M
       ·have hl := HL.out
        clear HL
        rw [show M - i = (M - (i + 1)) + 1 by omega] at hl
        unfold shard_Open.l at hl
        by_cases hsl : sumLen next ≤ 1000000000000
        ·rw [if_pos hsl] at hl
         obtain ⟨⟨y, z, ok⟩, hv, hl'⟩ := Option.bind_eq_some_iff.mp hl
         have HV := Aside0.mk hv
         clear hv hl
         simp only at hl'
         have hct := shard_Shard_vertex.calls k q w.heap.size a (sumLen next : Nat) next A4 c4 b y z ok _ HSH.out HX3.out hbc ⟨by omega, g2⟩ (by omega) ⟨by omega, by omega⟩ HV.out
         have HCT := Aside0.mk hct
         clear hct
         cases ok with
         | true =>
          rw [if_pos rfl] at hl'
          have HL := Aside0.mk hl'
          clear hl'
          go_wp2_with (first | (go_at_call 32; (with_reducible refine (HCT.out).mono ?_); rintro e w5 ⟨A5, c5, rfl, hc5, hx5, hs5, hb5⟩; have HX5 := Aside0.mk hx5; have HS5 := Aside0.mk (hs5 rfl); have HB5 := Aside0.mk (HB4.out.trans hb5); clear hx5 hs5 hb5 HCT))
          go_roundw
          case rel => exact ⟨i + 1, next ++ [y], z, A5, c5, rfl, by go_num, by omega, by rw [List.length_append, hni]; rfl, hc5, HL, ⟨by rw [sumLen_snoc, Int.natCast_add]; exact HS5.out⟩, HX5, HB5⟩
          case measure => simp [intOf]; omega
         | false =>
          rw [if_neg (by decide)] at hl'
          obtain rfl : none = r := Option.some.inj hl'
          obtain rfl : none = o := Option.some.inj HE.out
          go_wp2_with (first | (go_at_call 32; (with_reducible refine (HCT.out).mono ?_); rintro e w5 ⟨A5, c5, rfl, hc5, hx5, hs5, hb5⟩; have HB5 := Aside0.mk (HB4.out.trans hb5); clear hx5 hs5 hb5 HCT))
          go_ret2
          exact ⟨rfl, HB5.out⟩
        ·rw [if_neg hsl] at hl
         exact absurd hl (by simp)
       ·obtain rfl : i = M := by omega
        have hl := HL.out
        clear HL
        rw [Nat.sub_self] at hl
        unfold shard_Open.l at hl
        obtain rfl := Option.some.inj hl
        have he := HE.out
        clear HE hl
        simp only at he
        by_cases hz : b.length = 0
        ·rw [if_pos hz] at he
         obtain rfl := Option.some.inj he
         have d5 : decide (0 < b.length) = false := decide_eq_false (by omega)
         go_wp2
         go_ret2
         exact ⟨⟨q, rfl, HSH.out⟩, HB4.out⟩
        ·rw [if_neg hz] at he
         obtain rfl : none = o := Option.some.inj he
         have d5 : decide (0 < b.length) = true := decide_eq_true (by omega)
         go_wp2
         go_ret2
         exact ⟨rfl, HB4.out⟩
     ·rw [if_neg hok] at h'
      obtain rfl : none = o := Option.some.inj h'
      by_cases he1 : e1 = 0
      ·subst he1
       by_cases g1 : (M : Int) ≤ x2.length
       ·have d1 : decide (x2.length < M) = false := decide_eq_false (by omega)
        by_cases g2 : (a : Int) ≤ 4294967296
        ·have d2 : decide ((4294967296 : Int) < (a : Int)) = false := decide_eq_false (by omega)
         have d3 : decide (4294967296 < a) = false := decide_eq_false (by omega)
         have g3 : ¬ ((a : Int) + M ≤ 4294967296) := fun h_ => hok ⟨rfl, g1, g2, h_⟩
         have d4 : decide ((4294967296 : Int) - (M : Int) < (a : Int)) = true := decide_eq_true (by omega)
         go_enter Try.func14, Try.ntmps14
         go_wp2_with (first | (go_at_call 30; (with_reducible refine (shard_whole.calls k _ _ l0 _ _ _ HR0.out HC0.out HW.out).mono ?_); rintro e w1 ⟨v1, rfl, ho, hb⟩; obtain ⟨Aw, cw, rfl⟩ := Kd.R_slice ho; have HX := Aside0.mk ho; have HB1 := Aside0.mk hb; clear ho hb) | (go_at_call 31; (with_reducible refine (vary_Take.calls k _ _ x _ _ _ _ (Kd.R_reads' HX.out).2.2 (Kd.R_reads' HX.out).2.1 HT.out).mono ?_); rintro e w2 ⟨v1, rfl, ho, hb⟩; obtain ⟨A1, c1, rfl⟩ := Kd.R_slice ho; have HX1 := Aside0.mk ho; have HB2 := Aside0.mk (below_step HB1.out hb); clear ho hb HX) | (go_at_call 31; (with_reducible refine (vary_Take.calls k _ _ x1 _ _ _ _ (Kd.R_reads' HX1.out).2.2 (Kd.R_reads' HX1.out).2.1 HU.out).mono ?_); rintro e w3 ⟨v1, rfl, ho, hb⟩; obtain ⟨A2, c2, rfl⟩ := Kd.R_slice ho; have HX2 := Aside0.mk ho; have HB3 := Aside0.mk (below_step HB2.out hb); clear ho hb HX1))
         go_ret2
         exact ⟨rfl, HB3.out⟩
        ·have d2 : decide ((4294967296 : Int) < (a : Int)) = true := decide_eq_true (by omega)
         have d3 : decide (4294967296 < a) = true := decide_eq_true (by omega)
         go_enter Try.func14, Try.ntmps14
         go_wp2_with (first | (go_at_call 30; (with_reducible refine (shard_whole.calls k _ _ l0 _ _ _ HR0.out HC0.out HW.out).mono ?_); rintro e w1 ⟨v1, rfl, ho, hb⟩; obtain ⟨Aw, cw, rfl⟩ := Kd.R_slice ho; have HX := Aside0.mk ho; have HB1 := Aside0.mk hb; clear ho hb) | (go_at_call 31; (with_reducible refine (vary_Take.calls k _ _ x _ _ _ _ (Kd.R_reads' HX.out).2.2 (Kd.R_reads' HX.out).2.1 HT.out).mono ?_); rintro e w2 ⟨v1, rfl, ho, hb⟩; obtain ⟨A1, c1, rfl⟩ := Kd.R_slice ho; have HX1 := Aside0.mk ho; have HB2 := Aside0.mk (below_step HB1.out hb); clear ho hb HX) | (go_at_call 31; (with_reducible refine (vary_Take.calls k _ _ x1 _ _ _ _ (Kd.R_reads' HX1.out).2.2 (Kd.R_reads' HX1.out).2.1 HU.out).mono ?_); rintro e w3 ⟨v1, rfl, ho, hb⟩; obtain ⟨A2, c2, rfl⟩ := Kd.R_slice ho; have HX2 := Aside0.mk ho; have HB3 := Aside0.mk (below_step HB2.out hb); clear ho hb HX1))
         go_ret2
         exact ⟨rfl, HB3.out⟩
       ·have d1 : decide (x2.length < M) = true := decide_eq_true (by omega)
        go_enter Try.func14, Try.ntmps14
        go_wp2_with (first | (go_at_call 30; (with_reducible refine (shard_whole.calls k _ _ l0 _ _ _ HR0.out HC0.out HW.out).mono ?_); rintro e w1 ⟨v1, rfl, ho, hb⟩; obtain ⟨Aw, cw, rfl⟩ := Kd.R_slice ho; have HX := Aside0.mk ho; have HB1 := Aside0.mk hb; clear ho hb) | (go_at_call 31; (with_reducible refine (vary_Take.calls k _ _ x _ _ _ _ (Kd.R_reads' HX.out).2.2 (Kd.R_reads' HX.out).2.1 HT.out).mono ?_); rintro e w2 ⟨v1, rfl, ho, hb⟩; obtain ⟨A1, c1, rfl⟩ := Kd.R_slice ho; have HX1 := Aside0.mk ho; have HB2 := Aside0.mk (below_step HB1.out hb); clear ho hb HX) | (go_at_call 31; (with_reducible refine (vary_Take.calls k _ _ x1 _ _ _ _ (Kd.R_reads' HX1.out).2.2 (Kd.R_reads' HX1.out).2.1 HU.out).mono ?_); rintro e w3 ⟨v1, rfl, ho, hb⟩; obtain ⟨A2, c2, rfl⟩ := Kd.R_slice ho; have HX2 := Aside0.mk ho; have HB3 := Aside0.mk (below_step HB2.out hb); clear ho hb HX1))
        go_ret2
        exact ⟨rfl, HB3.out⟩
      ·have d5 : (e1 != 0) = true := bne_iff_ne.mpr he1
       go_enter Try.func14, Try.ntmps14
       go_wp2_with (first | (go_at_call 30; (with_reducible refine (shard_whole.calls k _ _ l0 _ _ _ HR0.out HC0.out HW.out).mono ?_); rintro e w1 ⟨v1, rfl, ho, hb⟩; obtain ⟨Aw, cw, rfl⟩ := Kd.R_slice ho; have HX := Aside0.mk ho; have HB1 := Aside0.mk hb; clear ho hb) | (go_at_call 31; (with_reducible refine (vary_Take.calls k _ _ x _ _ _ _ (Kd.R_reads' HX.out).2.2 (Kd.R_reads' HX.out).2.1 HT.out).mono ?_); rintro e w2 ⟨v1, rfl, ho, hb⟩; obtain ⟨A1, c1, rfl⟩ := Kd.R_slice ho; have HX1 := Aside0.mk ho; have HB2 := Aside0.mk (below_step HB1.out hb); clear ho hb HX) | (go_at_call 31; (with_reducible refine (vary_Take.calls k _ _ x1 _ _ _ _ (Kd.R_reads' HX1.out).2.2 (Kd.R_reads' HX1.out).2.1 HU.out).mono ?_); rintro e w3 ⟨v1, rfl, ho, hb⟩; obtain ⟨A2, c2, rfl⟩ := Kd.R_slice ho; have HX2 := Aside0.mk ho; have HB3 := Aside0.mk (below_step HB2.out hb); clear ho hb HX1))
       go_ret2
       exact ⟨rfl, HB3.out⟩
    ·rw [if_neg hb] at h'
     exact absurd h' (by simp)
   ·rw [if_neg he0] at h
    obtain rfl : none = o := Option.some.inj h
    have d5 : (e0 != 0) = true := bne_iff_ne.mpr he0
    go_enter Try.func14, Try.ntmps14
    go_wp2_with (first | (go_at_call 30; (with_reducible refine (shard_whole.calls k _ _ l0 _ _ _ HR0.out HC0.out HW.out).mono ?_); rintro e w1 ⟨v1, rfl, ho, hb⟩; obtain ⟨Aw, cw, rfl⟩ := Kd.R_slice ho; have HX := Aside0.mk ho; have HB1 := Aside0.mk hb; clear ho hb) | (go_at_call 31; (with_reducible refine (vary_Take.calls k _ _ x _ _ _ _ (Kd.R_reads' HX.out).2.2 (Kd.R_reads' HX.out).2.1 HT.out).mono ?_); rintro e w2 ⟨v1, rfl, ho, hb⟩; obtain ⟨A1, c1, rfl⟩ := Kd.R_slice ho; have HX1 := Aside0.mk ho; have HB2 := Aside0.mk (below_step HB1.out hb); clear ho hb HX))
    go_ret2
    exact ⟨rfl, HB2.out⟩
  ·rw [if_neg hb] at h
   exact absurd h (by simp)

/-! ### shard_Shard_Len: function 17 -/
/-- A Shard, or nil. -/
def ShPtr (W : World) (p : Value) (m : Nat) : Option (Int × List (List Int)) → Prop
 | none => p = .pointer none
 | some s => ∃ q, p = .pointer (some ⟨q, 0, none⟩) ∧ ShIs W q m s.1 s.2 (sumLen s.2 : Nat)
def ShFit : Option (Int × List (List Int)) → Prop
 | none => True
 | some s => 0 ≤ s.1 ∧ s.1 ≤ 4294967296 ∧ s.2.length ≤ 1000000
def shFrom : Option (Int × List (List Int)) → Int
 | none => 0
 | some s => s.1
def shLen : Option (Int × List (List Int)) → Nat
 | none => 0
 | some s => s.2.length
def shEdges : Option (Int × List (List Int)) → Nat
 | none => 0
 | some s => sumLen s.2
def shNext (s : Option (Int × List (List Int))) (v : Int) : List Int × Bool := if v < shFrom s ∨ shFrom s + shLen s ≤ v then ([], false) else (match s with | none => [] | some s => rd_L3 s.2 (v - s.1), true)
theorem ShPtr.below {W W' : World} {p : Value} {m : Nat} {s : Option (Int × List (List Int))} (h : ShPtr W p m s) (hb : Below W.heap.size W W') : ShPtr W' p m s := by
 cases s with
 | none => exact h
 | some s => obtain ⟨q, h0, h1⟩ := h; exact ⟨q, h0, h1.below hb⟩
set_option maxHeartbeats 4000000 in
theorem sh_From (p : Value) (m : Nat) (s : Option (Int × List (List Int))) (w : World) (h : ShPtr w p m s) : Calls Try.prog 20 #[p] w fun e w' => e = .returned (.int .i64 (shFrom s)) ∧ w' = w := by
 cases s with
 | none =>
  obtain rfl : p = .pointer none := h
  go_enter Try.func20, Try.ntmps20
  go_wp2
  go_ret
  exact ⟨rfl, rfl⟩
 | some s =>
  obtain ⟨q, rfl, -, v, hq, -⟩ := h
  have o0 : w.cell? ⟨q, 0, none⟩ = some (.int .i64 s.1) := cell_of_row _ _ _ _ _ _ hq
  clear hq
  go_enter Try.func20, Try.ntmps20
  go_wp2
  go_ret
  exact ⟨rfl, rfl⟩
set_option maxHeartbeats 4000000 in
theorem sh_Len (p : Value) (m : Nat) (s : Option (Int × List (List Int))) (w : World) (h : ShPtr w p m s) : Calls Try.prog 17 #[p] w fun e w' => e = .returned (.int .i64 (shLen s)) ∧ w' = w := by
 cases s with
 | none =>
  obtain rfl : p = .pointer none := h
  go_enter Try.func17, Try.ntmps17
  go_wp2
  go_ret
  exact ⟨rfl, rfl⟩
 | some s =>
  obtain ⟨q, rfl, -, v, hq, hN⟩ := h
  obtain ⟨An, cn, rfl⟩ := Kd.N_slice hN
  have o0 : w.cell? ⟨q, 1, none⟩ = some (.slice An s.2.length cn) := cell_of_row _ _ _ _ _ _ hq
  clear hq hN
  go_enter Try.func17, Try.ntmps17
  go_wp2
  go_ret
  exact ⟨rfl, rfl⟩
set_option maxHeartbeats 4000000 in
theorem sh_Edges (p : Value) (m : Nat) (s : Option (Int × List (List Int))) (w : World) (h : ShPtr w p m s) : Calls Try.prog 18 #[p] w fun e w' => e = .returned (.int .i64 (shEdges s)) ∧ w' = w := by
 cases s with
 | none =>
  obtain rfl : p = .pointer none := h
  go_enter Try.func18, Try.ntmps18
  go_wp2
  go_ret
  exact ⟨rfl, rfl⟩
 | some s =>
  obtain ⟨q, rfl, -, v, hq, -⟩ := h
  have o0 : w.cell? ⟨q, 2, none⟩ = some (.int .i64 (sumLen s.2 : Nat)) := cell_of_row _ _ _ _ _ _ hq
  clear hq
  go_enter Try.func18, Try.ntmps18
  go_wp2
  go_ret
  exact ⟨rfl, rfl⟩

/-! ### shard_Shard_From: function 20 -/

/-! ### creellaw18_shown: function 9 -/
def creellaw18_shown.f (k : Nat) : Option Bool := (shard_Build.f k 5 [[]]).bind fun p => (shard_Open.f k p.1).bind fun o => if p.2 = 0 ∧ p.1.length = 12 ∧ (p.1.drop 4).take 4 = [5, 1, 1, 0] ∧ o = some (5, [[]]) then some true else none
theorem creellaw18_shown.mono : ∀ (k : Nat), LeO (creellaw18_shown.f k) (creellaw18_shown.f (k + 1)) := by
 intro k
 unfold creellaw18_shown.f
 refine LeO.trans (LeO.bind (shard_Build.mono _ _ k) (fun p => LeO.refl _)) (LeO.bind (LeO.refl _) (fun p => ?_))
 exact LeO.bind (shard_Open.mono _ k) (fun o => LeO.refl _)
set_option maxHeartbeats 8000000 in
set_option maxRecDepth 100000 in
theorem creellaw18_shown.calls (k : Nat) (r : Bool) (w : World) (h : creellaw18_shown.f k = some r) :
  Calls Try.prog 9 #[] w fun e w' => e = .returned (.bool r) ∧ Below w.heap.size w w' := by
 unfold creellaw18_shown.f at h
 obtain ⟨⟨b, e0⟩, hB, h'⟩ := Option.bind_eq_some_iff.mp h
 obtain ⟨o, hO, h⟩ := Option.bind_eq_some_iff.mp h'
 simp only at h hO
 by_cases hc : e0 = 0 ∧ b.length = 12 ∧ (b.drop 4).take 4 = [5, 1, 1, 0] ∧ o = some (5, [[]])
 ·rw [if_pos hc] at h
  obtain rfl := Option.some.inj h
  obtain ⟨rfl, hl, hb, rfl⟩ := hc
  have HO := Aside0.mk hO
  clear h hO
  have hC : Kd.C (Kd.slice 31 (Kd.int .u32)) (w.alloc (.cells #[.slice none 0 0] 36)) (some ⟨w.heap.size, 0, none⟩) ([[]] : List (List Int)).length [[]] := by
   refine ⟨rfl, by show 1 ≤ 9223372036854775807; decide, fun _ => ⟨_, rfl, fun jj pp hj => ?_⟩⟩
   obtain _ | jj := jj
   ·obtain rfl : ([] : List Int) = pp := by simpa using hj
    refine ⟨[.slice none 0 0], rfl, ⟨none, 0, rfl, Nat.le_refl _, Kd.F_now (Kd.V_F (Kd.V_nil (Kd.int .u32) 31 _ 0 (fun _ => True)))⟩, fun ii u hu => ?_⟩
    obtain _ | ii := ii
    ·obtain rfl : _ = u := Option.some.inj hu
     exact cell_of_row _ _ _ _ _ _ (heap_alloc_new w _)
    ·simp at hu
   ·simp at hj
  have hb1 : Below w.heap.size w (w.alloc (.cells #[.slice none 0 0] 36)) := (Below.refl _ _).alloc (Nat.le_refl _) _
  have hcb : Calls Try.prog 12 #[.int .i64 5, .slice (some ⟨w.heap.size, 0, none⟩) 1 1] (w.alloc (.cells #[.slice none 0 0] 36)) _ := shard_Build.calls k 5 (some ⟨w.heap.size, 0, none⟩) 1 [[]] b 0 _ hC (Nat.le_refl _) hB
  have HCB := Aside0.mk hcb
  have HB1 := Aside0.mk hb1
  obtain ⟨x4, hx4⟩ : ∃ x4, (b.take 8).drop 4 = x4 := ⟨_, rfl⟩
  have hx5 : x4 = [5, 1, 1, 0] := by rw [← hx4, List.drop_take]; exact hb
  have hst : ((strOfNums x4).toList == ([5, 1, 1, 0] : List UInt8)) = true := by rw [hx5]; decide +kernel
  have HX4 := Aside0.mk hx4
  clear hC hcb hb1 hB hb hx5 hx4
  have h12 : ((b.length : Int) == 12) = true := by rw [hl]; rfl
  have HL := Aside0.mk hl
  clear hl
  go_enter Try.func9, Try.ntmps9
  go_wp2_with (first | (go_at_call 12; (with_reducible refine (HCB.out).mono ?_); rintro e w2 ⟨v1, rfl, ho, hb⟩; obtain ⟨Ab, cb, rfl⟩ := Kd.R_slice ho; have HR := Aside0.mk ho; have HB2 := Aside0.mk (below_step HB1.out hb); clear ho hb HCB) | (go_at_call 14; (with_reducible refine (shard_Open.calls k _ _ b _ _ (Kd.R_reads' HR.out).2.2 (Kd.R_reads' HR.out).2.1 HO.out).mono ?_); rintro e w3 ⟨⟨q, rfl, hsh⟩, hb⟩; have HSH : Aside0 (ShPtr w3 (.pointer (some ⟨q, 0, none⟩)) _ (some (5, [[]]))) := ⟨⟨q, rfl, hsh⟩⟩; have HR3 := Aside0.mk (Kd.R_below HR.out hb); have HB3 := Aside0.mk (below_step HB2.out hb); clear hb hsh; obtain ⟨A4, n4, c4, hn4, hnc4, hcut4, hF4⟩ := Hand.cut_mid (P := Try.prog) 26 .i64 .i64 Try.underlying26 (by kernel_rfl) (Kd.R_F HR3.out) (Kd.R_reads' HR3.out).2.1 4 8 (by decide) (by have := HL.out; omega); rw [HX4.out] at hn4 hF4; have hcv := Kd.C_string (P := Try.prog) (A := A4) (c := c4) Try.underlying26 Try.underlying5 Try.underlying9 (Kd.F_now hF4); have hcut5 : ∀ W : World, (Instr.slice 26 (.slice Ab b.length cb) (some (.int .i64 4)) (some (.int .i64 8)) none).run Try.prog W = .ok (.slice A4 n4 c4) W := hcut4; clear hF4 hn4 hnc4 hcut4) | (go_at_call 20; (with_reducible refine (sh_From _ _ _ _ HSH.out).mono ?_); rintro e w4 ⟨rfl, rfl⟩; rw [show shFrom (some ((5 : Int), [[]])) = 5 from rfl]) | (go_at_call 17; (with_reducible refine (sh_Len _ _ _ _ HSH.out).mono ?_); rintro e w4 ⟨rfl, rfl⟩; rw [show ((shLen (some ((5 : Int), [[]])) : Nat) : Int) = 1 from rfl]))
  go_ret
  exact ⟨rfl, HB3.out⟩
 ·rw [if_neg hc] at h
  exact absurd h (by simp)

/-! ### shard_Shard_Next: function 15 -/
theorem shNext_out (m : Int) (L : List (List Int)) (v : Int) (h : v < m ∨ m + L.length ≤ v) : shNext (some (m, L)) v = ([], false) := by
 unfold shNext
 exact if_pos h
theorem shNext_in (m : Int) (L : List (List Int)) (i : Nat) (h : i < L.length) : shNext (some (m, L)) (m + (i : Int)) = (rd_L3 L (i : Int), true) := by
 unfold shNext
 rw [if_neg (by show ¬ (m + (i : Int) < m ∨ m + (L.length : Int) ≤ m + (i : Int)); omega)]
 show (rd_L3 L (m + (i : Int) - m), true) = _
 rw [show m + (i : Int) - m = (i : Int) by omega]
theorem rdL_in {L : List (List Int)} {i : Nat} (h : i < L.length) : rd_L3 L (i : Int) ∈ L := by
 have : rd_L3 L (i : Int) = L[i] := by simp [rd_L3, h]
 rw [this]; exact List.getElem_mem _
theorem sumLen_next {L : List (List Int)} {i : Nat} (h : i < L.length) : sumLen (L.take (i + 1)) = sumLen (L.take i) + (rd_L3 L (i : Int)).length := by
 rw [List.take_succ_eq_append_getElem h, sumLen_snoc]
 congr 2
 simp [rd_L3, h]
set_option maxHeartbeats 8000000 in
set_option maxRecDepth 100000 in
theorem sh_Next (p : Value) (m : Nat) (s : Option (Int × List (List Int))) (v : Int) (w : World) (h : ShPtr w p m s) (hs : ShFit s) (hv : -9223372036854775808 ≤ v ∧ v < 9223372036854775808) (hl : (shNext s v).1.length < 1000000000) :
  Calls Try.prog 15 #[p, .int .i64 v] w fun e w' => ∃ v0_ : Value, e = .returned (.tuple #[v0_, .bool (shNext s v).2]) ∧ Kd.R (Kd.int .u32) 31 w' w.heap.size (fun _ => True) v0_ (shNext s v).1 ∧ Below w.heap.size w w' := by
 have HS := Aside0.mk h
 by_cases hout : v < shFrom s ∨ shFrom s + shLen s ≤ v
 ·rw [show shNext s v = ([], false) from if_pos hout]
  clear hl h
  have hfit : 0 ≤ shFrom s ∧ shFrom s ≤ 4294967296 ∧ shLen s ≤ 1000000 := by
   cases s with
   | none => exact ⟨Int.le_refl _, by show (0 : Int) ≤ _; decide, Nat.zero_le _⟩
   | some s => exact hs
  clear hs
  by_cases h1 : v < shFrom s
  ·have d1 : decide (v < shFrom s) = true := decide_eq_true h1
   clear hout
   go_enter Try.func15, Try.ntmps15
   go_wp2_with (first | (go_at_call 20; (with_reducible refine (sh_From p m s _ HS.out).mono ?_); rintro e w1 ⟨rfl, rfl⟩))
   go_ret2
   exact ⟨_, rfl, Kd.R_nil _ _ _ _ _, Below.refl _ _⟩
  ·have d1 : decide (v < shFrom s) = false := decide_eq_false h1
   have h2 : shFrom s + shLen s ≤ v := hout.resolve_left h1
   have d2 : decide ((shLen s : Int) ≤ v - shFrom s) = true := decide_eq_true (by omega)
   clear hout
   go_enter Try.func15, Try.ntmps15
   go_wp2_with (first | (go_at_call 20; (with_reducible refine (sh_From p m s _ HS.out).mono ?_); rintro e w1 ⟨rfl, rfl⟩) | (go_at_call 17; (with_reducible refine (sh_Len p m s _ HS.out).mono ?_); rintro e w1 ⟨rfl, rfl⟩))
   go_ret2
   exact ⟨_, rfl, Kd.R_nil _ _ _ _ _, Below.refl _ _⟩
 ·cases s with
  | none => exact absurd (show v < 0 ∨ (0 : Int) + ((0 : Nat) : Int) ≤ v by omega) hout
  | some s =>
   obtain ⟨a, l⟩ := s
   rw [show shNext (some (a, l)) v = (rd_L3 l (v - a), true) from if_neg hout] at hl ⊢
   have hout' : ¬ (v < a ∨ a + (l.length : Int) ≤ v) := hout
   obtain ⟨k1, k2, k3⟩ : 0 ≤ a ∧ a ≤ 4294967296 ∧ l.length ≤ 1000000 := hs
   have d1 : decide (v < a) = false := decide_eq_false (by omega)
   have d2 : decide ((l.length : Int) ≤ v - a) = false := decide_eq_false (by omega)
   obtain ⟨q, rfl, -, u, hq, hN⟩ := h
   simp only at hq hN hl
   obtain ⟨An, cn, rfl⟩ := Kd.N_slice hN
   obtain ⟨i, hi⟩ : ∃ i, v - a = i := ⟨_, rfl⟩
   obtain ⟨ad, Ax, cx, rfl, hc, hlc, hx⟩ := at_L3 (Kd.N_reads' hN).2.2 i (by omega) (by omega)
   have i0 : decide (0 ≤ i) = true := decide_eq_true (by omega)
   have i1 : decide (i < (l.length : Int)) = true := decide_eq_true (by omega)
   rw [hi] at hl d2 ⊢
   generalize rd_L3 l i = x at *
   have o0 : w.cell? ⟨q, 0, none⟩ = some (.int .i64 a) := cell_of_row _ _ _ _ _ _ hq
   have o1 : w.cell? ⟨q, 1, none⟩ = some (.slice (some ad) l.length cn) := cell_of_row _ _ _ _ _ _ hq
   have HX := Aside0.mk (Kd.C_drew hx)
   have hcl : slices_Clone_uint32_uint32.f x = some x := by unfold slices_Clone_uint32_uint32.f; rw [Option.bind_some, if_pos (by simp; omega)]; rfl
   have HCL := Aside0.mk hcl
   have hfr : shFrom (some (a, l)) = a := rfl
   have hle : shLen (some (a, l)) = l.length := rfl
   have i2 : 0 ≤ i := by omega
   have i3 : i < (l.length : Int) := by omega
   have hva : v - a = i := hi
   have hw1 : IntKind.i64.wrap i = i := by simp only [IntKind.wrap, IntKind.bits, IntKind.signed]; simp; omega
   have b0 : decide (i < 0) = false := decide_eq_false (by omega)
   have b1 : decide ((l.length : Int) ≤ i) = false := decide_eq_false (by omega)
   clear hq hN hout hout' hx hcl
   go_enter Try.func15, Try.ntmps15
   go_wp2_with (first | (go_at_call 20; (with_reducible refine (sh_From _ m (some (a, l)) _ HS.out).mono ?_); rintro e w ⟨rfl, rfl⟩; rw [hfr]) | (go_at_call 17; (with_reducible refine (sh_Len _ m (some (a, l)) _ HS.out).mono ?_); rintro e w ⟨rfl, rfl⟩; rw [hle]))
   have hlt := World.block_lt_of_cell? _ _ hc
   go_region_held3 (fun W => W.cell? ⟨q, 0, none⟩ = some (.int .i64 a) ∧ W.cell? ⟨q, 1, none⟩ = some (.slice (some ad) l.length cn) ∧ W.cell? (ad.add i.toNat) = some (.slice Ax x.length cx)) (first | exact ⟨o0, o1, hc⟩ | exact ⟨p0, p1, p2⟩ | fail) (first | (go_at_call 33; (with_reducible refine (slices_Clone_uint32_uint32.calls _ _ x _ _ HX.out hlc HCL.out).mono ?_); rintro e w2 ⟨v2, rfl, ho, hb⟩; have p0 : w2.cell? ⟨q, 0, none⟩ = some (.int .i64 a) := (hb.cell (World.block_lt_of_cell? w.drew _ o0)).trans o0; have p1 : w2.cell? ⟨q, 1, none⟩ = some (.slice (some ad) l.length cn) := (hb.cell (World.block_lt_of_cell? w.drew _ o1)).trans o1; have p2 : w2.cell? (ad.add i.toNat) = some (.slice Ax x.length cx) := (hb.cell (World.block_lt_of_cell? w.drew _ hc)).trans hc; have HL := Aside0.mk ho; have HB2 := Aside0.mk hb; clear ho hb) | fail)
   go_wp2
   go_ret2
   exact ⟨_, rfl, HL.out, Below.trans (Below.drew (Below.refl _ _)) HB2.out⟩

/-! ### creelref17_Same: function 16 -/
def creelref17_Same.l0 : Nat → List Int → List Int → Int → Option (Bool)
 | 0, _, _, _ => none
 | k + 1, x0, x1, x5 => if x5 < (x0.length : Int) then (if 0 ≤ x5 then (if x5 < (x1.length : Int) then (if (rd x0 x5) = (rd x1 x5) then (creelref17_Same.l0 k x0 x1 (wrap64 (x5 + 1))) else (some false)) else (none)) else (none)) else (some true)
def creelref17_Same.f (k : Nat) (l0 : List Int) (l1 : List Int) : Option (Bool) := if (l0.length : Int) = (l1.length : Int) then (creelref17_Same.l0 k l0 l1 0) else (some false)
theorem creelref17_Same.mono_l : ∀ k, (∀ y0 y1 y2, LeO (creelref17_Same.l0 k y0 y1 y2) (creelref17_Same.l0 (k + 1) y0 y1 y2))
 | 0 => fun _ _ _ r h => by simp [creelref17_Same.l0] at h
 | k + 1 => by
  have ih0 := creelref17_Same.mono_l k
  ·intro y0 y1 y2
   unfold creelref17_Same.l0
   repeat' first
   | (with_reducible exact ih0 _ _ _)
   | (with_reducible exact LeO.refl _)
   | (with_reducible exact LeO.none _)
   | (with_reducible refine LeO.ite ?_ ?_)
   | (with_reducible refine LeO.bind ?_ (fun _ => ?_))
   | exact ih0 _ _ _
   | exact LeO.none _
   | refine LeO.ite ?_ ?_
   | refine LeO.bind ?_ (fun _ => ?_)
theorem creelref17_Same.mono : ∀ a0 a1 k, LeO (creelref17_Same.f k a0 a1) (creelref17_Same.f (k + 1) a0 a1) := by
 intro a0 a1 k
 have ih0 := creelref17_Same.mono_l k
 unfold creelref17_Same.f
 repeat' first
   | (with_reducible exact ih0 _ _ _)
   | (with_reducible exact LeO.refl _)
   | (with_reducible exact LeO.none _)
   | (with_reducible refine LeO.ite ?_ ?_)
   | (with_reducible refine LeO.bind ?_ (fun _ => ?_))
   | exact ih0 _ _ _
   | exact LeO.none _
   | refine LeO.ite ?_ ?_
   | refine LeO.bind ?_ (fun _ => ?_)
set_option maxHeartbeats 8000000 in
set_option maxRecDepth 100000 in
theorem creelref17_Same.calls (k : Nat) (A0 : Option Addr) (c0 : Nat) (l0 : List Int) (A1 : Option Addr) (c1 : Nat) (l1 : List Int) (r : Bool) (w : World) (hr0 : Kd.C (Kd.int .u32) w A0 l0.length l0) (hc0 : l0.length ≤ c0) (hr1 : Kd.C (Kd.int .u32) w A1 l1.length l1) (hc1 : l1.length ≤ c1) (h : creelref17_Same.f k l0 l1 = some r) :
  Calls Try.prog 16 #[.slice A0 l0.length c0, .slice A1 l1.length c1] w fun e w' => e = .returned (.bool r) ∧ Drawn0 w w' := by
 have HR0 := Aside0.mk hr0
 have HC0 := Aside0.mk hc0
 clear hr0 hc0
 have HR1 := Aside0.mk hr1
 have HC1 := Aside0.mk hc1
 clear hr1 hc1
 have H : (if (l0.length : Int) = (l1.length : Int) then (creelref17_Same.l0 k l0 l1 0) else (some false)) = some r := h
 clear h
 by_cases c3 : (l0.length : Int) = (l1.length : Int)
 ·rw [if_pos c3] at H
  have c3b0 : ((l0.length : Int) == (l1.length : Int)) = true := beq_iff_eq.mpr c3
  have c3b1 : ((l0.length : Int) != (l1.length : Int)) = false := bne_eq_false_iff_eq.mpr c3
  have c3b2 : (l0.length == l1.length) = true := by first | simpa using c3 | (simp at c3 ⊢; omega)
  clear c3
  have H' := Aside0.mk H
  clear H
  go_enter Try.func16, Try.ntmps16
  go_wp2
  repeat (go_quiet (fail); try go_wp2)
  go_loopg [5] k (fun kq v5 w' => ∃ (x5_1 : Int), v5 = .int .i64 x5_1 ∧ Aside0 (creelref17_Same.l0 kq l0 l1 x5_1 = some r) ∧ Aside0 (kq ≤ k) ∧ Drawn0 w w')
  case atStart => exact ⟨(0), (by first | rfl | (simp; done) | (simp [*]; done)), H', ⟨Nat.le_refl _⟩, by repeat (first | exact Drawn0.refl _ | apply Drawn0.step)⟩
  case round =>
   clear H'
   try clear c1
   try clear p2
   try clear c3
   try clear c3b0
   try clear c3b1
   try clear c3b2
   obtain ⟨x5_1, rfl, HA, HK1, ⟨m1, rfl⟩⟩ := hrel
   cases gk with
   | zero => exact absurd HA.out (by simp [creelref17_Same.l0])
   | succ k1 =>
    have H := HA.out
    clear HA
    simp only [creelref17_Same.l0] at H
    by_cases c4 : x5_1 < (l0.length : Int)
    ·rw [if_pos c4] at H
     have c4b0 : decide (x5_1 < (l0.length : Int)) = true := decide_eq_true c4
     clear c4
     by_cases c5 : 0 ≤ x5_1
     ·rw [if_pos c5] at H
      have c5b0 : decide (0 ≤ x5_1) = true := decide_eq_true c5
      clear c5
      by_cases c6 : x5_1 < (l1.length : Int)
      ·rw [if_pos c6] at H
       have c6b0 : decide (x5_1 < (l1.length : Int)) = true := decide_eq_true c6
       clear c6
       by_cases c7 : (rd l0 x5_1) = (rd l1 x5_1)
       ·rw [if_pos c7] at H
        have c7b0 : ((rd l0 x5_1) == (rd l1 x5_1)) = true := beq_iff_eq.mpr c7
        have c7b1 : ((rd l0 x5_1) != (rd l1 x5_1)) = false := bne_eq_false_iff_eq.mpr c7
        clear c7
        have H' := Aside0.mk H
        clear H
        have p269 : 0 ≤ (x5_1 : Int) := of_decide_eq_true (by first | (with_reducible assumption) | assumption)
        have q269 : x5_1 < (l0.length : Int) := of_decide_eq_true (by first | (with_reducible assumption) | assumption)
        obtain ⟨ad269, e269, hx269_0⟩ := Kd.at_int HR0.out x5_1 p269 q269
        cases e269
        replace p269 := eq_true p269
        replace q269 := eq_true q269
        have p270 : 0 ≤ (x5_1 : Int) := of_decide_eq_true (by first | (with_reducible assumption) | assumption)
        have q270 : x5_1 < (l1.length : Int) := of_decide_eq_true (by first | (with_reducible assumption) | assumption)
        obtain ⟨ad270, e270, hx270_0⟩ := Kd.at_int HR1.out x5_1 p270 q270
        cases e270
        replace p270 := eq_true p270
        replace q270 := eq_true q270
        go_wp2
        repeat (go_quiet (fail); try go_wp2)
        go_roundg k1
        case measure => have := HK1.out; omega
        case rel => exact ⟨(wrap64 (x5_1 + 1)), (by first | rfl | (simp; done) | (simp [*]; done)), H', ⟨by have := HK1.out; omega⟩, by repeat (first | exact Drawn0.refl _ | apply Drawn0.step)⟩
       ·rw [if_neg c7] at H
        have c7b0 : ((rd l0 x5_1) == (rd l1 x5_1)) = false := beq_eq_false_iff_ne.mpr c7
        have c7b1 : ((rd l0 x5_1) != (rd l1 x5_1)) = true := bne_iff_ne.mpr c7
        obtain rfl := Option.some.inj H
        have p269 : 0 ≤ (x5_1 : Int) := of_decide_eq_true (by first | (with_reducible assumption) | assumption)
        have q269 : x5_1 < (l0.length : Int) := of_decide_eq_true (by first | (with_reducible assumption) | assumption)
        obtain ⟨ad269, e269, hx269_0⟩ := Kd.at_int HR0.out x5_1 p269 q269
        cases e269
        replace p269 := eq_true p269
        replace q269 := eq_true q269
        have p270 : 0 ≤ (x5_1 : Int) := of_decide_eq_true (by first | (with_reducible assumption) | assumption)
        have q270 : x5_1 < (l1.length : Int) := of_decide_eq_true (by first | (with_reducible assumption) | assumption)
        obtain ⟨ad270, e270, hx270_0⟩ := Kd.at_int HR1.out x5_1 p270 q270
        cases e270
        replace p270 := eq_true p270
        replace q270 := eq_true q270
        go_wp2
        repeat (go_quiet (fail); try go_wp2)
        go_ret
        exact ⟨by first | rfl | (simp; done) | (simp [*]; done), by repeat (first | exact Drawn0.refl _ | apply Drawn0.step)⟩
      ·rw [if_neg c6] at H
       exact absurd H (by simp)
     ·rw [if_neg c5] at H
      exact absurd H (by simp)
    ·rw [if_neg c4] at H
     have c4b0 : decide (x5_1 < (l0.length : Int)) = false := decide_eq_false c4
     clear c4
     obtain rfl := Option.some.inj H
     go_wp2
     repeat (go_quiet (fail); try go_wp2)
     go_ret
     exact ⟨by first | rfl | (simp; done) | (simp [*]; done), by repeat (first | exact Drawn0.refl _ | apply Drawn0.step)⟩
 ·rw [if_neg c3] at H
  have c3b0 : ((l0.length : Int) == (l1.length : Int)) = false := beq_eq_false_iff_ne.mpr c3
  have c3b1 : ((l0.length : Int) != (l1.length : Int)) = true := bne_iff_ne.mpr c3
  have c3b2 : (l0.length == l1.length) = false := by first | simpa using c3 | (simp at c3 ⊢; omega)
  obtain rfl := Option.some.inj H
  go_enter Try.func16, Try.ntmps16
  go_wp2
  repeat (go_quiet (fail); try go_wp2)
  go_ret
  exact ⟨by first | rfl | (simp; done) | (simp [*]; done), by repeat (first | exact Drawn0.refl _ | apply Drawn0.step)⟩

/-! ### shard_Shard_Edges: function 18 -/

/-! ### creelref01_Put: function 27 -/
def creelref01_Put.l0 : Nat → Int → List Int → Option (List Int)
 | 0, _, _ => none
 | k + 1, x1, x5 => if x1 > 127 then (if x5.length < 140737488355328 then (creelref01_Put.l0 k (IntKind.u64.wrap (Int.tdiv x1 128)) (x5 ++ [((Int.tmod x1 128) + 128) % 256])) else (none)) else (if x5.length < 140737488355328 then (some (x5 ++ [(x1) % 256])) else (none))
def creelref01_Put.f (k : Nat) (l0 : List Int) (a1 : Int) : Option (List Int) := (some (([] : List Int) : List Int)).bind fun y271 => (if y271.length + l0.length < 140737488355328 then (creelref01_Put.l0 k a1 (y271 ++ l0)) else (none))
theorem creelref01_Put.mono_l : ∀ k, (∀ y0 y1, LeO (creelref01_Put.l0 k y0 y1) (creelref01_Put.l0 (k + 1) y0 y1))
 | 0 => fun _ _ r h => by simp [creelref01_Put.l0] at h
 | k + 1 => by
  have ih0 := creelref01_Put.mono_l k
  ·intro y0 y1
   unfold creelref01_Put.l0
   repeat' first
   | (with_reducible exact ih0 _ _)
   | (with_reducible exact LeO.refl _)
   | (with_reducible exact LeO.none _)
   | (with_reducible refine LeO.ite ?_ ?_)
   | (with_reducible refine LeO.bind ?_ (fun _ => ?_))
   | exact ih0 _ _
   | exact LeO.none _
   | refine LeO.ite ?_ ?_
   | refine LeO.bind ?_ (fun _ => ?_)
theorem creelref01_Put.mono : ∀ a0 a1 k, LeO (creelref01_Put.f k a0 a1) (creelref01_Put.f (k + 1) a0 a1) := by
 intro a0 a1 k
 have ih0 := creelref01_Put.mono_l k
 unfold creelref01_Put.f
 repeat' first
   | (with_reducible exact ih0 _ _)
   | (with_reducible exact LeO.refl _)
   | (with_reducible exact LeO.none _)
   | (with_reducible refine LeO.ite ?_ ?_)
   | (with_reducible refine LeO.bind ?_ (fun _ => ?_))
   | exact ih0 _ _
   | exact LeO.none _
   | refine LeO.ite ?_ ?_
   | refine LeO.bind ?_ (fun _ => ?_)
set_option maxHeartbeats 8000000 in
set_option maxRecDepth 100000 in
theorem creelref01_Put.calls (k : Nat) (A0 : Option Addr) (c0 : Nat) (l0 : List Int) (a1 : Int) (r : List Int) (w : World) (hr0 : Kd.C (Kd.int .u8) w A0 l0.length l0) (hc0 : l0.length ≤ c0) (h : creelref01_Put.f k l0 a1 = some r) :
  Calls Try.prog 27 #[.slice A0 l0.length c0, .int .u64 a1] w fun e w' => ∃ v0_ : Value, e = .returned (v0_) ∧ Kd.R (Kd.int .u8) 5 w' w.heap.size (fun _ => True) v0_ r ∧ Below w.heap.size w w' := by
 have HR0 := Aside0.mk hr0
 have HC0 := Aside0.mk hc0
 clear hr0 hc0
 have HB := Aside0.mk (Below.refl w.heap.size w)
 have H : ((some (([] : List Int) : List Int)).bind fun y271 => (if y271.length + l0.length < 140737488355328 then (creelref01_Put.l0 k a1 (y271 ++ l0)) else (none))) = some r := h
 clear h
 obtain ⟨y271, hy271⟩ : ∃ y_ : List Int, y_ = (([] : List Int)) := ⟨_, rfl⟩
 replace H : (if y271.length + l0.length < 140737488355328 then (creelref01_Put.l0 k a1 (y271 ++ l0)) else (none)) = some r := by first | (rw [hy271]; with_reducible exact H) | (have H2_ := (Option.bind_some _ _).symm.trans H; rw [hy271]; with_reducible exact H2_) | (have H2_ := (Option.bind_some _ _).symm.trans H; with_reducible exact H2_) | with_reducible exact H | (rw [hy271]; exact H) | exact H
 have Ny271 := Aside0.mk hy271
 clear hy271
 by_cases c3 : y271.length + l0.length < 140737488355328
 ·rw [if_pos c3] at H
  have LMc3 := Aside0.mk c3
  clear c3
  obtain ⟨y274, hy274⟩ : ∃ y_ : List Int, y_ = (y271 ++ l0) := ⟨_, rfl⟩
  replace H : (creelref01_Put.l0 k a1 y274) = some r := by first | (rw [hy274]; with_reducible exact H) | (have H2_ := (Option.bind_some _ _).symm.trans H; rw [hy274]; with_reducible exact H2_) | (have H2_ := (Option.bind_some _ _).symm.trans H; with_reducible exact H2_) | with_reducible exact H | (rw [hy274]; exact H) | exact H
  have Ny274 := Aside0.mk hy274
  clear hy274
  have H' := Aside0.mk H
  clear H
  go_enter Try.func27, Try.ntmps27
  go_wp2_with (first | ((with_reducible refine gate_dst (N := 6) rfl ?_); refine Kd.R_lit (Kd.int .u8) _ 5 ?hg (N := 6) ?hd (xs := ([] : List Int)) (inner := []) (ok := fun _ => True) (okp := fun _ => True) ?hr ?hp (fun _ hk => hk) trivial (Below.refl _ _) (Nat.le_refl _) (by simp) ?_; (case hd => rfl); (case hg => rfl); (case hr => first | (go_simp; done) | (go_simp; rfl)); (case hp => exact (Reps.none _ _)); intro v272 w4 ho5 hb hg_ hnew_; clear hg_ hnew_; (first | rw [← Ny271.out] at ho5 | (simp only [Int.reduceToNat] at ho5; rw [← Ny271.out] at ho5)); have n0_ := Aside0.mk (Kd.R_lower ho5 (below_size (by repeat (first | (with_reducible first | exact HB.out | apply below_alloc | apply pw_below_drewN | apply below_drew1) | exact HB.out)))); have n1_ := Aside0.mk (below_step (by repeat (first | (with_reducible first | exact HB.out | apply below_alloc | apply pw_below_drewN | apply below_drew1) | exact HB.out)) hb); clear HB; have HO273 := n0_; have HB := n1_; clear n0_ n1_; clear hb ho5) | ((with_reducible refine gate_builtin (b := .append) (xs := #[.tmp 6, .tmp 7]) rfl ?_); at_builtin; refine Kd.R_append_rows (Kd.int .u8) (w0 := w) w.heap.size rfl (.tmp 6) (.tmp 7) 26 5 (.int .u8 0) 1 rfl Try.underlying26 info5 rfl (by decide) (by omega) v272 y271 l0 _ _ _ (fun _ => True) (fun _ => False) rfl rfl ?aO ?aR (fun _ _ h => h) (fun _ h => h.elim) ?aF ?aB ?aS ?aL ?_; (case aR => repeat (first | exact (Kd.C_below HR0.out HB.out) | (with_reducible refine Kd.C_alloc ?_ _) | (with_reducible refine Kd.C_drewN ?_ _) | (with_reducible refine Kd.C_drew ?_))); (case aB => exact (by repeat (first | (with_reducible first | exact HB.out | apply below_alloc | apply pw_below_drewN | apply below_drew1) | exact HB.out))); (case aF => exact (fun _ _ => trivial)); (case aO => exact (by (with_reducible repeat (first | apply Kd.R_alloc | apply Kd.R_drewN | apply Kd.R_drew)); exact HO273.out)); (case aS => exact (below_size (by repeat (first | (with_reducible first | exact HB.out | apply below_alloc | apply pw_below_drewN | apply below_drew1) | exact HB.out)))); (case aL => have := LMc3.out; omega); intro v275 w6 ho hb hg hat; rw [← Ny274.out] at ho; have n0_ := Aside0.mk (hb); have n1_ := Aside0.mk (ho); clear HB; clear HO273; have HB := n0_; have HO276 := n1_; clear n0_ n1_; clear ho hb hg hat))
  go_loopg [1, 5] k (fun kq v1 v5 w' => ∃ (x1_1 : Int) (x5_1 : List Int), v1 = .int .u64 x1_1 ∧ Aside0 (creelref01_Put.l0 kq x1_1 x5_1 = some r) ∧ Aside0 (kq ≤ k) ∧ Aside0 (Kd.R (Kd.int .u8) 5 w' w.heap.size (fun _ => True) v5 x5_1) ∧ Aside0 (Below w.heap.size w w'))
  case atStart => exact ⟨(a1), (y274), (by first | rfl | (simp; done) | (simp [*]; done)), H', ⟨Nat.le_refl _⟩, ⟨by (with_reducible repeat (first | apply Kd.R_alloc | apply Kd.R_drewN | apply Kd.R_drew)); exact HO276.out⟩, ⟨by repeat (first | (with_reducible first | exact HB.out | apply below_alloc | apply pw_below_drewN | apply below_drew1) | exact HB.out)⟩⟩
  case round =>
   clear H'
   try clear c2
   try clear p2
   try clear c3
   obtain ⟨x1_1, x5_1, rfl, HA, HK1, HO_5, HB⟩ := hrel
   cases gk with
   | zero => exact absurd HA.out (by simp [creelref01_Put.l0])
   | succ k1 =>
    have H := HA.out
    clear HA
    simp only [creelref01_Put.l0] at H
    by_cases c7 : x1_1 > 127
    ·rw [if_pos c7] at H
     have c7b0 : decide (127 < x1_1) = true := decide_eq_true c7
     clear c7
     by_cases c8 : x5_1.length < 140737488355328
     ·rw [if_pos c8] at H
      have LMc8 := Aside0.mk c8
      clear c8
      obtain ⟨y277, hy277⟩ : ∃ y_ : List Int, y_ = (x5_1 ++ [((Int.tmod x1_1 128) + 128) % 256]) := ⟨_, rfl⟩
      replace H : (creelref01_Put.l0 k1 (IntKind.u64.wrap (Int.tdiv x1_1 128)) y277) = some r := by first | (rw [hy277]; with_reducible exact H) | (have H2_ := (Option.bind_some _ _).symm.trans H; rw [hy277]; with_reducible exact H2_) | (have H2_ := (Option.bind_some _ _).symm.trans H; with_reducible exact H2_) | with_reducible exact H | (rw [hy277]; exact H) | exact H
      have Ny277 := Aside0.mk hy277
      clear hy277
      have H' := Aside0.mk H
      clear H
      go_wp2_with (first | ((with_reducible refine gate_builtin (b := .append) (xs := #[.tmp 11, .tmp 16]) rfl ?_); at_builtin; refine Kd.R_append (Kd.int .u8) (w0 := w) w.heap.size rfl (.tmp 11) (.tmp 16) 26 5 (.int .u8 0) 1 rfl Try.underlying26 info5 rfl (by decide) (by omega) u5 x5_1 (((Int.tmod x1_1 128) + 128) % 256) [.int .u8 (((Int.tmod x1_1 128) + 128) % 256)] (fun _ => True) (fun _ => False) rfl rfl ?aP (fun _ hk => hk.elim) ?aF ?aO ?aB ?aS ?aL ?_; (case aP => exact rfl); (case aB => exact (by repeat (first | (with_reducible first | exact HB.out | apply below_alloc | apply pw_below_drewN | apply below_drew1) | exact HB.out))); (case aF => exact (fun _ _ => trivial)); (case aO => exact (by (with_reducible repeat (first | apply Kd.R_alloc | apply Kd.R_drewN | apply Kd.R_drew)); exact HO_5.out)); (case aS => exact (below_size (by repeat (first | (with_reducible first | exact HB.out | apply below_alloc | apply pw_below_drewN | apply below_drew1) | exact HB.out)))); (case aL => have := LMc8.out; omega); intro v278 w9 ho hb hg hat; rw [← Ny277.out] at ho; have n0_ := Aside0.mk (hb); have n1_ := Aside0.mk (ho); clear HB; clear HO_5; have HB := n0_; have HO279 := n1_; clear n0_ n1_; clear ho hb hg hat))
      go_roundg k1
      case measure => have := HK1.out; omega
      case rel => exact ⟨(IntKind.u64.wrap (Int.tdiv x1_1 128)), (y277), (by first | rfl | (simp; done) | (simp [*]; done)), H', ⟨by have := HK1.out; omega⟩, ⟨by (with_reducible repeat (first | apply Kd.R_alloc | apply Kd.R_drewN | apply Kd.R_drew)); exact HO279.out⟩, ⟨by repeat (first | (with_reducible first | exact HB.out | apply below_alloc | apply pw_below_drewN | apply below_drew1) | exact HB.out)⟩⟩
     ·rw [if_neg c8] at H
      exact absurd H (by simp)
    ·rw [if_neg c7] at H
     have c7b0 : decide (127 < x1_1) = false := decide_eq_false c7
     clear c7
     by_cases c10 : x5_1.length < 140737488355328
     ·rw [if_pos c10] at H
      have LMc10 := Aside0.mk c10
      clear c10
      obtain ⟨y280, hy280⟩ : ∃ y_ : List Int, y_ = (x5_1 ++ [(x1_1) % 256]) := ⟨_, rfl⟩
      replace H : (some y280) = some r := by first | (rw [hy280]; with_reducible exact H) | (have H2_ := (Option.bind_some _ _).symm.trans H; rw [hy280]; with_reducible exact H2_) | (have H2_ := (Option.bind_some _ _).symm.trans H; with_reducible exact H2_) | with_reducible exact H | (rw [hy280]; exact H) | exact H
      have Ny280 := Aside0.mk hy280
      clear hy280
      obtain rfl := Option.some.inj H
      go_wp2_with (first | ((with_reducible refine gate_builtin (b := .append) (xs := #[.tmp 20, .tmp 23]) rfl ?_); at_builtin; refine Kd.R_append (Kd.int .u8) (w0 := w) w.heap.size rfl (.tmp 20) (.tmp 23) 26 5 (.int .u8 0) 1 rfl Try.underlying26 info5 rfl (by decide) (by omega) u5 x5_1 ((x1_1) % 256) [.int .u8 ((x1_1) % 256)] (fun _ => True) (fun _ => False) rfl rfl ?aP (fun _ hk => hk.elim) ?aF ?aO ?aB ?aS ?aL ?_; (case aP => exact rfl); (case aB => exact (by repeat (first | (with_reducible first | exact HB.out | apply below_alloc | apply pw_below_drewN | apply below_drew1) | exact HB.out))); (case aF => exact (fun _ _ => trivial)); (case aO => exact (by (with_reducible repeat (first | apply Kd.R_alloc | apply Kd.R_drewN | apply Kd.R_drew)); exact HO_5.out)); (case aS => exact (below_size (by repeat (first | (with_reducible first | exact HB.out | apply below_alloc | apply pw_below_drewN | apply below_drew1) | exact HB.out)))); (case aL => have := LMc10.out; omega); intro v281 w11 ho hb hg hat; rw [← Ny280.out] at ho; have n0_ := Aside0.mk (hb); have n1_ := Aside0.mk (ho); clear HB; clear HO_5; have HB := n0_; have HO282 := n1_; clear n0_ n1_; clear ho hb hg hat))
      go_ret
      exact ⟨_, by first | rfl | (simp [errW_none, errW_some] <;> rfl) | (simp [*, errW_none, errW_some] <;> rfl), by (with_reducible repeat (first | apply Kd.R_alloc | apply Kd.R_drewN | apply Kd.R_drew)); exact HO282.out, by repeat (first | (with_reducible first | exact HB.out | apply below_alloc | apply pw_below_drewN | apply below_drew1) | exact HB.out)⟩
     ·rw [if_neg c10] at H
      exact absurd H (by simp)
 ·rw [if_neg c3] at H
  exact absurd H (by simp)

/-! ### creelref01_Zig: function 42 -/
def creelref01_Zig.f (a0 : Int) : Option (Int) := if a0 < 0 then (some (IntKind.u64.wrap ((IntKind.u64.wrap (2 * (IntKind.u64.wrap (wrap64 (-(wrap64 (a0 + 1))))))) + 1))) else (some (IntKind.u64.wrap (2 * (IntKind.u64.wrap (a0)))))
set_option maxHeartbeats 8000000 in
set_option maxRecDepth 100000 in
theorem creelref01_Zig.calls (a0 : Int) (r : Int) (w : World) (h : creelref01_Zig.f a0 = some r) :
  Calls Try.prog 42 #[.int .i64 a0] w fun e w' => e = .returned (.int .u64 r) ∧ Drawn0 w w' := by
 have H : (if a0 < 0 then (some (IntKind.u64.wrap ((IntKind.u64.wrap (2 * (IntKind.u64.wrap (wrap64 (-(wrap64 (a0 + 1))))))) + 1))) else (some (IntKind.u64.wrap (2 * (IntKind.u64.wrap (a0)))))) = some r := h
 clear h
 by_cases c2 : a0 < 0
 ·rw [if_pos c2] at H
  have c2b0 : decide (a0 < 0) = true := decide_eq_true c2
  clear c2
  obtain rfl := Option.some.inj H
  go_enter Try.func42, Try.ntmps42
  go_wp2
  go_ret
  exact ⟨by first | rfl | (simp; done) | (simp [*]; done), by repeat (first | exact Drawn0.refl _ | apply Drawn0.step)⟩
 ·rw [if_neg c2] at H
  have c2b0 : decide (a0 < 0) = false := decide_eq_false c2
  clear c2
  obtain rfl := Option.some.inj H
  go_enter Try.func42, Try.ntmps42
  go_wp2
  go_ret
  exact ⟨by first | rfl | (simp; done) | (simp [*]; done), by repeat (first | exact Drawn0.refl _ | apply Drawn0.step)⟩

end Go.Proofs.Ytnkjbgoibmbmoaa.Print
