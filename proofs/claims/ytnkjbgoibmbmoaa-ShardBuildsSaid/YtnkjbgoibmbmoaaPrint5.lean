-- Written by a program of this session (wip/cprint.py), which calls the kit's print and adds contracts proved by hand.
import Derived.Test.YtnkjbgoibmbmoaaPrint0
import Derived.Test.YtnkjbgoibmbmoaaPrint1
import Derived.Test.YtnkjbgoibmbmoaaPrint2
import Derived.Test.YtnkjbgoibmbmoaaPrint3
import Derived.Test.YtnkjbgoibmbmoaaPrint4
namespace Go.Proofs.Ytnkjbgoibmbmoaa.Print
open Go.RowKit Go.Proofs.YtnkjbgoibmbmoaaW.PrintWords Go.Proofs.YtnkjbgoibmbmoaaW.PrintLast Go.Proofs.YtnkjbgoibmbmoaaW.PrintMore
attribute [local go_sem] max2_int min2_int max_two min_two max_three min_three max_four min_four   -- for this text's walks alone
set_option linter.unusedVariables false
set_option linter.unusedSimpArgs false

/-! ### shard_Open: function 14 -/
/-- How many neighbours all have. -/
def sumLen (l : List (List Int)) : Nat := (l.map List.length).sum
def shard_Open.l (k : Nat) (a : Int) : Nat → List (List Int) → List Int → Option (Option (List (List Int) × List Int))
 | 0, next, b => some (some (next, b))
 | m + 1, next, b => if sumLen next ≤ 1000000000000 then (shard_Shard_vertex.f k a next.length b).bind fun t => if t.2.2 = true then shard_Open.l k a m (next ++ [t.1]) t.2.1 else some none else none
/-- What a file tells: its first vertex, its vertices' neighbours; none: it is no file. -/
def shard_Open.f (k : Nat) (b : List Int) : Option (Option (Int × List (List Int))) := (shard_whole.f k b).bind fun o =>
 if o.2 = true then (vary_Take.f k o.1).bind fun t =>
  if 0 ≤ t.1 ∧ t.1 < 18446744073709551616 then
   (if t.2.2 = 0 then (vary_Take.f k t.2.1).bind fun u =>
    if 0 ≤ u.1 ∧ u.1 < 18446744073709551616 ∧ u.2.1.length ≤ 1000000 then
     (if u.2.2 = 0 ∧ u.1 ≤ u.2.1.length ∧ t.1 ≤ 4294967296 ∧ t.1 + u.1 ≤ 4294967296 then
      (shard_Open.l k t.1 u.1.toNat [] u.2.1).bind fun r => match r with
       | none => some none
       | some p => if p.2.length = 0 then some (some (t.1, p.1)) else some none
     else some none)
    else none
   else some none)
  else none
 else some none
theorem shard_Open.mono_l (k : Nat) (a : Int) : ∀ (m : Nat) (next : List (List Int)) (b : List Int), LeO (shard_Open.l k a m next b) (shard_Open.l (k + 1) a m next b)
 | 0, _, _ => LeO.refl _
 | m + 1, next, b => by
  unfold shard_Open.l
  refine LeO.ite (LeO.trans (LeO.bind (shard_Shard_vertex.mono _ _ b k) (fun t => LeO.refl _)) (LeO.bind (LeO.refl _) (fun t => ?_))) (LeO.refl _)
  exact LeO.ite (shard_Open.mono_l k a m _ _) (LeO.refl _)
theorem shard_Open.mono : ∀ (b : List Int) (k : Nat), LeO (shard_Open.f k b) (shard_Open.f (k + 1) b) := by
 intro b k
 unfold shard_Open.f
 refine LeO.trans (LeO.bind (shard_whole.mono b k) (fun o => LeO.refl _)) (LeO.bind (LeO.refl _) (fun o => ?_))
 refine LeO.ite ?_ (LeO.refl _)
 refine LeO.trans (LeO.bind (vary_Take.mono _ k) (fun t => LeO.refl _)) (LeO.bind (LeO.refl _) (fun t => ?_))
 refine LeO.ite (LeO.ite ?_ (LeO.refl _)) (LeO.refl _)
 refine LeO.trans (LeO.bind (vary_Take.mono _ k) (fun u => LeO.refl _)) (LeO.bind (LeO.refl _) (fun u => ?_))
 refine LeO.ite (LeO.ite ?_ (LeO.refl _)) (LeO.refl _)
 exact LeO.bind (shard_Open.mono_l k _ _ _ _) (fun r => LeO.refl _)
/-- What is handed back: nil and that it is no file, or a Shard. -/
def OpenIs (w w' : World) (e : Ending) : Option (Int × List (List Int)) → Prop
 | none => e = .returned (.tuple #[.pointer none, .int .i64 6])
 | some p => ∃ q, e = .returned (.tuple #[.pointer (some ⟨q, 0, none⟩), .int .i64 0]) ∧ ShIs w' q w.heap.size p.1 p.2 (sumLen p.2 : Nat)
theorem sumLen_snoc (l : List (List Int)) (x : List Int) : sumLen (l ++ [x]) = sumLen l + x.length := by simp [sumLen]
set_option maxHeartbeats 8000000 in
set_option maxRecDepth 100000 in
theorem shard_Open.calls (k : Nat) (A0 : Option Addr) (c0 : Nat) (l0 : List Int) (o : Option (Int × List (List Int))) (w : World) (hr0 : Kd.C (Kd.int .u8) w A0 l0.length l0) (hc0 : l0.length ≤ c0) (h : shard_Open.f k l0 = some o) :
  Calls Try.prog 14 #[.slice A0 l0.length c0] w fun e w' => OpenIs w w' e o ∧ Below w.heap.size w w' := by
 have HR0 := Aside0.mk hr0
 have HC0 := Aside0.mk hc0
 clear hr0 hc0
 unfold shard_Open.f at h
 obtain ⟨⟨x, ok⟩, hw, h'⟩ := Option.bind_eq_some_iff.mp h
 have HW := Aside0.mk hw
 clear hw h
 simp only at h'
 cases ok with
 | false =>
  obtain rfl : none = o := Option.some.inj h'
  go_enter Try.func14, Try.ntmps14
  go_wp2_with (first | (go_at_call 30; (with_reducible refine (shard_whole.calls k _ _ l0 _ _ _ HR0.out HC0.out HW.out).mono ?_); rintro e w1 ⟨v1, rfl, ho, hb⟩; have HB1 := Aside0.mk hb; clear ho hb))
  go_ret2
  exact ⟨rfl, HB1.out⟩
 | true =>
  rw [if_pos rfl] at h'
  obtain ⟨⟨n0, x1, e0⟩, ht, h⟩ := Option.bind_eq_some_iff.mp h'
  have HT := Aside0.mk ht
  clear ht h'
  simp only at h
  by_cases hb : 0 ≤ n0 ∧ n0 < 18446744073709551616
  ·rw [if_pos hb] at h
   obtain ⟨h1, h2⟩ := hb
   obtain ⟨a, rfl⟩ := Int.eq_ofNat_of_zero_le h1
   clear h1
   by_cases he0 : e0 = 0
   ·subst he0
    rw [if_pos rfl] at h
    obtain ⟨⟨n1, x2, e1⟩, hu, h'⟩ := Option.bind_eq_some_iff.mp h
    have HU := Aside0.mk hu
    clear hu h
    simp only at h'
    by_cases hb : 0 ≤ n1 ∧ n1 < 18446744073709551616 ∧ x2.length ≤ 1000000
    ·rw [if_pos hb] at h'
     obtain ⟨h1, h3, h4⟩ := hb
     obtain ⟨M, rfl⟩ := Int.eq_ofNat_of_zero_le h1
     clear h1
     by_cases hok : e1 = 0 ∧ (M : Int) ≤ x2.length ∧ (a : Int) ≤ 4294967296 ∧ (a : Int) + M ≤ 4294967296
     ·rw [if_pos hok] at h'
      obtain ⟨rfl, g1, g2, g3⟩ := hok
      simp only [Int.toNat_natCast] at h'
      obtain ⟨r, hl, h⟩ := Option.bind_eq_some_iff.mp h'
      have HL := Aside0.mk hl
      have HE := Aside0.mk h
      clear hl h h'
      have d1 : decide (x2.length < M) = false := decide_eq_false (by omega)
      have d2 : decide ((4294967296 : Int) < (a : Int)) = false := decide_eq_false (by omega)
      have d3 : decide (4294967296 < a) = false := decide_eq_false (by omega)
      have d4 : decide ((4294967296 : Int) - (M : Int) < (a : Int)) = false := decide_eq_false (by omega)
      go_enter Try.func14, Try.ntmps14
      go_wp2_with (first | (go_at_call 30; (with_reducible refine (shard_whole.calls k _ _ l0 _ _ _ HR0.out HC0.out HW.out).mono ?_); rintro e w1 ⟨v1, rfl, ho, hb⟩; obtain ⟨Aw, cw, rfl⟩ := Kd.R_slice ho; have HX := Aside0.mk ho; have HB1 := Aside0.mk hb; clear ho hb) | (go_at_call 31; (with_reducible refine (vary_Take.calls k _ _ x _ _ _ _ (Kd.R_reads' HX.out).2.2 (Kd.R_reads' HX.out).2.1 HT.out).mono ?_); rintro e w2 ⟨v1, rfl, ho, hb⟩; obtain ⟨A1, c1, rfl⟩ := Kd.R_slice ho; have HX1 := Aside0.mk ho; have HB2 := Aside0.mk (below_step HB1.out hb); clear ho hb HX) | (go_at_call 31; (with_reducible refine (vary_Take.calls k _ _ x1 _ _ _ _ (Kd.R_reads' HX1.out).2.2 (Kd.R_reads' HX1.out).2.1 HU.out).mono ?_); rintro e w3 ⟨v1, rfl, ho, hb⟩; obtain ⟨A2, c2, rfl⟩ := Kd.R_slice ho; have HX2 := Aside0.mk ho; have HB3 := Aside0.mk (below_step HB2.out hb); clear ho hb HX1))
      obtain ⟨q, hq⟩ : ∃ q, w3.heap.size = q := ⟨_, rfl⟩
      rw [hq]
      have hwq : w.heap.size ≤ q := by rw [← hq]; exact HB3.out.size
      have hsh : ShIs (w3.alloc (Obj.cells #[Value.int .i64 a, Value.slice none 0 0, Value.int .i64 0] 62)) q w.heap.size a [] (sumLen [] : Nat) := ⟨hwq, _, by rw [← hq]; exact heap_alloc_new _ _, Kd.N_nil _ _ _ _ _⟩
      have hx2 := Kd.C_alloc (Kd.R_reads' HX2.out).2.2 (Obj.cells #[Value.int .i64 a, Value.slice none 0 0, Value.int .i64 0] 62)
      have hb4 : Below w.heap.size w (w3.alloc (Obj.cells #[Value.int .i64 a, Value.slice none 0 0, Value.int .i64 0] 62)) := Below.alloc HB3.out (by omega) _
      have hc2 := (Kd.R_reads' HX2.out).2.1
      have HSH := Aside0.mk hsh
      have HX3 := Aside0.mk hx2
      have HB4 := Aside0.mk hb4
      clear hsh hx2 hb4 HX2 HB3 hq
      go_loopw [4, 55] (fun v4 v55 wr => ∃ (i : Nat) (next : List (List Int)) (b : List Int) (A4 : Option Addr) (c4 : Nat), v4 = .slice A4 b.length c4 ∧ v55 = .int .u64 i ∧ i ≤ M ∧ next.length = i ∧ b.length ≤ c4 ∧ Aside0 (shard_Open.l k a (M - i) next b = some r) ∧ Aside0 (ShIs wr q w.heap.size a next (sumLen next : Nat)) ∧ Aside0 (Kd.C (Kd.int .u8) wr A4 b.length b) ∧ Aside0 (Below w.heap.size w wr)) (fun _ v55 _ => M - (intOf v55).toNat)
      case atStart => exact ⟨0, [], x2, A2, c2, rfl, rfl, Nat.zero_le _, rfl, hc2, HL, HSH, HX3, HB4⟩
      case round =>
       clear HL HSH HX3 HB4
       obtain ⟨i, next, b, A4, c4, rfl, rfl, hi, hni, hbc, HL, HSH, HX3, HB4⟩ := hrel
       by_cases hlt : i < M
       ·have hl := HL.out
        clear HL
        rw [show M - i = (M - (i + 1)) + 1 by omega] at hl
        unfold shard_Open.l at hl
        by_cases hsl : sumLen next ≤ 1000000000000
        ·rw [if_pos hsl] at hl
         obtain ⟨⟨y, z, ok⟩, hv, hl'⟩ := Option.bind_eq_some_iff.mp hl
         have HV := Aside0.mk hv
         clear hv hl
         simp only at hl'
         have hct := shard_Shard_vertex.calls k q w.heap.size a (sumLen next : Nat) next A4 c4 b y z ok _ HSH.out HX3.out hbc ⟨by omega, g2⟩ (by omega) ⟨by omega, by omega⟩ HV.out
         have HCT := Aside0.mk hct
         clear hct
         cases ok with
         | true =>
          rw [if_pos rfl] at hl'
          have HL := Aside0.mk hl'
          clear hl'
          go_wp2_with (first | (go_at_call 32; (with_reducible refine (HCT.out).mono ?_); rintro e w5 ⟨A5, c5, rfl, hc5, hx5, hs5, hb5⟩; have HX5 := Aside0.mk hx5; have HS5 := Aside0.mk (hs5 rfl); have HB5 := Aside0.mk (HB4.out.trans hb5); clear hx5 hs5 hb5 HCT))
          go_roundw
          case rel => exact ⟨i + 1, next ++ [y], z, A5, c5, rfl, by go_num, by omega, by rw [List.length_append, hni]; rfl, hc5, HL, ⟨by rw [sumLen_snoc, Int.natCast_add]; exact HS5.out⟩, HX5, HB5⟩
          case measure => simp [intOf]; omega
         | false =>
          rw [if_neg (by decide)] at hl'
          obtain rfl : none = r := Option.some.inj hl'
          obtain rfl : none = o := Option.some.inj HE.out
          go_wp2_with (first | (go_at_call 32; (with_reducible refine (HCT.out).mono ?_); rintro e w5 ⟨A5, c5, rfl, hc5, hx5, hs5, hb5⟩; have HB5 := Aside0.mk (HB4.out.trans hb5); clear hx5 hs5 hb5 HCT))
          go_ret2
          exact ⟨rfl, HB5.out⟩
        ·rw [if_neg hsl] at hl
         exact absurd hl (by simp)
       ·obtain rfl : i = M := by omega
        have hl := HL.out
        clear HL
        rw [Nat.sub_self] at hl
        unfold shard_Open.l at hl
        obtain rfl := Option.some.inj hl
        have he := HE.out
        clear HE hl
        simp only at he
        by_cases hz : b.length = 0
        ·rw [if_pos hz] at he
         obtain rfl := Option.some.inj he
         have d5 : decide (0 < b.length) = false := decide_eq_false (by omega)
         go_wp2
         go_ret2
         exact ⟨⟨q, rfl, HSH.out⟩, HB4.out⟩
        ·rw [if_neg hz] at he
         obtain rfl : none = o := Option.some.inj he
         have d5 : decide (0 < b.length) = true := decide_eq_true (by omega)
         go_wp2
         go_ret2
         exact ⟨rfl, HB4.out⟩
     ·rw [if_neg hok] at h'
      obtain rfl : none = o := Option.some.inj h'
      by_cases he1 : e1 = 0
      ·subst he1
       by_cases g1 : (M : Int) ≤ x2.length
       ·have d1 : decide (x2.length < M) = false := decide_eq_false (by omega)
        by_cases g2 : (a : Int) ≤ 4294967296
        ·have d2 : decide ((4294967296 : Int) < (a : Int)) = false := decide_eq_false (by omega)
         have d3 : decide (4294967296 < a) = false := decide_eq_false (by omega)
         have g3 : ¬ ((a : Int) + M ≤ 4294967296) := fun h_ => hok ⟨rfl, g1, g2, h_⟩
         have d4 : decide ((4294967296 : Int) - (M : Int) < (a : Int)) = true := decide_eq_true (by omega)
         go_enter Try.func14, Try.ntmps14
         go_wp2_with (first | (go_at_call 30; (with_reducible refine (shard_whole.calls k _ _ l0 _ _ _ HR0.out HC0.out HW.out).mono ?_); rintro e w1 ⟨v1, rfl, ho, hb⟩; obtain ⟨Aw, cw, rfl⟩ := Kd.R_slice ho; have HX := Aside0.mk ho; have HB1 := Aside0.mk hb; clear ho hb) | (go_at_call 31; (with_reducible refine (vary_Take.calls k _ _ x _ _ _ _ (Kd.R_reads' HX.out).2.2 (Kd.R_reads' HX.out).2.1 HT.out).mono ?_); rintro e w2 ⟨v1, rfl, ho, hb⟩; obtain ⟨A1, c1, rfl⟩ := Kd.R_slice ho; have HX1 := Aside0.mk ho; have HB2 := Aside0.mk (below_step HB1.out hb); clear ho hb HX) | (go_at_call 31; (with_reducible refine (vary_Take.calls k _ _ x1 _ _ _ _ (Kd.R_reads' HX1.out).2.2 (Kd.R_reads' HX1.out).2.1 HU.out).mono ?_); rintro e w3 ⟨v1, rfl, ho, hb⟩; obtain ⟨A2, c2, rfl⟩ := Kd.R_slice ho; have HX2 := Aside0.mk ho; have HB3 := Aside0.mk (below_step HB2.out hb); clear ho hb HX1))
         go_ret2
         exact ⟨rfl, HB3.out⟩
        ·have d2 : decide ((4294967296 : Int) < (a : Int)) = true := decide_eq_true (by omega)
         have d3 : decide (4294967296 < a) = true := decide_eq_true (by omega)
         go_enter Try.func14, Try.ntmps14
         go_wp2_with (first | (go_at_call 30; (with_reducible refine (shard_whole.calls k _ _ l0 _ _ _ HR0.out HC0.out HW.out).mono ?_); rintro e w1 ⟨v1, rfl, ho, hb⟩; obtain ⟨Aw, cw, rfl⟩ := Kd.R_slice ho; have HX := Aside0.mk ho; have HB1 := Aside0.mk hb; clear ho hb) | (go_at_call 31; (with_reducible refine (vary_Take.calls k _ _ x _ _ _ _ (Kd.R_reads' HX.out).2.2 (Kd.R_reads' HX.out).2.1 HT.out).mono ?_); rintro e w2 ⟨v1, rfl, ho, hb⟩; obtain ⟨A1, c1, rfl⟩ := Kd.R_slice ho; have HX1 := Aside0.mk ho; have HB2 := Aside0.mk (below_step HB1.out hb); clear ho hb HX) | (go_at_call 31; (with_reducible refine (vary_Take.calls k _ _ x1 _ _ _ _ (Kd.R_reads' HX1.out).2.2 (Kd.R_reads' HX1.out).2.1 HU.out).mono ?_); rintro e w3 ⟨v1, rfl, ho, hb⟩; obtain ⟨A2, c2, rfl⟩ := Kd.R_slice ho; have HX2 := Aside0.mk ho; have HB3 := Aside0.mk (below_step HB2.out hb); clear ho hb HX1))
         go_ret2
         exact ⟨rfl, HB3.out⟩
       ·have d1 : decide (x2.length < M) = true := decide_eq_true (by omega)
        go_enter Try.func14, Try.ntmps14
        go_wp2_with (first | (go_at_call 30; (with_reducible refine (shard_whole.calls k _ _ l0 _ _ _ HR0.out HC0.out HW.out).mono ?_); rintro e w1 ⟨v1, rfl, ho, hb⟩; obtain ⟨Aw, cw, rfl⟩ := Kd.R_slice ho; have HX := Aside0.mk ho; have HB1 := Aside0.mk hb; clear ho hb) | (go_at_call 31; (with_reducible refine (vary_Take.calls k _ _ x _ _ _ _ (Kd.R_reads' HX.out).2.2 (Kd.R_reads' HX.out).2.1 HT.out).mono ?_); rintro e w2 ⟨v1, rfl, ho, hb⟩; obtain ⟨A1, c1, rfl⟩ := Kd.R_slice ho; have HX1 := Aside0.mk ho; have HB2 := Aside0.mk (below_step HB1.out hb); clear ho hb HX) | (go_at_call 31; (with_reducible refine (vary_Take.calls k _ _ x1 _ _ _ _ (Kd.R_reads' HX1.out).2.2 (Kd.R_reads' HX1.out).2.1 HU.out).mono ?_); rintro e w3 ⟨v1, rfl, ho, hb⟩; obtain ⟨A2, c2, rfl⟩ := Kd.R_slice ho; have HX2 := Aside0.mk ho; have HB3 := Aside0.mk (below_step HB2.out hb); clear ho hb HX1))
        go_ret2
        exact ⟨rfl, HB3.out⟩
      ·have d5 : (e1 != 0) = true := bne_iff_ne.mpr he1
       go_enter Try.func14, Try.ntmps14
       go_wp2_with (first | (go_at_call 30; (with_reducible refine (shard_whole.calls k _ _ l0 _ _ _ HR0.out HC0.out HW.out).mono ?_); rintro e w1 ⟨v1, rfl, ho, hb⟩; obtain ⟨Aw, cw, rfl⟩ := Kd.R_slice ho; have HX := Aside0.mk ho; have HB1 := Aside0.mk hb; clear ho hb) | (go_at_call 31; (with_reducible refine (vary_Take.calls k _ _ x _ _ _ _ (Kd.R_reads' HX.out).2.2 (Kd.R_reads' HX.out).2.1 HT.out).mono ?_); rintro e w2 ⟨v1, rfl, ho, hb⟩; obtain ⟨A1, c1, rfl⟩ := Kd.R_slice ho; have HX1 := Aside0.mk ho; have HB2 := Aside0.mk (below_step HB1.out hb); clear ho hb HX) | (go_at_call 31; (with_reducible refine (vary_Take.calls k _ _ x1 _ _ _ _ (Kd.R_reads' HX1.out).2.2 (Kd.R_reads' HX1.out).2.1 HU.out).mono ?_); rintro e w3 ⟨v1, rfl, ho, hb⟩; obtain ⟨A2, c2, rfl⟩ := Kd.R_slice ho; have HX2 := Aside0.mk ho; have HB3 := Aside0.mk (below_step HB2.out hb); clear ho hb HX1))
       go_ret2
       exact ⟨rfl, HB3.out⟩
    ·rw [if_neg hb] at h'
     exact absurd h' (by simp)
   ·rw [if_neg he0] at h
    obtain rfl : none = o := Option.some.inj h
    have d5 : (e0 != 0) = true := bne_iff_ne.mpr he0
    go_enter Try.func14, Try.ntmps14
    go_wp2_with (first | (go_at_call 30; (with_reducible refine (shard_whole.calls k _ _ l0 _ _ _ HR0.out HC0.out HW.out).mono ?_); rintro e w1 ⟨v1, rfl, ho, hb⟩; obtain ⟨Aw, cw, rfl⟩ := Kd.R_slice ho; have HX := Aside0.mk ho; have HB1 := Aside0.mk hb; clear ho hb) | (go_at_call 31; (with_reducible refine (vary_Take.calls k _ _ x _ _ _ _ (Kd.R_reads' HX.out).2.2 (Kd.R_reads' HX.out).2.1 HT.out).mono ?_); rintro e w2 ⟨v1, rfl, ho, hb⟩; obtain ⟨A1, c1, rfl⟩ := Kd.R_slice ho; have HX1 := Aside0.mk ho; have HB2 := Aside0.mk (below_step HB1.out hb); clear ho hb HX))
    go_ret2
    exact ⟨rfl, HB2.out⟩
  ·rw [if_neg hb] at h
   exact absurd h (by simp)

/-! ### shard_Shard_Len: function 17 -/
/-- A Shard, or nil. -/
def ShPtr (W : World) (p : Value) (m : Nat) : Option (Int × List (List Int)) → Prop
 | none => p = .pointer none
 | some s => ∃ q, p = .pointer (some ⟨q, 0, none⟩) ∧ ShIs W q m s.1 s.2 (sumLen s.2 : Nat)
def ShFit : Option (Int × List (List Int)) → Prop
 | none => True
 | some s => 0 ≤ s.1 ∧ s.1 ≤ 4294967296 ∧ s.2.length ≤ 1000000
def shFrom : Option (Int × List (List Int)) → Int
 | none => 0
 | some s => s.1
def shLen : Option (Int × List (List Int)) → Nat
 | none => 0
 | some s => s.2.length
def shEdges : Option (Int × List (List Int)) → Nat
 | none => 0
 | some s => sumLen s.2
def shNext (s : Option (Int × List (List Int))) (v : Int) : List Int × Bool := if v < shFrom s ∨ shFrom s + shLen s ≤ v then ([], false) else (match s with | none => [] | some s => rd_L3 s.2 (v - s.1), true)
theorem ShPtr.below {W W' : World} {p : Value} {m : Nat} {s : Option (Int × List (List Int))} (h : ShPtr W p m s) (hb : Below W.heap.size W W') : ShPtr W' p m s := by
 cases s with
 | none => exact h
 | some s => obtain ⟨q, h0, h1⟩ := h; exact ⟨q, h0, h1.below hb⟩
theorem OpenIs.ptr {w w' : World} {e : Ending} {o : Option (Int × List (List Int))} (h : OpenIs w w' e o) : ∃ p, e = .returned (.tuple #[p, .int .i64 (if o = none then 6 else 0)]) ∧ ShPtr w' p w.heap.size o := by
 cases o with
 | none => exact ⟨_, h, rfl⟩
 | some s => obtain ⟨q, h0, h1⟩ := h; exact ⟨_, h0, q, rfl, h1⟩
set_option maxHeartbeats 4000000 in
theorem sh_From (p : Value) (m : Nat) (s : Option (Int × List (List Int))) (w : World) (h : ShPtr w p m s) : Calls Try.prog 20 #[p] w fun e w' => e = .returned (.int .i64 (shFrom s)) ∧ w' = w := by
 cases s with
 | none =>
  obtain rfl : p = .pointer none := h
  go_enter Try.func20, Try.ntmps20
  go_wp2
  go_ret
  exact ⟨rfl, rfl⟩
 | some s =>
  obtain ⟨q, rfl, -, v, hq, -⟩ := h
  have o0 : w.cell? ⟨q, 0, none⟩ = some (.int .i64 s.1) := cell_of_row _ _ _ _ _ _ hq
  clear hq
  go_enter Try.func20, Try.ntmps20
  go_wp2
  go_ret
  exact ⟨rfl, rfl⟩
set_option maxHeartbeats 4000000 in
theorem sh_Len (p : Value) (m : Nat) (s : Option (Int × List (List Int))) (w : World) (h : ShPtr w p m s) : Calls Try.prog 17 #[p] w fun e w' => e = .returned (.int .i64 (shLen s)) ∧ w' = w := by
 cases s with
 | none =>
  obtain rfl : p = .pointer none := h
  go_enter Try.func17, Try.ntmps17
  go_wp2
  go_ret
  exact ⟨rfl, rfl⟩
 | some s =>
  obtain ⟨q, rfl, -, v, hq, hN⟩ := h
  obtain ⟨An, cn, rfl⟩ := Kd.N_slice hN
  have o0 : w.cell? ⟨q, 1, none⟩ = some (.slice An s.2.length cn) := cell_of_row _ _ _ _ _ _ hq
  clear hq hN
  go_enter Try.func17, Try.ntmps17
  go_wp2
  go_ret
  exact ⟨rfl, rfl⟩
set_option maxHeartbeats 4000000 in
theorem sh_Edges (p : Value) (m : Nat) (s : Option (Int × List (List Int))) (w : World) (h : ShPtr w p m s) : Calls Try.prog 18 #[p] w fun e w' => e = .returned (.int .i64 (shEdges s)) ∧ w' = w := by
 cases s with
 | none =>
  obtain rfl : p = .pointer none := h
  go_enter Try.func18, Try.ntmps18
  go_wp2
  go_ret
  exact ⟨rfl, rfl⟩
 | some s =>
  obtain ⟨q, rfl, -, v, hq, -⟩ := h
  have o0 : w.cell? ⟨q, 2, none⟩ = some (.int .i64 (sumLen s.2 : Nat)) := cell_of_row _ _ _ _ _ _ hq
  clear hq
  go_enter Try.func18, Try.ntmps18
  go_wp2
  go_ret
  exact ⟨rfl, rfl⟩

/-! ### shard_Shard_From: function 20 -/

/-! ### creellaw18_shown: function 9 -/
def creellaw18_shown.f (k : Nat) : Option Bool := (shard_Build.f k 5 [[]]).bind fun p => (shard_Open.f k p.1).bind fun o => if p.2 = 0 ∧ p.1.length = 12 ∧ (p.1.drop 4).take 4 = [5, 1, 1, 0] ∧ o = some (5, [[]]) then some true else none
theorem creellaw18_shown.mono : ∀ (k : Nat), LeO (creellaw18_shown.f k) (creellaw18_shown.f (k + 1)) := by
 intro k
 unfold creellaw18_shown.f
 refine LeO.trans (LeO.bind (shard_Build.mono _ _ k) (fun p => LeO.refl _)) (LeO.bind (LeO.refl _) (fun p => ?_))
 exact LeO.bind (shard_Open.mono _ k) (fun o => LeO.refl _)
set_option maxHeartbeats 8000000 in
set_option maxRecDepth 100000 in
theorem creellaw18_shown.calls (k : Nat) (r : Bool) (w : World) (h : creellaw18_shown.f k = some r) :
  Calls Try.prog 9 #[] w fun e w' => e = .returned (.bool r) ∧ Below w.heap.size w w' := by
 unfold creellaw18_shown.f at h
 obtain ⟨⟨b, e0⟩, hB, h'⟩ := Option.bind_eq_some_iff.mp h
 obtain ⟨o, hO, h⟩ := Option.bind_eq_some_iff.mp h'
 simp only at h hO
 by_cases hc : e0 = 0 ∧ b.length = 12 ∧ (b.drop 4).take 4 = [5, 1, 1, 0] ∧ o = some (5, [[]])
 ·rw [if_pos hc] at h
  obtain rfl := Option.some.inj h
  obtain ⟨rfl, hl, hb, rfl⟩ := hc
  have HO := Aside0.mk hO
  clear h hO
  have hC : Kd.C (Kd.slice 31 (Kd.int .u32)) (w.alloc (.cells #[.slice none 0 0] 36)) (some ⟨w.heap.size, 0, none⟩) ([[]] : List (List Int)).length [[]] := by
   refine ⟨rfl, by show 1 ≤ 9223372036854775807; decide, fun _ => ⟨_, rfl, fun jj pp hj => ?_⟩⟩
   obtain _ | jj := jj
   ·obtain rfl : ([] : List Int) = pp := by simpa using hj
    refine ⟨[.slice none 0 0], rfl, ⟨none, 0, rfl, Nat.le_refl _, Kd.F_now (Kd.V_F (Kd.V_nil (Kd.int .u32) 31 _ 0 (fun _ => True)))⟩, fun ii u hu => ?_⟩
    obtain _ | ii := ii
    ·obtain rfl : _ = u := Option.some.inj hu
     exact cell_of_row _ _ _ _ _ _ (heap_alloc_new w _)
    ·simp at hu
   ·simp at hj
  have hb1 : Below w.heap.size w (w.alloc (.cells #[.slice none 0 0] 36)) := (Below.refl _ _).alloc (Nat.le_refl _) _
  have hcb : Calls Try.prog 12 #[.int .i64 5, .slice (some ⟨w.heap.size, 0, none⟩) 1 1] (w.alloc (.cells #[.slice none 0 0] 36)) _ := shard_Build.calls k 5 (some ⟨w.heap.size, 0, none⟩) 1 [[]] b 0 _ hC (Nat.le_refl _) hB
  have HCB := Aside0.mk hcb
  have HB1 := Aside0.mk hb1
  obtain ⟨x4, hx4⟩ : ∃ x4, (b.take 8).drop 4 = x4 := ⟨_, rfl⟩
  have hx5 : x4 = [5, 1, 1, 0] := by rw [← hx4, List.drop_take]; exact hb
  have hst : ((strOfNums x4).toList == ([5, 1, 1, 0] : List UInt8)) = true := by rw [hx5]; decide +kernel
  have HX4 := Aside0.mk hx4
  clear hC hcb hb1 hB hb hx5 hx4
  have h12 : ((b.length : Int) == 12) = true := by rw [hl]; rfl
  have HL := Aside0.mk hl
  clear hl
  go_enter Try.func9, Try.ntmps9
  go_wp2_with (first | (go_at_call 12; (with_reducible refine (HCB.out).mono ?_); rintro e w2 ⟨v1, rfl, ho, hb⟩; obtain ⟨Ab, cb, rfl⟩ := Kd.R_slice ho; have HR := Aside0.mk ho; have HB2 := Aside0.mk (below_step HB1.out hb); clear ho hb HCB) | (go_at_call 14; (with_reducible refine (shard_Open.calls k _ _ b _ _ (Kd.R_reads' HR.out).2.2 (Kd.R_reads' HR.out).2.1 HO.out).mono ?_); rintro e w3 ⟨⟨q, rfl, hsh⟩, hb⟩; have HSH : Aside0 (ShPtr w3 (.pointer (some ⟨q, 0, none⟩)) _ (some (5, [[]]))) := ⟨⟨q, rfl, hsh⟩⟩; have HR3 := Aside0.mk (Kd.R_below HR.out hb); have HB3 := Aside0.mk (below_step HB2.out hb); clear hb hsh; obtain ⟨A4, n4, c4, hn4, hnc4, hcut4, hF4⟩ := Hand.cut_mid (P := Try.prog) 26 .i64 .i64 Try.underlying26 (by kernel_rfl) (Kd.R_F HR3.out) (Kd.R_reads' HR3.out).2.1 4 8 (by decide) (by have := HL.out; omega); rw [HX4.out] at hn4 hF4; have hcv := Kd.C_string (P := Try.prog) (A := A4) (c := c4) Try.underlying26 Try.underlying5 Try.underlying9 (Kd.F_now hF4); have hcut5 : ∀ W : World, (Instr.slice 26 (.slice Ab b.length cb) (some (.int .i64 4)) (some (.int .i64 8)) none).run Try.prog W = .ok (.slice A4 n4 c4) W := hcut4; clear hF4 hn4 hnc4 hcut4) | (go_at_call 20; (with_reducible refine (sh_From _ _ _ _ HSH.out).mono ?_); rintro e w4 ⟨rfl, rfl⟩; rw [show shFrom (some ((5 : Int), [[]])) = 5 from rfl]) | (go_at_call 17; (with_reducible refine (sh_Len _ _ _ _ HSH.out).mono ?_); rintro e w4 ⟨rfl, rfl⟩; rw [show ((shLen (some ((5 : Int), [[]])) : Nat) : Int) = 1 from rfl]))
  go_ret
  exact ⟨rfl, HB3.out⟩
 ·rw [if_neg hc] at h
  exact absurd h (by simp)

/-! ### shard_Shard_Next: function 15 -/
set_option maxHeartbeats 8000000 in
set_option maxRecDepth 100000 in
theorem sh_Next (p : Value) (m : Nat) (s : Option (Int × List (List Int))) (v : Int) (w : World) (h : ShPtr w p m s) (hs : ShFit s) (hv : -9223372036854775808 ≤ v ∧ v < 9223372036854775808) (hl : (shNext s v).1.length < 1000000000) :
  Calls Try.prog 15 #[p, .int .i64 v] w fun e w' => ∃ v0_ : Value, e = .returned (.tuple #[v0_, .bool (shNext s v).2]) ∧ Kd.R (Kd.int .u32) 31 w' w.heap.size (fun _ => True) v0_ (shNext s v).1 ∧ Below w.heap.size w w' := by
 have HS := Aside0.mk h
 by_cases hout : v < shFrom s ∨ shFrom s + shLen s ≤ v
 ·rw [show shNext s v = ([], false) from if_pos hout]
  clear hl h
  have hfit : 0 ≤ shFrom s ∧ shFrom s ≤ 4294967296 ∧ shLen s ≤ 1000000 := by
   cases s with
   | none => exact ⟨Int.le_refl _, by show (0 : Int) ≤ _; decide, Nat.zero_le _⟩
   | some s => exact hs
  clear hs
  by_cases h1 : v < shFrom s
  ·have d1 : decide (v < shFrom s) = true := decide_eq_true h1
   clear hout
   go_enter Try.func15, Try.ntmps15
   go_wp2_with (first | (go_at_call 20; (with_reducible refine (sh_From p m s _ HS.out).mono ?_); rintro e w1 ⟨rfl, rfl⟩))
   go_ret2
   exact ⟨_, rfl, Kd.R_nil _ _ _ _ _, Below.refl _ _⟩
  ·have d1 : decide (v < shFrom s) = false := decide_eq_false h1
   have h2 : shFrom s + shLen s ≤ v := hout.resolve_left h1
   have d2 : decide ((shLen s : Int) ≤ v - shFrom s) = true := decide_eq_true (by omega)
   clear hout
   go_enter Try.func15, Try.ntmps15
   go_wp2_with (first | (go_at_call 20; (with_reducible refine (sh_From p m s _ HS.out).mono ?_); rintro e w1 ⟨rfl, rfl⟩) | (go_at_call 17; (with_reducible refine (sh_Len p m s _ HS.out).mono ?_); rintro e w1 ⟨rfl, rfl⟩))
   go_ret2
   exact ⟨_, rfl, Kd.R_nil _ _ _ _ _, Below.refl _ _⟩
 ·cases s with
  | none => exact absurd (show v < 0 ∨ (0 : Int) + ((0 : Nat) : Int) ≤ v by omega) hout
  | some s =>
   obtain ⟨a, l⟩ := s
   rw [show shNext (some (a, l)) v = (rd_L3 l (v - a), true) from if_neg hout] at hl ⊢
   have hout' : ¬ (v < a ∨ a + (l.length : Int) ≤ v) := hout
   obtain ⟨k1, k2, k3⟩ : 0 ≤ a ∧ a ≤ 4294967296 ∧ l.length ≤ 1000000 := hs
   have d1 : decide (v < a) = false := decide_eq_false (by omega)
   have d2 : decide ((l.length : Int) ≤ v - a) = false := decide_eq_false (by omega)
   obtain ⟨q, rfl, -, u, hq, hN⟩ := h
   simp only at hq hN hl
   obtain ⟨An, cn, rfl⟩ := Kd.N_slice hN
   obtain ⟨i, hi⟩ : ∃ i, v - a = i := ⟨_, rfl⟩
   obtain ⟨ad, Ax, cx, rfl, hc, hlc, hx⟩ := at_L3 (Kd.N_reads' hN).2.2 i (by omega) (by omega)
   have i0 : decide (0 ≤ i) = true := decide_eq_true (by omega)
   have i1 : decide (i < (l.length : Int)) = true := decide_eq_true (by omega)
   rw [hi] at hl d2 ⊢
   generalize rd_L3 l i = x at *
   have o0 : w.cell? ⟨q, 0, none⟩ = some (.int .i64 a) := cell_of_row _ _ _ _ _ _ hq
   have o1 : w.cell? ⟨q, 1, none⟩ = some (.slice (some ad) l.length cn) := cell_of_row _ _ _ _ _ _ hq
   have HX := Aside0.mk (Kd.C_drew hx)
   have hcl : slices_Clone_uint32_uint32.f x = some x := by unfold slices_Clone_uint32_uint32.f; rw [Option.bind_some, if_pos (by simp; omega)]; rfl
   have HCL := Aside0.mk hcl
   have hfr : shFrom (some (a, l)) = a := rfl
   have hle : shLen (some (a, l)) = l.length := rfl
   have i2 : 0 ≤ i := by omega
   have i3 : i < (l.length : Int) := by omega
   have hva : v - a = i := hi
   have hw1 : IntKind.i64.wrap i = i := by simp only [IntKind.wrap, IntKind.bits, IntKind.signed]; simp; omega
   have b0 : decide (i < 0) = false := decide_eq_false (by omega)
   have b1 : decide ((l.length : Int) ≤ i) = false := decide_eq_false (by omega)
   clear hq hN hout hout' hx hcl
   go_enter Try.func15, Try.ntmps15
   go_wp2_with (first | (go_at_call 20; (with_reducible refine (sh_From _ m (some (a, l)) _ HS.out).mono ?_); rintro e w ⟨rfl, rfl⟩; rw [hfr]) | (go_at_call 17; (with_reducible refine (sh_Len _ m (some (a, l)) _ HS.out).mono ?_); rintro e w ⟨rfl, rfl⟩; rw [hle]))
   have hlt := World.block_lt_of_cell? _ _ hc
   go_region_held3 (fun W => W.cell? ⟨q, 0, none⟩ = some (.int .i64 a) ∧ W.cell? ⟨q, 1, none⟩ = some (.slice (some ad) l.length cn) ∧ W.cell? (ad.add i.toNat) = some (.slice Ax x.length cx)) (first | exact ⟨o0, o1, hc⟩ | exact ⟨p0, p1, p2⟩ | fail) (first | (go_at_call 33; (with_reducible refine (slices_Clone_uint32_uint32.calls _ _ x _ _ HX.out hlc HCL.out).mono ?_); rintro e w2 ⟨v2, rfl, ho, hb⟩; have p0 : w2.cell? ⟨q, 0, none⟩ = some (.int .i64 a) := (hb.cell (World.block_lt_of_cell? w.drew _ o0)).trans o0; have p1 : w2.cell? ⟨q, 1, none⟩ = some (.slice (some ad) l.length cn) := (hb.cell (World.block_lt_of_cell? w.drew _ o1)).trans o1; have p2 : w2.cell? (ad.add i.toNat) = some (.slice Ax x.length cx) := (hb.cell (World.block_lt_of_cell? w.drew _ hc)).trans hc; have HL := Aside0.mk ho; have HB2 := Aside0.mk hb; clear ho hb) | fail)
   go_wp2
   go_ret2
   exact ⟨_, rfl, HL.out, Below.trans (Below.drew (Below.refl _ _)) HB2.out⟩

/-! ### shard_Shard_Edges: function 18 -/

/-! ### cmp_isNaN_uint32: function 63 -/
def cmp_isNaN_uint32.f (a0 : Int) : Option (Bool) := some (a0 != a0)
set_option maxHeartbeats 8000000 in
set_option maxRecDepth 100000 in
theorem cmp_isNaN_uint32.calls (a0 : Int) (r : Bool) (w : World) (h : cmp_isNaN_uint32.f a0 = some r) :
  Calls Try.prog 63 #[.int .u32 a0] w fun e w' => e = .returned (.bool r) ∧ Drawn0 w w' := by
 have H : (some (a0 != a0)) = some r := h
 clear h
 obtain rfl := Option.some.inj H
 go_enter Try.func63, Try.ntmps63
 go_wp2
 go_ret
 exact ⟨by first | rfl | (simp; done) | (simp [*]; done), by repeat (first | exact Drawn0.refl _ | apply Drawn0.step)⟩

/-! ### cmp_Less_uint32: function 51 -/
def cmp_Less_uint32.f (a0 : Int) (a1 : Int) : Option (Bool) := (cmp_isNaN_uint32.f a0).bind fun t269 => (if t269 = true then ((cmp_isNaN_uint32.f a1).bind fun t270 => (if t270 = true then (some (decide (a0 < a1))) else (some true))) else (some (decide (a0 < a1))))
set_option maxHeartbeats 8000000 in
set_option maxRecDepth 100000 in
theorem cmp_Less_uint32.calls (a0 : Int) (a1 : Int) (r : Bool) (w : World) (h : cmp_Less_uint32.f a0 a1 = some r) :
  Calls Try.prog 51 #[.int .u32 a0, .int .u32 a1] w fun e w' => e = .returned (.bool r) ∧ Drawn0 w w' := by
 have H : ((cmp_isNaN_uint32.f a0).bind fun t269 => (if t269 = true then ((cmp_isNaN_uint32.f a1).bind fun t270 => (if t270 = true then (some (decide (a0 < a1))) else (some true))) else (some (decide (a0 < a1))))) = some r := h
 clear h
 replace H := Option.bind_eq_some_iff.mp H
 obtain ⟨t269, A30, H⟩ := H
 replace H : (if t269 = true then ((cmp_isNaN_uint32.f a1).bind fun t270 => (if t270 = true then (some (decide (a0 < a1))) else (some true))) else (some (decide (a0 < a1)))) = some r := H
 have A3 := Aside0.mk A30
 clear A30
 by_cases c4 : t269 = true
 ·subst c4
  have H1 : ((cmp_isNaN_uint32.f a1).bind fun t270 => (if t270 = true then (some (decide (a0 < a1))) else (some true))) = some r := by rw [if_pos rfl] at H; exact H
  clear H
  have H := H1
  clear H1
  replace H := Option.bind_eq_some_iff.mp H
  obtain ⟨t270, A50, H⟩ := H
  replace H : (if t270 = true then (some (decide (a0 < a1))) else (some true)) = some r := H
  have A5 := Aside0.mk A50
  clear A50
  by_cases c6 : t270 = true
  ·subst c6
   have H1 : (some (decide (a0 < a1))) = some r := by rw [if_pos rfl] at H; exact H
   clear H
   have H := H1
   clear H1
   obtain rfl := Option.some.inj H
   go_enter Try.func51, Try.ntmps51
   go_wp2_with (first | ((with_reducible refine gate_callee (f := 63) rfl ?_); refine goesL_ (some 6) rfl rfl Try.func63 (by kernel_rfl) rfl #[.int .u32 a0] rfl (by (try simp only [List.map_toArray, List.map_cons, List.map_nil]); first | done | rfl | (simp only [List.length_drop, List.length_take]; rfl)) ?_; (with_reducible refine (cmp_isNaN_uint32.calls a0 true _ A3.out).mono ?_); rintro e w' ⟨rfl, ⟨nd, rfl⟩⟩; refine ⟨_, rfl, ?_⟩) | (go_at_call 63; (with_reducible refine (cmp_isNaN_uint32.calls a1 true _ A5.out).mono ?_); rintro e w' ⟨rfl, ⟨nd, rfl⟩⟩))
   go_ret
   exact ⟨by first | rfl | (simp; done) | (simp [*]; done), by repeat (first | exact Drawn0.refl _ | apply Drawn0.step)⟩
  ·replace c6 := Bool.eq_false_iff.mpr c6
   subst c6
   have H1 : (some true) = some r := by rw [if_neg (show ¬ (false = true) by decide)] at H; exact H
   clear H
   have H := H1
   clear H1
   obtain rfl := Option.some.inj H
   go_enter Try.func51, Try.ntmps51
   go_wp2_with (first | ((with_reducible refine gate_callee (f := 63) rfl ?_); refine goesL_ (some 6) rfl rfl Try.func63 (by kernel_rfl) rfl #[.int .u32 a0] rfl (by (try simp only [List.map_toArray, List.map_cons, List.map_nil]); first | done | rfl | (simp only [List.length_drop, List.length_take]; rfl)) ?_; (with_reducible refine (cmp_isNaN_uint32.calls a0 true _ A3.out).mono ?_); rintro e w' ⟨rfl, ⟨nd, rfl⟩⟩; refine ⟨_, rfl, ?_⟩) | (go_at_call 63; (with_reducible refine (cmp_isNaN_uint32.calls a1 false _ A5.out).mono ?_); rintro e w' ⟨rfl, ⟨nd, rfl⟩⟩))
   go_ret
   exact ⟨by first | rfl | (simp; done) | (simp [*]; done), by repeat (first | exact Drawn0.refl _ | apply Drawn0.step)⟩
 ·replace c4 := Bool.eq_false_iff.mpr c4
  subst c4
  have H1 : (some (decide (a0 < a1))) = some r := by rw [if_neg (show ¬ (false = true) by decide)] at H; exact H
  clear H
  have H := H1
  clear H1
  obtain rfl := Option.some.inj H
  go_enter Try.func51, Try.ntmps51
  go_wp2_with (first | ((with_reducible refine gate_callee (f := 63) rfl ?_); refine goesL_ (some 6) rfl rfl Try.func63 (by kernel_rfl) rfl #[.int .u32 a0] rfl (by (try simp only [List.map_toArray, List.map_cons, List.map_nil]); first | done | rfl | (simp only [List.length_drop, List.length_take]; rfl)) ?_; (with_reducible refine (cmp_isNaN_uint32.calls a0 false _ A3.out).mono ?_); rintro e w' ⟨rfl, ⟨nd, rfl⟩⟩; refine ⟨_, rfl, ?_⟩))
  go_ret
  exact ⟨by first | rfl | (simp; done) | (simp [*]; done), by repeat (first | exact Drawn0.refl _ | apply Drawn0.step)⟩

/-! ### slices_isNaN_uint32: function 52 -/
def slices_isNaN_uint32.f (a0 : Int) : Option (Bool) := some (a0 != a0)
set_option maxHeartbeats 8000000 in
set_option maxRecDepth 100000 in
theorem slices_isNaN_uint32.calls (a0 : Int) (r : Bool) (w : World) (h : slices_isNaN_uint32.f a0 = some r) :
  Calls Try.prog 52 #[.int .u32 a0] w fun e w' => e = .returned (.bool r) ∧ Drawn0 w w' := by
 have H : (some (a0 != a0)) = some r := h
 clear h
 obtain rfl := Option.some.inj H
 go_enter Try.func52, Try.ntmps52
 go_wp2
 go_ret
 exact ⟨by first | rfl | (simp; done) | (simp [*]; done), by repeat (first | exact Drawn0.refl _ | apply Drawn0.step)⟩

/-! ### slices_BinarySearch_uint32_uint32: function 37 -/
def slices_BinarySearch_uint32_uint32.l0 : Nat → List Int → Int → Int → Int → Int → Option (Int × Bool)
 | 0, _, _, _, _, _ => none
 | k + 1, x0, x1, x6, x7, x8 => if x7 < x8 then (if 0 ≤ (wrap64 ((IntKind.u64.wrap (wrap64 (x7 + x8))) / 2)) then (if (wrap64 ((IntKind.u64.wrap (wrap64 (x7 + x8))) / 2)) < (x0.length : Int) then ((cmp_Less_uint32.f (rd x0 (wrap64 ((IntKind.u64.wrap (wrap64 (x7 + x8))) / 2))) x1).bind fun t272 => (if t272 = true then (slices_BinarySearch_uint32_uint32.l0 k x0 x1 x6 (wrap64 ((wrap64 ((IntKind.u64.wrap (wrap64 (x7 + x8))) / 2)) + 1)) x8) else (slices_BinarySearch_uint32_uint32.l0 k x0 x1 x6 x7 (wrap64 ((IntKind.u64.wrap (wrap64 (x7 + x8))) / 2))))) else (none)) else (none)) else (if x7 < x6 then (if 0 ≤ x7 then (if x7 < (x0.length : Int) then (if (rd x0 x7) = x1 then (some (x7, true)) else ((slices_isNaN_uint32.f (rd x0 x7)).bind fun t275 => (if t275 = true then ((slices_isNaN_uint32.f x1).bind fun t276 => (some (x7, t276))) else (some (x7, false))))) else (none)) else (none)) else (some (x7, false)))
def slices_BinarySearch_uint32_uint32.f (k : Nat) (l0 : List Int) (a1 : Int) : Option (Int × Bool) := slices_BinarySearch_uint32_uint32.l0 k l0 a1 (l0.length : Int) 0 (l0.length : Int)
theorem slices_BinarySearch_uint32_uint32.mono_l : ∀ k, (∀ y0 y1 y2 y3 y4, LeO (slices_BinarySearch_uint32_uint32.l0 k y0 y1 y2 y3 y4) (slices_BinarySearch_uint32_uint32.l0 (k + 1) y0 y1 y2 y3 y4))
 | 0 => fun _ _ _ _ _ r h => by simp [slices_BinarySearch_uint32_uint32.l0] at h
 | k + 1 => by
  have ih0 := slices_BinarySearch_uint32_uint32.mono_l k
  ·intro y0 y1 y2 y3 y4
   unfold slices_BinarySearch_uint32_uint32.l0
   repeat' first
   | (with_reducible exact ih0 _ _ _ _ _)
   | (with_reducible exact LeO.refl _)
   | (with_reducible exact LeO.none _)
   | (with_reducible refine LeO.ite ?_ ?_)
   | (with_reducible refine LeO.bind ?_ (fun _ => ?_))
   | exact ih0 _ _ _ _ _
   | exact LeO.none _
   | refine LeO.ite ?_ ?_
   | refine LeO.bind ?_ (fun _ => ?_)
theorem slices_BinarySearch_uint32_uint32.mono : ∀ a0 a1 k, LeO (slices_BinarySearch_uint32_uint32.f k a0 a1) (slices_BinarySearch_uint32_uint32.f (k + 1) a0 a1) := by
 intro a0 a1 k
 have ih0 := slices_BinarySearch_uint32_uint32.mono_l k
 unfold slices_BinarySearch_uint32_uint32.f
 repeat' first
   | (with_reducible exact ih0 _ _ _ _ _)
   | (with_reducible exact LeO.refl _)
   | (with_reducible exact LeO.none _)
   | (with_reducible refine LeO.ite ?_ ?_)
   | (with_reducible refine LeO.bind ?_ (fun _ => ?_))
   | exact ih0 _ _ _ _ _
   | exact LeO.none _
   | refine LeO.ite ?_ ?_
   | refine LeO.bind ?_ (fun _ => ?_)
set_option maxHeartbeats 8000000 in
set_option maxRecDepth 100000 in
theorem slices_BinarySearch_uint32_uint32.calls (k : Nat) (A0 : Option Addr) (c0 : Nat) (l0 : List Int) (a1 : Int) (r1 : Int) (r2 : Bool) (w : World) (hr0 : Kd.C (Kd.int .u32) w A0 l0.length l0) (hc0 : l0.length ≤ c0) (h : slices_BinarySearch_uint32_uint32.f k l0 a1 = some (r1, r2)) :
  Calls Try.prog 37 #[.slice A0 l0.length c0, .int .u32 a1] w fun e w' => e = .returned (.tuple #[.int .i64 r1, .bool r2]) ∧ Drawn0 w w' := by
 have HR0 := Aside0.mk hr0
 have HC0 := Aside0.mk hc0
 clear hr0 hc0
 have H : (slices_BinarySearch_uint32_uint32.l0 k l0 a1 (l0.length : Int) 0 (l0.length : Int)) = some (r1, r2) := h
 clear h
 have H' := Aside0.mk H
 clear H
 go_enter Try.func37, Try.ntmps37
 go_wp2
 go_loopg [7, 8] k (fun kq v7 v8 w' => ∃ (x7_1 : Int) (x8_1 : Int), v7 = .int .i64 x7_1 ∧ v8 = .int .i64 x8_1 ∧ Aside0 (slices_BinarySearch_uint32_uint32.l0 kq l0 a1 (l0.length : Int) x7_1 x8_1 = some (r1, r2)) ∧ Aside0 (kq ≤ k) ∧ Drawn0 w w')
 case atStart => exact ⟨(0), ((l0.length : Int)), (by first | rfl | (simp; done) | (simp [*]; done)), (by first | rfl | (simp; done) | (simp [*]; done)), H', ⟨Nat.le_refl _⟩, by repeat (first | exact Drawn0.refl _ | apply Drawn0.step)⟩
 case round =>
  clear H'
  try clear p2
  obtain ⟨x7_1, x8_1, rfl, rfl, HA, HK1, ⟨m1, rfl⟩⟩ := hrel
  cases gk with
  | zero => exact absurd HA.out (by simp [slices_BinarySearch_uint32_uint32.l0])
  | succ k1 =>
   have H := HA.out
   clear HA
   simp only [slices_BinarySearch_uint32_uint32.l0] at H
   by_cases c3 : x7_1 < x8_1
   ·rw [if_pos c3] at H
    have c3b0 : decide (x7_1 < x8_1) = true := decide_eq_true c3
    clear c3
    obtain ⟨ji4, hji4⟩ : ∃ j_ : Int, (wrap64 ((IntKind.u64.wrap (wrap64 (x7_1 + x8_1))) / 2)) = j_ := ⟨_, rfl⟩
    replace H : (if 0 ≤ (ji4) then (if (ji4) < (l0.length : Int) then ((cmp_Less_uint32.f (rd l0 (ji4)) a1).bind fun t272 => (if t272 = true then (slices_BinarySearch_uint32_uint32.l0 k1 l0 a1 (l0.length : Int) (wrap64 ((ji4) + 1)) x8_1) else (slices_BinarySearch_uint32_uint32.l0 k1 l0 a1 (l0.length : Int) x7_1 ji4))) else (none)) else (none)) = some (r1, r2) := by first | (rw [hji4] at H; exact H) | (simp only [hji4] at H ⊢; exact H)
    have hji4w : (IntKind.i64.wrap ((IntKind.u64.wrap (wrap64 (x7_1 + x8_1))) / 2)) = ji4 := (i64_w _).trans hji4
    by_cases c5 : 0 ≤ (ji4)
    ·rw [if_pos c5] at H
     have c5b0 : decide (0 ≤ (ji4)) = true := decide_eq_true c5
     clear c5
     by_cases c6 : (ji4) < (l0.length : Int)
     ·rw [if_pos c6] at H
      have c6b0 : decide ((ji4) < (l0.length : Int)) = true := decide_eq_true c6
      clear c6
      replace H := Option.bind_eq_some_iff.mp H
      obtain ⟨t272, A70, H⟩ := H
      replace H : (if t272 = true then (slices_BinarySearch_uint32_uint32.l0 k1 l0 a1 (l0.length : Int) (wrap64 ((ji4) + 1)) x8_1) else (slices_BinarySearch_uint32_uint32.l0 k1 l0 a1 (l0.length : Int) x7_1 ji4)) = some (r1, r2) := H
      have A7 := Aside0.mk A70
      clear A70
      by_cases c8 : t272 = true
      ·subst c8
       have H1 : (slices_BinarySearch_uint32_uint32.l0 k1 l0 a1 (l0.length : Int) (wrap64 ((ji4) + 1)) x8_1) = some (r1, r2) := by rw [if_pos rfl] at H; exact H
       clear H
       have H := H1
       clear H1
       have H' := Aside0.mk H
       clear H
       have p271 : 0 ≤ ((ji4) : Int) := of_decide_eq_true (by first | (with_reducible assumption) | assumption)
       have q271 : (ji4) < (l0.length : Int) := of_decide_eq_true (by first | (with_reducible assumption) | assumption)
       obtain ⟨ad271, e271, hx271_0⟩ := Kd.at_int HR0.out (ji4) p271 q271
       cases e271
       replace p271 := eq_true p271
       replace q271 := eq_true q271
       go_wp2_with (first | ((with_reducible refine gate_callee (f := 51) rfl ?_); refine goesL_ (some 27) rfl rfl Try.func51 (by kernel_rfl) rfl #[.int .u32 (rd l0 (ji4)), .int .u32 a1] rfl (by (try simp only [List.map_toArray, List.map_cons, List.map_nil]); first | done | (simp only [hji4]; rfl) | rfl | (simp only [List.length_drop, List.length_take]; rfl)) ?_; (with_reducible refine (cmp_Less_uint32.calls (rd l0 (ji4)) a1 true _ A7.out).mono ?_); rintro e w' ⟨rfl, ⟨nd, rfl⟩⟩; refine ⟨_, rfl, ?_⟩))
       go_roundg k1
       case measure => have := HK1.out; omega
       case rel => exact ⟨(wrap64 ((ji4) + 1)), (x8_1), (by first | rfl | (simp; done) | (simp only [← hji4] <;> (first | rfl | simp)) | (simp [*]; done)), (by first | rfl | (simp; done) | (simp [*]; done)), H', ⟨by have := HK1.out; omega⟩, by repeat (first | exact Drawn0.refl _ | apply Drawn0.step)⟩
      ·replace c8 := Bool.eq_false_iff.mpr c8
       subst c8
       have H1 : (slices_BinarySearch_uint32_uint32.l0 k1 l0 a1 (l0.length : Int) x7_1 ji4) = some (r1, r2) := by rw [if_neg (show ¬ (false = true) by decide)] at H; exact H
       clear H
       have H := H1
       clear H1
       have H' := Aside0.mk H
       clear H
       have p271 : 0 ≤ ((ji4) : Int) := of_decide_eq_true (by first | (with_reducible assumption) | assumption)
       have q271 : (ji4) < (l0.length : Int) := of_decide_eq_true (by first | (with_reducible assumption) | assumption)
       obtain ⟨ad271, e271, hx271_0⟩ := Kd.at_int HR0.out (ji4) p271 q271
       cases e271
       replace p271 := eq_true p271
       replace q271 := eq_true q271
       go_wp2_with (first | ((with_reducible refine gate_callee (f := 51) rfl ?_); refine goesL_ (some 27) rfl rfl Try.func51 (by kernel_rfl) rfl #[.int .u32 (rd l0 (ji4)), .int .u32 a1] rfl (by (try simp only [List.map_toArray, List.map_cons, List.map_nil]); first | done | (simp only [hji4]; rfl) | rfl | (simp only [List.length_drop, List.length_take]; rfl)) ?_; (with_reducible refine (cmp_Less_uint32.calls (rd l0 (ji4)) a1 false _ A7.out).mono ?_); rintro e w' ⟨rfl, ⟨nd, rfl⟩⟩; refine ⟨_, rfl, ?_⟩))
       go_roundg k1
       case measure => have := HK1.out; omega
       case rel => exact ⟨(x7_1), (ji4), (by first | rfl | (simp; done) | (simp [*]; done)), (by first | rfl | (simp; done) | (simp only [← hji4] <;> (first | rfl | simp)) | (simp [*]; done)), H', ⟨by have := HK1.out; omega⟩, by repeat (first | exact Drawn0.refl _ | apply Drawn0.step)⟩
     ·rw [if_neg c6] at H
      exact absurd H (by simp)
    ·rw [if_neg c5] at H
     exact absurd H (by simp)
   ·rw [if_neg c3] at H
    have c3b0 : decide (x7_1 < x8_1) = false := decide_eq_false c3
    clear c3
    by_cases c9 : x7_1 < (l0.length : Int)
    ·rw [if_pos c9] at H
     have c9b0 : decide (x7_1 < (l0.length : Int)) = true := decide_eq_true c9
     clear c9
     by_cases c10 : 0 ≤ x7_1
     ·rw [if_pos c10] at H
      have c10b0 : decide (0 ≤ x7_1) = true := decide_eq_true c10
      clear c10
      by_cases c11 : x7_1 < (l0.length : Int)
      ·rw [if_pos c11] at H
       have c11b0 : decide (x7_1 < (l0.length : Int)) = true := decide_eq_true c11
       clear c11
       by_cases c12 : (rd l0 x7_1) = a1
       ·rw [if_pos c12] at H
        have c12b0 : ((rd l0 x7_1) == a1) = true := beq_iff_eq.mpr c12
        have c12b1 : ((rd l0 x7_1) != a1) = false := bne_eq_false_iff_eq.mpr c12
        clear c12
        simp only [Option.some.injEq, Prod.mk.injEq] at H
        obtain ⟨rfl, rfl⟩ := H
        have p273 : 0 ≤ (x7_1 : Int) := of_decide_eq_true (by first | (with_reducible assumption) | assumption)
        have q273 : x7_1 < (l0.length : Int) := of_decide_eq_true (by first | (with_reducible assumption) | assumption)
        obtain ⟨ad273, e273, hx273_0⟩ := Kd.at_int HR0.out x7_1 p273 q273
        cases e273
        replace p273 := eq_true p273
        replace q273 := eq_true q273
        go_wp2
        go_ret2
        exact ⟨by first | rfl | (simp; done) | (simp [*]; done), by repeat (first | exact Drawn0.refl _ | apply Drawn0.step)⟩
       ·rw [if_neg c12] at H
        have c12b0 : ((rd l0 x7_1) == a1) = false := beq_eq_false_iff_ne.mpr c12
        have c12b1 : ((rd l0 x7_1) != a1) = true := bne_iff_ne.mpr c12
        replace H := Option.bind_eq_some_iff.mp H
        obtain ⟨t275, A130, H⟩ := H
        replace H : (if t275 = true then ((slices_isNaN_uint32.f a1).bind fun t276 => (some (x7_1, t276))) else (some (x7_1, false))) = some (r1, r2) := H
        have A13 := Aside0.mk A130
        clear A130
        by_cases c14 : t275 = true
        ·subst c14
         have H1 : ((slices_isNaN_uint32.f a1).bind fun t276 => (some (x7_1, t276))) = some (r1, r2) := by rw [if_pos rfl] at H; exact H
         clear H
         have H := H1
         clear H1
         replace H := Option.bind_eq_some_iff.mp H
         obtain ⟨t276, A150, H⟩ := H
         replace H : (some (x7_1, t276)) = some (r1, r2) := H
         have A15 := Aside0.mk A150
         clear A150
         simp only [Option.some.injEq, Prod.mk.injEq] at H
         obtain ⟨rfl, rfl⟩ := H
         have p273 : 0 ≤ (x7_1 : Int) := of_decide_eq_true (by first | (with_reducible assumption) | assumption)
         have q273 : x7_1 < (l0.length : Int) := of_decide_eq_true (by first | (with_reducible assumption) | assumption)
         obtain ⟨ad273, e273, hx273_0⟩ := Kd.at_int HR0.out x7_1 p273 q273
         cases e273
         replace p273 := eq_true p273
         replace q273 := eq_true q273
         have p274 : 0 ≤ (x7_1 : Int) := of_decide_eq_true (by first | (with_reducible assumption) | assumption)
         have q274 : x7_1 < (l0.length : Int) := of_decide_eq_true (by first | (with_reducible assumption) | assumption)
         obtain ⟨ad274, e274, hx274_0⟩ := Kd.at_int HR0.out x7_1 p274 q274
         obtain rfl : ad273 = ad274 := (by injection e274)
         replace p274 := eq_true p274
         replace q274 := eq_true q274
         go_wp2_with (first | (go_at_call 52; (with_reducible refine (slices_isNaN_uint32.calls (rd l0 x7_1) true _ A13.out).mono ?_); rintro e w' ⟨rfl, ⟨nd, rfl⟩⟩) | (go_at_call 52; (with_reducible refine (slices_isNaN_uint32.calls a1 t276 _ A15.out).mono ?_); rintro e w' ⟨rfl, ⟨nd, rfl⟩⟩))
         go_ret2
         exact ⟨by first | rfl | (simp; done) | (simp [*]; done), by repeat (first | exact Drawn0.refl _ | apply Drawn0.step)⟩
        ·replace c14 := Bool.eq_false_iff.mpr c14
         subst c14
         have H1 : (some (x7_1, false)) = some (r1, r2) := by rw [if_neg (show ¬ (false = true) by decide)] at H; exact H
         clear H
         have H := H1
         clear H1
         simp only [Option.some.injEq, Prod.mk.injEq] at H
         obtain ⟨rfl, rfl⟩ := H
         have p273 : 0 ≤ (x7_1 : Int) := of_decide_eq_true (by first | (with_reducible assumption) | assumption)
         have q273 : x7_1 < (l0.length : Int) := of_decide_eq_true (by first | (with_reducible assumption) | assumption)
         obtain ⟨ad273, e273, hx273_0⟩ := Kd.at_int HR0.out x7_1 p273 q273
         cases e273
         replace p273 := eq_true p273
         replace q273 := eq_true q273
         have p274 : 0 ≤ (x7_1 : Int) := of_decide_eq_true (by first | (with_reducible assumption) | assumption)
         have q274 : x7_1 < (l0.length : Int) := of_decide_eq_true (by first | (with_reducible assumption) | assumption)
         obtain ⟨ad274, e274, hx274_0⟩ := Kd.at_int HR0.out x7_1 p274 q274
         obtain rfl : ad273 = ad274 := (by injection e274)
         replace p274 := eq_true p274
         replace q274 := eq_true q274
         go_wp2_with (first | (go_at_call 52; (with_reducible refine (slices_isNaN_uint32.calls (rd l0 x7_1) false _ A13.out).mono ?_); rintro e w' ⟨rfl, ⟨nd, rfl⟩⟩))
         go_ret2
         exact ⟨by first | rfl | (simp; done) | (simp [*]; done), by repeat (first | exact Drawn0.refl _ | apply Drawn0.step)⟩
      ·rw [if_neg c11] at H
       exact absurd H (by simp)
     ·rw [if_neg c10] at H
      exact absurd H (by simp)
    ·rw [if_neg c9] at H
     have c9b0 : decide (x7_1 < (l0.length : Int)) = false := decide_eq_false c9
     clear c9
     simp only [Option.some.injEq, Prod.mk.injEq] at H
     obtain ⟨rfl, rfl⟩ := H
     go_wp2
     go_ret2
     exact ⟨by first | rfl | (simp; done) | (simp [*]; done), by repeat (first | exact Drawn0.refl _ | apply Drawn0.step)⟩

/-! ### shard_Shard_Has: function 23 -/
/-- What 'Has' tells, by the neighbours of the vertex. -/
def shHas (k : Nat) (s : Option (Int × List (List Int))) (v to_ : Int) : Option Bool := (slices_BinarySearch_uint32_uint32.f k (shNext s v).1 to_).bind fun r => some r.2
set_option maxHeartbeats 8000000 in
set_option maxRecDepth 100000 in
theorem sh_Has (k : Nat) (p : Value) (m : Nat) (s : Option (Int × List (List Int))) (v to_ : Int) (b : Bool) (w : World) (h : ShPtr w p m s) (hs : ShFit s) (hv : -9223372036854775808 ≤ v ∧ v < 9223372036854775808) (hl : (shNext s v).1.length < 1000000000) (hb : shHas k s v to_ = some b) :
  Calls Try.prog 23 #[p, .int .i64 v, .int .u32 to_] w fun e w' => e = .returned (.bool b) ∧ Below w.heap.size w w' := by
 obtain ⟨⟨r1, r2⟩, hf, hb⟩ := Option.bind_eq_some_iff.mp hb
 obtain rfl := Option.some.inj hb
 have HF := Aside0.mk hf
 have HN := Aside0.mk (sh_Next p m s v w h hs hv hl)
 clear h hs hv hl hf hb
 go_enter Try.func23, Try.ntmps23
 go_wp2_with (first | (go_at_call 15; (with_reducible refine (HN.out).mono ?_); rintro e w1 ⟨v1, rfl, ho, hb⟩; obtain ⟨A1, c1, rfl⟩ := Kd.R_slice ho; have HO := Aside0.mk ho; have HB := Aside0.mk hb; clear ho hb) | (go_at_call 37; (with_reducible refine (slices_BinarySearch_uint32_uint32.calls k _ _ _ _ _ _ _ (Kd.R_reads' HO.out).2.2 (Kd.R_reads' HO.out).2.1 HF.out).mono ?_); rintro e w2 ⟨rfl, hd⟩; have HD := Aside0.mk hd; clear hd))
 go_ret
 exact ⟨rfl, below_step HB.out HD.out.below⟩

/-! ### creellaw18_ShardNil: function 8 -/
def creellaw18_ShardNil.Pure : Prop := ∀ (a0 a1 : Int), (Lit.int .i64 a0).wf = true → (Lit.int .u32 a1).wf = true → ∃ k, creellaw18_shown.f k = some true ∧ shHas k none a0 a1 = some false
theorem shNext_none (v : Int) : shNext none v = ([], false) := by
 unfold shNext
 exact if_pos (show v < 0 ∨ (0 : Int) + ((0 : Nat) : Int) ≤ v by omega)
theorem wf_range64 {x : Int} (h : (Lit.int .i64 x).wf = true) : -9223372036854775808 ≤ x ∧ x < 9223372036854775808 := by
 have e1 : IntKind.i64.min = -9223372036854775808 := by decide
 have e2 : IntKind.i64.max = 9223372036854775807 := by decide
 simp only [Lit.wf, e1, e2, Bool.and_eq_true, decide_eq_true_eq] at h
 omega
set_option maxHeartbeats 8000000 in
set_option maxRecDepth 100000 in
theorem creellaw18_ShardNil.walk (P : creellaw18_ShardNil.Pure) (a0 : Int) (a1 : Int) (w : World) (w0 : (Lit.int .i64 a0).wf = true) (w1 : (Lit.int .u32 a1).wf = true) :
  Calls Try.prog 8 #[.int .i64 a0, .int .u32 a1] w fun e w' => e = .returned (.bool true) ∧ Below w.heap.size w w' := by
 obtain ⟨k, h1, h2⟩ := P a0 a1 w0 w1
 have H1 := Aside0.mk h1
 have H2 := Aside0.mk h2
 have hN := fun (W : World) => sh_Next (.pointer none) 0 none a0 W rfl trivial (wf_range64 w0) (by rw [shNext_none]; decide)
 have hH := fun (W : World) => sh_Has k (.pointer none) 0 none a0 a1 false W rfl trivial (wf_range64 w0) (by rw [shNext_none]; decide) H2.out
 rw [shNext_none] at hN
 have HP : Aside0 (∀ W : World, ShPtr W (.pointer none) 0 none) := ⟨fun _ => rfl⟩
 have HN := Aside0.mk hN
 have HH := Aside0.mk hH
 clear h1 h2 hN hH w0 w1
 go_enter Try.func8, Try.ntmps8
 go_wp2_with (first | (go_at_call 9; (with_reducible refine (creellaw18_shown.calls k _ _ H1.out).mono ?_); rintro e wa ⟨rfl, hb⟩; have HB := Aside0.mk hb; clear hb) | (go_at_call 15; (with_reducible refine ((HN.out _)).mono ?_); rintro e wb ⟨v, rfl, ho, hb⟩; obtain ⟨A1, c1, rfl⟩ := Kd.R_slice ho; have HB2 := Aside0.mk (below_step HB.out hb); clear ho hb) | (go_at_call 20; (with_reducible refine (sh_From (.pointer none) 0 none _ (HP.out _)).mono ?_); rintro e wc ⟨rfl, hwc_⟩; cases hwc_; rw [show shFrom none = 0 from rfl]) | (go_at_call 17; (with_reducible refine (sh_Len (.pointer none) 0 none _ (HP.out _)).mono ?_); rintro e wc ⟨rfl, hwc_⟩; cases hwc_; rw [show ((shLen none : Nat) : Int) = 0 from rfl]) | (go_at_call 18; (with_reducible refine (sh_Edges (.pointer none) 0 none _ (HP.out _)).mono ?_); rintro e wc ⟨rfl, hwc_⟩; cases hwc_; rw [show ((shEdges none : Nat) : Int) = 0 from rfl]) | (go_at_call 23; (with_reducible refine ((HH.out _)).mono ?_); rintro e wd ⟨rfl, hb⟩; have HB3 := Aside0.mk (below_step HB2.out hb); clear hb))
 go_ret
 exact ⟨rfl, HB3.out⟩

/-! ### creellaw18_ShardParts: function 5 -/
def bodyN (n : Nat) : Nat := 2 + 2 * n + if 127 < n then 1 else 0
def creellaw18_ShardParts.Pure : Prop := ∀ (m n : Nat), m < 128 → n ≤ 3000 → ∃ (k : Nat) (b : List Int), creellaw18_shown.f k = some true ∧ shard_Build.f k (m : Int) (List.replicate n []) = some (b, 0) ∧ shard_Open.f k b = some (some ((m : Int), List.replicate n [])) ∧ b.length = bodyN n + 8 * ((bodyN n + 1023) / 1024)
theorem nat_u8 {x : Int} (h : (Lit.int .u8 x).wf = true) : ∃ n : Nat, x = n ∧ n < 256 := by
 have e1 : IntKind.u8.min = 0 := by decide
 have e2 : IntKind.u8.max = 255 := by decide
 simp only [Lit.wf, e1, e2, Bool.and_eq_true, decide_eq_true_eq] at h
 exact ⟨x.toNat, by omega, by omega⟩
theorem nat_u16 {x : Int} (h : (Lit.int .u16 x).wf = true) : ∃ n : Nat, x = n ∧ n < 65536 := by
 have e1 : IntKind.u16.min = 0 := by decide
 have e2 : IntKind.u16.max = 65535 := by decide
 simp only [Lit.wf, e1, e2, Bool.and_eq_true, decide_eq_true_eq] at h
 exact ⟨x.toNat, by omega, by omega⟩
theorem sumLen_nils (n : Nat) : sumLen (List.replicate n []) = 0 := by
 induction n with
 | zero => rfl
 | succ n ih => rw [List.replicate_succ]; unfold sumLen at *; rw [List.map_cons, List.sum_cons, ih]; rfl
set_option maxHeartbeats 8000000 in
set_option maxRecDepth 100000 in
theorem creellaw18_ShardParts.walk (P : creellaw18_ShardParts.Pure) (a0 : Int) (a1 : Int) (w : World) (w0 : (Lit.int .u8 a0).wf = true) (w1 : (Lit.int .u16 a1).wf = true) :
  Calls Try.prog 5 #[.int .u8 a0, .int .u16 a1] w fun e w' => e = .returned (.bool true) ∧ Below w.heap.size w w' := by
 obtain ⟨x, rfl, hx⟩ := nat_u8 w0
 obtain ⟨y, rfl, hy⟩ := nat_u16 w1
 obtain ⟨m, hm⟩ : ∃ m, x % 128 = m := ⟨_, rfl⟩
 obtain ⟨n, hn⟩ : ∃ n, y % 3001 = n := ⟨_, rfl⟩
 have hm2 : m < 128 := by omega
 have hn2 : n ≤ 3000 := by omega
 obtain ⟨k, b, hs, hB, hO, hlen⟩ := P m n hm2 hn2
 have e1 : (x : Int) % 128 = (m : Int) := by omega
 have e2 : (y : Int) % 3001 = (n : Int) := by omega
 obtain ⟨L, hL⟩ : ∃ L, List.replicate n ([] : List Int) = L := ⟨_, rfl⟩
 have hsl := sumLen_nils n
 have hLn : L.length = n := by rw [← hL, List.length_replicate]
 rw [hL] at hB hO hsl
 have HLL := Aside0.mk hL
 have HS := Aside0.mk hs
 have HB := Aside0.mk hB
 have HO := Aside0.mk hO
 have HSL := Aside0.mk hsl
 have hLq : ((L.length : Int) == (n : Int)) = true := beq_iff_eq.mpr (by omega)
 clear hs hB hO hsl hL w0 w1 hm hn hLn
 have HK : Aside0 (Below w.heap.size w w) := ⟨Below.refl _ _⟩
 obtain ⟨t1, f1⟩ : ∃ t : Nat, 2 * (n : Int) = t := ⟨2 * n, by omega⟩
 obtain ⟨t2, f2⟩ : ∃ t : Nat, 2 + (t1 : Int) = t := ⟨2 + t1, by omega⟩
 obtain ⟨t3, f3⟩ : ∃ t : Nat, (t2 : Int) + 1 = t := ⟨t2 + 1, by omega⟩
 obtain ⟨tb, f4⟩ : ∃ t : Nat, t = bodyN n := ⟨_, rfl⟩
 obtain ⟨t4, f5⟩ : ∃ t : Nat, (tb : Int) + 1024 = t := ⟨tb + 1024, by omega⟩
 obtain ⟨t5, f6⟩ : ∃ t : Nat, (t4 : Int) - 1 = t := ⟨t4 - 1, by omega⟩
 obtain ⟨t6, f7⟩ : ∃ t : Nat, (t5 : Int) / 1024 = t := ⟨t5 / 1024, by omega⟩
 obtain ⟨t7, f8⟩ : ∃ t : Nat, 8 * (t6 : Int) = t := ⟨8 * t6, by omega⟩
 obtain ⟨t8, f9⟩ : ∃ t : Nat, (tb : Int) + (t7 : Int) = t := ⟨tb + t7, by omega⟩
 have f10 : ((b.length : Int) == (t8 : Int)) = true := by
  rw [beq_iff_eq, hlen, ← f4]; omega
 have f11 : t4 ≤ 10000 ∧ t7 ≤ 10000 ∧ t1 ≤ 10000 ∧ t2 ≤ 10000 ∧ tb ≤ 10000 := by
  unfold bodyN at f4
  split at f4 <;> omega
 obtain ⟨b1, b2, b3, b4, b5⟩ := f11
 have go : ∀ (c : Bool) (hc : decide (127 < (n : Int)) = c) (hc2 : decide (127 < n) = c) (hb : (if c = true then (t3 : Int) else (t2 : Int)) = (tb : Int)), Calls Try.prog 5 #[.int .u8 x, .int .u16 y] w fun e w' => e = .returned (.bool true) ∧ Below w.heap.size w w' := by
  intro c hc hc2 hb
  have HH := Aside0.mk hlen
  clear hlen f4
  cases c with
  | true =>
   rw [if_pos rfl] at hb
   obtain rfl : t3 = tb := by omega
   clear hb
   go_enter Try.func5, Try.ntmps5
   go_wp2_with (first | (go_at_call 9; (with_reducible refine (creellaw18_shown.calls k _ _ HS.out).mono ?_); rintro e wa ⟨rfl, hb⟩; have HBa := Aside0.mk hb; clear hb) | ((with_reducible refine gate_dst (N := 21) rfl ?_); refine Kd.N_make (Kd.slice 31 (Kd.int .u32)) (w0 := w) w.heap.size 36 rfl (N' := 21) rfl 22 (.tmp 20) (.tmp 20) rfl (n : Int) rfl rfl Try.underlying22 (.slice none 0 0) 24 info36 rfl (by decide) (by decide) ([] : List Int) (ok := fun k_ => w.heap.size ≤ k_) (okp := fun _ => False) (Kd.FK_slice_mk (Nat.le_refl _) (Kd.V_F (Kd.V_nil _ 31 _ 0 (fun _ => False)))) (fun _ h_ => h_.elim) HBa.out.size (by omega) (by rw [Int.toNat_natCast]; omega) HBa.out HBa.out.size ?_; intro v1 w2 ho hb hg hat; rw [Int.toNat_natCast, HLL.out] at ho; obtain ⟨A1, c1, rfl⟩ := Kd.N_slice ho; have HN := Aside0.mk ho; have HB2 := Aside0.mk hb; clear ho hb hg hat) | (go_at_call 12; (with_reducible refine (shard_Build.calls k _ _ _ L _ _ _ (Kd.N_reads' HN.out).2.2 (Kd.N_reads' HN.out).2.1 HB.out).mono ?_); rintro e w3 ⟨v2, rfl, ho, hb⟩; obtain ⟨Ab, cb, rfl⟩ := Kd.R_slice ho; have HR := Aside0.mk ho; have HB3 := Aside0.mk (below_step HB2.out hb); clear ho hb) | (go_at_call 14; (with_reducible refine (shard_Open.calls k _ _ b _ _ (Kd.R_reads' HR.out).2.2 (Kd.R_reads' HR.out).2.1 HO.out).mono ?_); rintro e w4 ⟨⟨q, rfl, hsh⟩, hb⟩; have HSH : Aside0 (ShPtr w4 (.pointer (some ⟨q, 0, none⟩)) _ (some ((m : Int), L))) := ⟨⟨q, rfl, hsh⟩⟩; have HB4 := Aside0.mk (below_step HB3.out hb); clear hb hsh) | (go_at_call 17; (with_reducible refine (sh_Len _ _ _ _ HSH.out).mono ?_); rintro e w5 ⟨rfl, h_⟩; cases h_; rw [show shLen (some ((m : Int), L)) = L.length from rfl]) | (go_at_call 18; (with_reducible refine (sh_Edges _ _ _ _ HSH.out).mono ?_); rintro e w5 ⟨rfl, h_⟩; cases h_; rw [show shEdges (some ((m : Int), L)) = 0 from HSL.out]))
   go_ret
   exact ⟨rfl, HB4.out⟩
  | false =>
   rw [if_neg (by decide)] at hb
   obtain rfl : t2 = tb := by omega
   clear hb
   go_enter Try.func5, Try.ntmps5
   go_wp2_with (first | (go_at_call 9; (with_reducible refine (creellaw18_shown.calls k _ _ HS.out).mono ?_); rintro e wa ⟨rfl, hb⟩; have HBa := Aside0.mk hb; clear hb) | ((with_reducible refine gate_dst (N := 21) rfl ?_); refine Kd.N_make (Kd.slice 31 (Kd.int .u32)) (w0 := w) w.heap.size 36 rfl (N' := 21) rfl 22 (.tmp 20) (.tmp 20) rfl (n : Int) rfl rfl Try.underlying22 (.slice none 0 0) 24 info36 rfl (by decide) (by decide) ([] : List Int) (ok := fun k_ => w.heap.size ≤ k_) (okp := fun _ => False) (Kd.FK_slice_mk (Nat.le_refl _) (Kd.V_F (Kd.V_nil _ 31 _ 0 (fun _ => False)))) (fun _ h_ => h_.elim) HBa.out.size (by omega) (by rw [Int.toNat_natCast]; omega) HBa.out HBa.out.size ?_; intro v1 w2 ho hb hg hat; rw [Int.toNat_natCast, HLL.out] at ho; obtain ⟨A1, c1, rfl⟩ := Kd.N_slice ho; have HN := Aside0.mk ho; have HB2 := Aside0.mk hb; clear ho hb hg hat) | (go_at_call 12; (with_reducible refine (shard_Build.calls k _ _ _ L _ _ _ (Kd.N_reads' HN.out).2.2 (Kd.N_reads' HN.out).2.1 HB.out).mono ?_); rintro e w3 ⟨v2, rfl, ho, hb⟩; obtain ⟨Ab, cb, rfl⟩ := Kd.R_slice ho; have HR := Aside0.mk ho; have HB3 := Aside0.mk (below_step HB2.out hb); clear ho hb) | (go_at_call 14; (with_reducible refine (shard_Open.calls k _ _ b _ _ (Kd.R_reads' HR.out).2.2 (Kd.R_reads' HR.out).2.1 HO.out).mono ?_); rintro e w4 ⟨⟨q, rfl, hsh⟩, hb⟩; have HSH : Aside0 (ShPtr w4 (.pointer (some ⟨q, 0, none⟩)) _ (some ((m : Int), L))) := ⟨⟨q, rfl, hsh⟩⟩; have HB4 := Aside0.mk (below_step HB3.out hb); clear hb hsh) | (go_at_call 17; (with_reducible refine (sh_Len _ _ _ _ HSH.out).mono ?_); rintro e w5 ⟨rfl, h_⟩; cases h_; rw [show shLen (some ((m : Int), L)) = L.length from rfl]) | (go_at_call 18; (with_reducible refine (sh_Edges _ _ _ _ HSH.out).mono ?_); rintro e w5 ⟨rfl, h_⟩; cases h_; rw [show shEdges (some ((m : Int), L)) = 0 from HSL.out]))
   go_ret
   exact ⟨rfl, HB4.out⟩
 by_cases h127 : 127 < n
 ·exact go true (decide_eq_true (by omega)) (decide_eq_true h127) (by rw [if_pos rfl, f4]; unfold bodyN; rw [if_pos h127]; omega)
 ·exact go false (decide_eq_false (by omega)) (decide_eq_false h127) (by rw [if_neg (by decide), f4]; unfold bodyN; rw [if_neg h127]; omega)

end Go.Proofs.Ytnkjbgoibmbmoaa.Print
