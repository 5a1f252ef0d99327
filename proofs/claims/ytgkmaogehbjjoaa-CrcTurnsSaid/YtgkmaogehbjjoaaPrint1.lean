-- Written by a program of this session (wip/cprint.py), which calls the kit's print and adds contracts proved by hand.
import Derived.Test.YtgkmaogehbjjoaaPrint0
namespace Go.Proofs.Ytgkmaogehbjjoaa.Print
open Go.RowKit Go.Proofs.YtgkmaogehbjjoaaW.PrintWords Go.Proofs.YtgkmaogehbjjoaaW.PrintLast Go.Proofs.YtgkmaogehbjjoaaW.PrintMore
attribute [local go_sem] max2_int min2_int max_two min_two max_three min_three max_four min_four   -- for this text's walks alone
set_option linter.unusedVariables false
set_option linter.unusedSimpArgs false

/-! ### crc_Table: function 15 -/
/-- One bit of a byte's number. -/
def crcBit (c : Int) : Int := Go.bits .xor .u32 (c / 2) (Go.bits .and .u32 2197175160 ((-(Go.bits .and .u32 c 1)) % 4294967296))
/-- So many bits. -/
def crcBits : Nat → Int → Int
  | 0, c => c
  | n + 1, c => crcBit (crcBits n c)
def crcArr (k : Nat) : Array Value := ((List.range 256).map fun i => Value.int .u32 (if i < k then crcBits 8 (i : Int) else 0)).toArray
theorem crcArr_size (k : Nat) : (crcArr k).size = 256 := by simp [crcArr]
theorem crcArr_set (k : Nat) (h : k < 256) : (crcArr k).setIfInBounds k (Value.int .u32 (crcBits 8 (k : Int))) = crcArr (k + 1) := by
  apply Array.ext
  · simp [crcArr]
  · intro i h1 h2
    simp [crcArr_size] at h1 h2
    rw [Array.getElem_setIfInBounds (by simpa [crcArr_size] using h2)]
    simp only [crcArr, List.getElem_toArray, List.getElem_map, List.getElem_range]
    by_cases e : k = i
    · subst e; simp
    · simp only [e, if_false]
      by_cases h3 : i < k
      · simp [h3, show i < k + 1 by omega]
      · simp [h3, show ¬ i < k + 1 by omega]
theorem crcArr_one (k : Nat) : (crcArr k).all (·.oneCell') = true := by
  rw [Array.all_eq_true]
  intro i h
  simp only [crcArr, List.getElem_toArray, List.getElem_map]
  rfl
theorem crcArr_zero (w : World) : (zeroValue 28).run Try.prog w = .ok (.agg (crcArr 0)) w := by
  have : (zeroValue 28).run Try.prog w = .ok (.agg (Array.replicate 256 (.int .u32 0))) w := by kernel_rfl
  have h2 : crcArr 0 = Array.replicate 256 (.int .u32 0) := by
    apply Array.ext
    · rw [crcArr_size, Array.size_replicate]
    · intro i h1 h2
      simp only [crcArr, List.getElem_toArray, List.getElem_map, List.getElem_range, Array.getElem_replicate]
      rfl
  rw [this, h2]
theorem crcOld (w : World) : ((w.alloc (.cells (crcArr 0) 28)).alloc (.cells (crcArr 256) 28)).heap[w.heap.size]? = some (.cells (crcArr 0) 28 (0, 0)) := by
  rw [heap_alloc_old _ _ (by simp), heap_alloc_new]
theorem crcBelow (w : World) : Below w.heap.size w (((w.alloc (.cells (crcArr 0) 28)).alloc (.cells (crcArr 256) 28)).setRow w.heap.size (crcArr 256)) := by
  have h := ((Below.refl w.heap.size w).alloc (Nat.le_refl _) (.cells (crcArr 0) 28)).alloc (by simp) (.cells (crcArr 256) 28)
  exact ⟨h.os, h.tape, h.output, by rw [setRow_size]; exact h.size, fun i hi => by rw [setRow_other _ _ _ _ (by omega)]; exact h.block i hi⟩
theorem crcCell (w : World) (k : Nat) (h : k < 256) : ((w.alloc (.cells (crcArr 0) 28)).alloc (.cells (crcArr k) 28)).cell? ⟨w.heap.size + 1, k, none⟩ = some (.int .u32 0) := by
  rw [cell_of_row _ _ _ _ _ _ (heap_alloc2_new _ _ _), Array.getElem?_eq_getElem (by rw [crcArr_size]; exact h)]
  simp [crcArr]
set_option maxHeartbeats 8000000 in
set_option maxRecDepth 100000 in
theorem crc_Table.calls (w : World) : Calls Try.prog 15 #[] w fun e w' => e = .returned (.agg (crcArr 256)) ∧ Below w.heap.size w w' := by
  have hz := crcArr_zero
  go_enter Try.func15, Try.ntmps15
  go_wp2
  go_loopw [4] (fun i wr => ∃ k : Nat, k ≤ 256 ∧ i = .int .i64 k ∧ wr = (w.alloc (.cells (crcArr 0) 28)).alloc (.cells (crcArr k) 28)) (fun i _ => 256 - (intOf i).toNat)
  case atStart => exact ⟨0, by omega, rfl, rfl⟩
  case round =>
    obtain ⟨k, hk, rfl, rfl⟩ := hrel
    by_cases hlt : k < 256
    · go_wp2
      go_loop [3, 9] (fun c j => ∃ n : Nat, n ≤ 8 ∧ j = .int .i64 n ∧ c = .int .u32 (crcBits n k)) (fun _ j => 8 - (intOf j).toNat)
      case atStart => exact ⟨0, by omega, rfl, by go_num⟩
      case round =>
        obtain ⟨n, hn, rfl, rfl⟩ := hrel
        by_cases hlt2 : n < 8
        · go_wp2
          go_round
          case rel => exact ⟨n + 1, by omega, by go_num, rfl⟩
          case measure => simp [intOf]; omega
        · obtain rfl : n = 8 := by omega
          have hc := crcCell w k hlt
          go_wp2
          go_roundw
          case rel => exact ⟨k + 1, by omega, by go_num, by rw [← crcArr_set k hlt]⟩
          case measure => simp [intOf]; omega
    · obtain rfl : k = 256 := by omega
      go_wp2_with (first | (refine wpList_load_row rfl 28 (.tmp 1) rfl (w.heap.size + 1) rfl 28 (crcArr 256) (0, 0) _ (heap_alloc2_new _ _ _) Try.underlying28 rfl (by rw [crcArr_size]; kernel_rfl) ?_) | (refine wpList_store_row rfl 28 (.tmp 0) (.tmp 23) rfl w.heap.size (crcArr 256) rfl rfl 28 (crcArr 0) (crcOld w) (by rw [crcArr_size]; kernel_rfl) (by rw [crcArr_size, crcArr_size]) (crcArr_one 256) ?_))
      refine bodyPost_ret (results_cell_row rfl _ _ w.heap.size 28 (crcArr 256) (0, 0) _ rfl (setRow_heap _ _ (crcArr 0) _ 28 (0, 0) (crcOld w)) Try.underlying28 rfl (by rw [crcArr_size]; kernel_rfl)) rfl ⟨rfl, crcBelow w⟩

/-! ### crc_Add: function 13 -/

/-- One byte more. -/
def crcNext (c x : Int) : Int := Go.bits .xor .u32 (crcBits 8 (Go.bits .xor .u8 (c % 256) x)) (c / 256)
def crcFold (c : Int) : List Int → Int
  | [] => c
  | x :: r => crcFold (crcNext c x) r
theorem crcFold_snoc (l : List Int) (x : Int) : ∀ c, crcFold c (l ++ [x]) = crcNext (crcFold c l) x := by
  induction l with
  | nil => intro c; rfl
  | cons y l ih => intro c; exact ih _
theorem crcFold_take (c : Int) (l : List Int) (k : Nat) (h : k < l.length) : crcFold c (l.take (k + 1)) = crcNext (crcFold c (l.take k)) (rd l (k : Int)) := by
  rw [List.take_succ_eq_append_getElem h, crcFold_snoc]
  simp [rd, List.getD_eq_getElem?_getD, List.getElem?_eq_getElem h]
theorem bits_u8 (op : BinOp) (x y : Int) : 0 ≤ Go.bits op .u8 x y ∧ Go.bits op .u8 x y < 256 := by
  unfold Go.bits; rw [Go.IntKind.wrap_u8]; omega
theorem crcCellAt (w : World) (g : Nat) (hg : w.heap[g]? = some (.cells (crcArr 256) 28 (0, 0))) (i : Int) (h0 : 0 ≤ i) (h1 : i < 256) : w.cell? ⟨g, i.toNat, none⟩ = some (.int .u32 (crcBits 8 i)) := by
  rw [cell_of_row _ _ _ _ _ _ hg, Array.getElem?_eq_getElem (by rw [crcArr_size]; omega)]
  simp only [crcArr, List.getElem_toArray, List.getElem_map, List.getElem_range]
  rw [if_pos (by omega), Int.toNat_of_nonneg h0]
theorem crcMade (w0 w1 : World) (hb : Below w0.heap.size w0 w1) : Below w0.heap.size w0 ((w1.alloc (.cells (crcArr 0) 28)).setRow w1.heap.size (crcArr 256)) ∧ ((w1.alloc (.cells (crcArr 0) 28)).setRow w1.heap.size (crcArr 256)).heap[w1.heap.size]? = some (.cells (crcArr 256) 28 (0, 0)) := by
  have h := hb.alloc hb.size (.cells (crcArr 0) 28)
  have hs := hb.size
  exact ⟨⟨h.os, h.tape, h.output, by rw [setRow_size]; exact h.size, fun i hi => by rw [setRow_other _ _ _ _ (by omega)]; exact h.block i hi⟩, setRow_heap _ _ _ _ _ _ (heap_alloc_new _ _)⟩
def crc_Add.f (a0 : Int) (l1 : List Int) : Option Int := some (Go.bits .xor .u32 IntKind.u32.max (crcFold (Go.bits .xor .u32 IntKind.u32.max a0) l1))
set_option maxHeartbeats 8000000 in
set_option maxRecDepth 100000 in
theorem crc_Add.calls (a0 : Int) (A1 : Option Addr) (c1 : Nat) (l1 : List Int) (r : Int) (w : World) (hr1 : Kd.C (Kd.int .u8) w A1 l1.length l1) (hc1 : l1.length ≤ c1) (h : crc_Add.f a0 l1 = some r) :
    Calls Try.prog 13 #[.int .u32 a0, .slice A1 l1.length c1] w fun e w' => e = .returned (.int .u32 r) ∧ Below w.heap.size w w' := by
  have HR1 := Aside0.mk hr1
  clear hr1 hc1
  have H := Aside0.mk h
  clear h
  have hz := crcArr_zero
  go_enter Try.func13, Try.ntmps13
  go_wp2_with (first | (go_at_call 15; refine (crc_Table.calls _).mono ?_; rintro e w1 ⟨rfl, hb⟩) | (refine wpList_store_row rfl 28 (.tmp 5) (.tmp 9) rfl _ (crcArr 256) rfl rfl 28 (crcArr 0) (heap_alloc_new _ _) (by rw [crcArr_size]; kernel_rfl) (by rw [crcArr_size, crcArr_size]) (crcArr_one 256) ?_))
  obtain ⟨HB, hg⟩ := crcMade w w1 hb
  have HBA := Aside0.mk HB
  have HG := Aside0.mk hg
  clear HB hg hz
  obtain ⟨g, hgd⟩ : ∃ g, w1.heap.size = g := ⟨_, rfl⟩
  obtain ⟨w2, hw2⟩ : ∃ w2, (w1.alloc (.cells (crcArr 0) 28)).setRow w1.heap.size (crcArr 256) = w2 := ⟨_, rfl⟩
  rw [hw2] at HBA HG ⊢
  rw [hgd] at HG ⊢
  clear hw2 hgd hb
  have HM := Aside0.mk (Kd.C_max HR1.out)
  go_loop [6, 14] (fun c j => ∃ k : Nat, k ≤ l1.length ∧ j = .int .i64 k ∧ c = .int .u32 (crcFold (Go.bits .xor .u32 IntKind.u32.max a0) (l1.take k))) (fun _ j => l1.length - (intOf j).toNat)
  case atStart => exact ⟨0, by omega, rfl, rfl⟩
  case round =>
    obtain ⟨k, hk, rfl, rfl⟩ := hrel
    have hmax := HM.out
    by_cases hlt : k < l1.length
    · obtain ⟨ad, e1, hx⟩ := Kd.at_int HR1.out (k : Int) (by omega) (by omega)
      cases e1
      replace hx := (HBA.out.cell (World.block_lt_of_cell? w _ hx)).trans hx
      rw [Int.toNat_natCast] at hx
      have HS := Aside0.mk (crcFold_take (Go.bits .xor .u32 IntKind.u32.max a0) l1 k hlt)
      generalize crcFold (Go.bits .xor .u32 IntKind.u32.max a0) (l1.take k) = c at HS ⊢
      obtain ⟨hi0, hi1⟩ := bits_u8 .xor (c % 256) (rd l1 (k : Int))
      have ht := crcCellAt w2 g HG.out (Go.bits .xor .u8 (c % 256) (rd l1 (k : Int))) hi0 hi1
      go_wp2
      go_round
      case rel => exact ⟨k + 1, by omega, by go_num, by rw [HS.out]; rfl⟩
      case measure => simp [intOf]; omega
    · obtain rfl : k = l1.length := by omega
      go_wp2
      go_ret
      exact ⟨congrArg (fun z => Ending.returned (.int .u32 z)) (Option.some.inj H.out), HBA.out⟩

/-! ### crc_Sum: function 10 -/
def crc_Sum.f (l0 : List Int) : Option (Int) := (crc_Add.f 0 l0).bind fun t101 => (some t101)
set_option maxHeartbeats 8000000 in
set_option maxRecDepth 100000 in
theorem crc_Sum.calls (A0 : Option Addr) (c0 : Nat) (l0 : List Int) (r : Int) (w : World) (hr0 : Kd.C (Kd.int .u8) w A0 l0.length l0) (hc0 : l0.length ≤ c0) (h : crc_Sum.f l0 = some r) :
    Calls Try.prog 10 #[.slice A0 l0.length c0] w fun e w' => e = .returned (.int .u32 r) ∧ Below w.heap.size w w' := by
  have HR0 := Aside0.mk hr0
  have HC0 := Aside0.mk hc0
  clear hr0 hc0
  have HB := Aside0.mk (Below.refl w.heap.size w)
  have H : ((crc_Add.f 0 l0).bind fun t101 => (some t101)) = some r := h
  clear h
  replace H := Option.bind_eq_some_iff.mp H
  obtain ⟨t101, A20, H⟩ := H
  replace H : (some t101) = some r := H
  have A2 := Aside0.mk A20
  clear A20
  obtain rfl := Option.some.inj H
  go_enter Try.func10, Try.ntmps10
  go_wp2_with (first | ((with_reducible refine gate_callee (f := 13) rfl ?_); refine goesL_ (some 4) rfl rfl Try.func13 (by kernel_rfl) rfl #[.int .u32 0, .slice A0 l0.length c0] rfl (by (try simp only [List.map_toArray, List.map_cons, List.map_nil]); first | done | rfl | (simp only [List.length_drop, List.length_take]; rfl)) ?_; (with_reducible refine (crc_Add.calls 0 _ _ l0 t101 _ ?side1 ?side2 A2.out).mono ?_); (case side1 => repeat (first | exact HR0.out | (with_reducible refine Kd.C_alloc ?_ _) | (with_reducible refine Kd.C_drewN ?_ _) | (with_reducible refine Kd.C_drew ?_))); (case side2 => exact HC0.out); rintro e w3 ⟨rfl, hb⟩; refine ⟨_, rfl, ?_⟩; have n0_ := Aside0.mk (below_step (by repeat (first | (with_reducible first | exact HB.out | apply below_alloc | apply pw_below_drewN | apply below_drew1) | exact HB.out)) hb); clear HB; have HB := n0_; clear n0_; (try clear hb); (try clear hb2); (try clear hk); (try clear hi)))
  go_ret
  exact ⟨by first | rfl | (simp [errW_none, errW_some] <;> rfl) | (simp [*, errW_none, errW_some] <;> rfl), by repeat (first | (with_reducible first | exact HB.out | apply below_alloc | apply pw_below_drewN | apply below_drew1) | exact HB.out)⟩

/-! ### creellaw02_shown: function 9 -/
def creellaw02_shown.f : Option (Bool) := (crc_Sum.f (([49, 50, 51, 52, 53, 54, 55, 56, 57] : List Int))).bind fun t105 => (if t105 = 3808858755 then ((crc_Sum.f ([] : List Int)).bind fun t106 => (some (t106 == 0))) else (some false))
theorem crc_sum_one : crc_Sum.f [49, 50, 51, 52, 53, 54, 55, 56, 57] = some 3808858755 := by decide +kernel
theorem crc_sum_none : crc_Sum.f [] = some 0 := by decide +kernel
theorem crc_shown_eq : creellaw02_shown.f = some true := by
  unfold creellaw02_shown.f
  rw [crc_sum_one, crc_sum_none]; rfl
set_option maxHeartbeats 8000000 in
set_option maxRecDepth 100000 in
theorem creellaw02_shown.calls (r : Bool) (w : World) (h : creellaw02_shown.f = some r) :
    Calls Try.prog 9 #[] w fun e w' => e = .returned (.bool r) ∧ Below w.heap.size w w' := by
  obtain rfl : true = r := Option.some.inj (crc_shown_eq.symm.trans h)
  clear h
  have kc := fun (w : World) (C : Array Value) (n c : Nat) => Lib.run_convert_bytes_const (P := Try.prog) w 22 5 C n c Try.underlying22 Try.underlying5
  go_enter Try.func9, Try.ntmps9
  go_wp2_with fail
  refine (crc_Sum.calls _ _ [49, 50, 51, 52, 53, 54, 55, 56, 57] 3808858755 _ (Hand.lit_C _ _ rfl (by decide)) (by decide) crc_sum_one).mono ?_
  rintro e w1 ⟨rfl, hb⟩
  go_wp2_with fail
  refine (crc_Sum.calls none 0 [] 0 _ (Kd.C_nil _ _) (by decide) crc_sum_none).mono ?_
  rintro e w2 ⟨rfl, hb2⟩
  go_wp2
  go_ret
  exact ⟨rfl, ((((Below.refl w.heap.size w).alloc (Nat.le_refl _) _).trans (hb.mono (by simp))).trans (hb2.mono (by have := hb.size; simp at this; omega)))⟩

/-! ### creellaw02_few: function 11 -/
def creellaw02_few.f (l0 : List Int) : Option (List Int) := if 0 ≤ (mn (l0.length : Int) 300) then (if (mn (l0.length : Int) 300) ≤ (l0.length : Int) then (some (l0.take ((mn (l0.length : Int) 300) : Int).toNat)) else (none)) else (none)
set_option maxHeartbeats 8000000 in
set_option maxRecDepth 100000 in
theorem creellaw02_few.calls (P0_ : Nat → Prop) (A0 : Option Addr) (c0 : Nat) (l0 : List Int) (r : List Int) (w : World) (hs0 : Kd.V (Kd.int .u8) 5 w w.heap.size (fun k_ => P0_ k_) (.slice A0 l0.length c0) l0) (h : creellaw02_few.f l0 = some r) :
    Calls Try.prog 11 #[.slice A0 l0.length c0] w fun e w' => ∃ v0_ : Value, e = .returned (v0_) ∧ Kd.V (Kd.int .u8) 5 w' w.heap.size (fun k_ => (P0_ k_ ∨ w.heap.size ≤ k_)) v0_ r ∧ Below w.heap.size w w' := by
  have HO0 := Aside0.mk (show Kd.V (Kd.int .u8) 5 w w.heap.size (fun k_ => (P0_ k_ ∨ w.heap.size ≤ k_)) (.slice A0 l0.length c0) l0 from Kd.V_mono hs0 (fun k_ hk => .inl hk))
  have HB := Aside0.mk (Below.refl w.heap.size w)
  have H : (if 0 ≤ (mn (l0.length : Int) 300) then (if (mn (l0.length : Int) 300) ≤ (l0.length : Int) then (some (l0.take ((mn (l0.length : Int) 300) : Int).toNat)) else (none)) else (none)) = some r := h
  clear h
  obtain ⟨ji2, hji2⟩ : ∃ j_ : Int, (mn (l0.length : Int) 300) = j_ := ⟨_, rfl⟩
  replace H : (if 0 ≤ (ji2) then (if (ji2) ≤ (l0.length : Int) then (some (l0.take ((ji2) : Int).toNat)) else (none)) else (none)) = some r := by first | (rw [hji2] at H; exact H) | (simp only [hji2] at H ⊢; exact H)
  (try (have hji2h : ji2 ≤ 300 := by (rw [← hji2]; unfold mn; (repeat' split) <;> omega)))
  (try (have hji2g : ji2 ≤ 64 := by omega))
  (try (have hji2l : 0 ≤ ji2 := by (rw [← hji2]; unfold mn; (repeat' split) <;> omega)))
  (try (have hji2m : 0 ≤ ji2 := by omega))
  have hji2_ : (if 300 < (l0.length : Int) then 300 else (l0.length : Int)) = ji2 := hji2
  by_cases c3 : 0 ≤ (ji2)
  · rw [if_pos c3] at H
    have c3b0 := eq_true c3
    have c3b1 : decide (0 ≤ (ji2)) = true := decide_eq_true c3
    clear c3
    by_cases c4 : (ji2) ≤ (l0.length : Int)
    · rw [if_pos c4] at H
      have c4b0 := eq_true c4
      have c4b1 : decide ((ji2) ≤ (l0.length : Int)) = true := decide_eq_true c4
      clear c4
      obtain ⟨y102, hy102⟩ : ∃ y_ : List Int, y_ = (l0.take ((ji2) : Int).toNat) := ⟨_, rfl⟩
      replace H : (some y102) = some r := by first | (rw [hy102]; with_reducible exact H) | (have H2_ := (Option.bind_some _ _).symm.trans H; rw [hy102]; with_reducible exact H2_) | (have H2_ := (Option.bind_some _ _).symm.trans H; with_reducible exact H2_) | with_reducible exact H | (rw [hy102]; exact H) | exact H
      have Ny102 := Aside0.mk hy102
      clear hy102
      obtain rfl := Option.some.inj H
      have q5 : ((ji2) : Int) ≤ ((l0.length : Int) : Int) := of_decide_eq_true (by first | (with_reducible assumption) | assumption)
      obtain ⟨i05, hi05, _, hsz5, _⟩ := info_parts info5
      have hroom5 : l0.length ≤ c0 := (Kd.V_reads' HO0.out).2.1
      have hC5 : Kd.F (Kd.int .u8) _ _ A0 l0.length l0 := (Kd.V_at (base := w.heap.size) HO0.out).2.2
      have hcut5 := cut_to (P := Try.prog) 22 5 .i64 Try.underlying22 hi05 A0 l0.length c0 (ji2) (of_decide_eq_true (by first | (with_reducible assumption) | assumption)) q5 hroom5
      have hr5 := Kd.F_take (m := ((ji2) : Int).toNat) hC5 (by omega)
      have hy5 : y102.length = ((ji2) : Int).toNat := (by rw [Ny102.out, List.length_take]; omega)
      rw [← Ny102.out] at hr5
      rw [← hy5] at hcut5
      have HO106 := Aside0.mk (show Kd.V (Kd.int .u8) 5 _ w.heap.size _ (.slice A0 y102.length c0) y102 from Kd.V_mk (by omega) hr5)
      have HC106 := Aside0.mk (show y102.length ≤ c0 from by omega)
      clear hr5 hC5 hroom5 hi05 hsz5
      have KY5 := Aside0.mk hy5
      clear hy5
      replace q5 := eq_true q5
      go_enter Try.func11, Try.ntmps11
      go_wp2
      go_ret
      exact ⟨_, by first | rfl | (simp [errW_none, errW_some] <;> rfl) | (simp only [← hji2]; first | rfl | (simp [errW_none, errW_some] <;> rfl)) | (simp [*, errW_none, errW_some] <;> rfl), by (with_reducible repeat (first | apply Kd.V_alloc | apply Kd.V_drewN | apply Kd.V_drew)); exact HO106.out, by repeat (first | (with_reducible first | exact HB.out | apply below_alloc | apply pw_below_drewN | apply below_drew1) | exact HB.out)⟩
    · rw [if_neg c4] at H
      exact absurd H (by simp)
  · rw [if_neg c3] at H
    exact absurd H (by simp)

/-! ### creelref02_entry: function 17 -/
def creelref02_entry.l0 : Nat → Int → Int → Option (Int)
  | 0, _, _ => none
  | k + 1, x0, x3 => if x3 < 8 then (if (Int.tmod x0 2) = 1 then (creelref02_entry.l0 k (Go.bits .xor .u32 ((Int.tdiv x0 2) % 4294967296) 2197175160) (wrap64 (x3 + 1))) else (creelref02_entry.l0 k ((Int.tdiv x0 2) % 4294967296) (wrap64 (x3 + 1)))) else (some x0)
def creelref02_entry.f (k : Nat) (a0 : Int) : Option (Int) := creelref02_entry.l0 k a0 0
theorem creelref02_entry.mono_l : ∀ k, (∀ y0 y1, LeO (creelref02_entry.l0 k y0 y1) (creelref02_entry.l0 (k + 1) y0 y1))
  | 0 => fun _ _ r h => by simp [creelref02_entry.l0] at h
  | k + 1 => by
    have ih0 := creelref02_entry.mono_l k
    · intro y0 y1
      unfold creelref02_entry.l0
      repeat' first
      | (with_reducible exact ih0 _ _)
      | (with_reducible exact LeO.refl _)
      | (with_reducible exact LeO.none _)
      | (with_reducible refine LeO.ite ?_ ?_)
      | (with_reducible refine LeO.bind ?_ (fun _ => ?_))
      | exact ih0 _ _
      | exact LeO.none _
      | refine LeO.ite ?_ ?_
      | refine LeO.bind ?_ (fun _ => ?_)
theorem creelref02_entry.mono : ∀ a0 k, LeO (creelref02_entry.f k a0) (creelref02_entry.f (k + 1) a0) := by
  intro a0 k
  have ih0 := creelref02_entry.mono_l k
  unfold creelref02_entry.f
  repeat' first
      | (with_reducible exact ih0 _ _)
      | (with_reducible exact LeO.refl _)
      | (with_reducible exact LeO.none _)
      | (with_reducible refine LeO.ite ?_ ?_)
      | (with_reducible refine LeO.bind ?_ (fun _ => ?_))
      | exact ih0 _ _
      | exact LeO.none _
      | refine LeO.ite ?_ ?_
      | refine LeO.bind ?_ (fun _ => ?_)
set_option maxHeartbeats 8000000 in
set_option maxRecDepth 100000 in
theorem creelref02_entry.calls (k : Nat) (a0 : Int) (r : Int) (w : World) (h : creelref02_entry.f k a0 = some r) :
    Calls Try.prog 17 #[.int .u32 a0] w fun e w' => e = .returned (.int .u32 r) ∧ Drawn0 w w' := by
  have H : (creelref02_entry.l0 k a0 0) = some r := h
  clear h
  have H' := Aside0.mk H
  clear H
  go_enter Try.func17, Try.ntmps17
  go_wp2
  go_loopg [0, 3] k (fun kq v0 v3 w' => ∃ (x0_1 : Int) (x3_1 : Int), v0 = .int .u32 x0_1 ∧ v3 = .int .i64 x3_1 ∧ Aside0 (creelref02_entry.l0 kq x0_1 x3_1 = some r) ∧ Aside0 (kq ≤ k) ∧ Drawn0 w w')
  case atStart => exact ⟨(a0), (0), (by first | rfl | (simp; done) | (simp [*]; done)), (by first | rfl | (simp; done) | (simp [*]; done)), H', ⟨Nat.le_refl _⟩, by repeat (first | exact Drawn0.refl _ | apply Drawn0.step)⟩
  case round =>
    clear H'
    try clear c1
    obtain ⟨x0_1, x3_1, rfl, rfl, HA, HK1, ⟨m1, rfl⟩⟩ := hrel
    cases gk with
    | zero => exact absurd HA.out (by simp [creelref02_entry.l0])
    | succ k1 =>
      have H := HA.out
      clear HA
      simp only [creelref02_entry.l0] at H
      by_cases c2 : x3_1 < 8
      · rw [if_pos c2] at H
        have c2b0 : decide (x3_1 < 8) = true := decide_eq_true c2
        clear c2
        by_cases c3 : (Int.tmod x0_1 2) = 1
        · rw [if_pos c3] at H
          have c3b0 : ((Int.tmod x0_1 2) == 1) = true := beq_iff_eq.mpr c3
          have c3b1 : ((Int.tmod x0_1 2) != 1) = false := bne_eq_false_iff_eq.mpr c3
          clear c3
          have H' := Aside0.mk H
          clear H
          go_wp2
          go_roundg k1
          case measure => have := HK1.out; omega
          case rel => exact ⟨(Go.bits .xor .u32 ((Int.tdiv x0_1 2) % 4294967296) 2197175160), (wrap64 (x3_1 + 1)), (by first | rfl | (simp; done) | (simp [*]; done)), (by first | rfl | (simp; done) | (simp [*]; done)), H', ⟨by have := HK1.out; omega⟩, by repeat (first | exact Drawn0.refl _ | apply Drawn0.step)⟩
        · rw [if_neg c3] at H
          have c3b0 : ((Int.tmod x0_1 2) == 1) = false := beq_eq_false_iff_ne.mpr c3
          have c3b1 : ((Int.tmod x0_1 2) != 1) = true := bne_iff_ne.mpr c3
          have H' := Aside0.mk H
          clear H
          go_wp2
          go_roundg k1
          case measure => have := HK1.out; omega
          case rel => exact ⟨((Int.tdiv x0_1 2) % 4294967296), (wrap64 (x3_1 + 1)), (by first | rfl | (simp; done) | (simp [*]; done)), (by first | rfl | (simp; done) | (simp [*]; done)), H', ⟨by have := HK1.out; omega⟩, by repeat (first | exact Drawn0.refl _ | apply Drawn0.step)⟩
      · rw [if_neg c2] at H
        have c2b0 : decide (x3_1 < 8) = false := decide_eq_false c2
        clear c2
        obtain rfl := Option.some.inj H
        go_wp2
        go_ret
        exact ⟨by first | rfl | (simp; done) | (simp [*]; done), by repeat (first | exact Drawn0.refl _ | apply Drawn0.step)⟩

/-! ### creelref02_Add: function 14 -/
def creelref02_Add.l0 : Nat → List Int → Int → Int → Option (Int)
  | 0, _, _, _ => none
  | k + 1, x1, x5, x6 => if x6 < (x1.length : Int) then (if 0 ≤ x6 then ((creelref02_entry.f k (Int.tmod (Go.bits .xor .u32 x5 ((rd x1 x6) % 4294967296)) 256)).bind fun t108 => (creelref02_Add.l0 k x1 (Go.bits .xor .u32 t108 ((Int.tdiv x5 256) % 4294967296)) (wrap64 (x6 + 1)))) else (none)) else (some (Go.bits .xor .u32 4294967295 x5))
def creelref02_Add.f (k : Nat) (a0 : Int) (l1 : List Int) : Option (Int) := creelref02_Add.l0 k l1 (Go.bits .xor .u32 4294967295 a0) 0
theorem creelref02_Add.mono_l : ∀ k, (∀ y0 y1 y2, LeO (creelref02_Add.l0 k y0 y1 y2) (creelref02_Add.l0 (k + 1) y0 y1 y2))
  | 0 => fun _ _ _ r h => by simp [creelref02_Add.l0] at h
  | k + 1 => by
    have ih0 := creelref02_Add.mono_l k
    · intro y0 y1 y2
      unfold creelref02_Add.l0
      repeat' first
      | (with_reducible exact ih0 _ _ _)
      | (with_reducible exact creelref02_entry.mono _ _)
      | (with_reducible exact LeO.refl _)
      | (with_reducible exact LeO.none _)
      | (with_reducible refine LeO.ite ?_ ?_)
      | (with_reducible refine LeO.bind ?_ (fun _ => ?_))
      | exact ih0 _ _ _
      | exact creelref02_entry.mono _ _
      | exact LeO.none _
      | refine LeO.ite ?_ ?_
      | refine LeO.bind ?_ (fun _ => ?_)
theorem creelref02_Add.mono : ∀ a0 a1 k, LeO (creelref02_Add.f k a0 a1) (creelref02_Add.f (k + 1) a0 a1) := by
  intro a0 a1 k
  have ih0 := creelref02_Add.mono_l k
  unfold creelref02_Add.f
  repeat' first
      | (with_reducible exact ih0 _ _ _)
      | (with_reducible exact creelref02_entry.mono _ _)
      | (with_reducible exact LeO.refl _)
      | (with_reducible exact LeO.none _)
      | (with_reducible refine LeO.ite ?_ ?_)
      | (with_reducible refine LeO.bind ?_ (fun _ => ?_))
      | exact ih0 _ _ _
      | exact creelref02_entry.mono _ _
      | exact LeO.none _
      | refine LeO.ite ?_ ?_
      | refine LeO.bind ?_ (fun _ => ?_)
set_option maxHeartbeats 8000000 in
set_option maxRecDepth 100000 in
theorem creelref02_Add.calls (k : Nat) (a0 : Int) (A1 : Option Addr) (c1 : Nat) (l1 : List Int) (r : Int) (w : World) (hr1 : Kd.C (Kd.int .u8) w A1 l1.length l1) (hc1 : l1.length ≤ c1) (h : creelref02_Add.f k a0 l1 = some r) :
    Calls Try.prog 14 #[.int .u32 a0, .slice A1 l1.length c1] w fun e w' => e = .returned (.int .u32 r) ∧ Drawn0 w w' := by
  have HR1 := Aside0.mk hr1
  have HC1 := Aside0.mk hc1
  clear hr1 hc1
  have H : (creelref02_Add.l0 k l1 (Go.bits .xor .u32 4294967295 a0) 0) = some r := h
  clear h
  have H' := Aside0.mk H
  clear H
  go_enter Try.func14, Try.ntmps14
  go_wp2
  go_loopg [5, 6] k (fun kq v5 v6 w' => ∃ (x5_1 : Int) (x6_1 : Int), v5 = .int .u32 x5_1 ∧ v6 = .int .i64 x6_1 ∧ Aside0 (creelref02_Add.l0 kq l1 x5_1 x6_1 = some r) ∧ Aside0 (kq ≤ k) ∧ Drawn0 w w')
  case atStart => exact ⟨(Go.bits .xor .u32 4294967295 a0), (0), (by first | rfl | (simp; done) | (simp [*]; done)), (by first | rfl | (simp; done) | (simp [*]; done)), H', ⟨Nat.le_refl _⟩, by repeat (first | exact Drawn0.refl _ | apply Drawn0.step)⟩
  case round =>
    clear H'
    try clear c1
    try clear p2
    obtain ⟨x5_1, x6_1, rfl, rfl, HA, HK1, ⟨m1, rfl⟩⟩ := hrel
    cases gk with
    | zero => exact absurd HA.out (by simp [creelref02_Add.l0])
    | succ k1 =>
      have H := HA.out
      clear HA
      simp only [creelref02_Add.l0] at H
      by_cases c3 : x6_1 < (l1.length : Int)
      · rw [if_pos c3] at H
        have c3b0 : decide (x6_1 < (l1.length : Int)) = true := decide_eq_true c3
        clear c3
        by_cases c4 : 0 ≤ x6_1
        · rw [if_pos c4] at H
          have c4b0 : decide (0 ≤ x6_1) = true := decide_eq_true c4
          clear c4
          replace H := Option.bind_eq_some_iff.mp H
          obtain ⟨t108, A50, H⟩ := H
          replace H : (creelref02_Add.l0 k1 l1 (Go.bits .xor .u32 t108 ((Int.tdiv x5_1 256) % 4294967296)) (wrap64 (x6_1 + 1))) = some r := H
          have A5 := Aside0.mk A50
          clear A50
          have H' := Aside0.mk H
          clear H
          have p107 : 0 ≤ (x6_1 : Int) := of_decide_eq_true (by first | (with_reducible assumption) | assumption)
          have q107 : x6_1 < (l1.length : Int) := of_decide_eq_true (by first | (with_reducible assumption) | assumption)
          obtain ⟨ad107, e107, hx107_0⟩ := Kd.at_int HR1.out x6_1 p107 q107
          cases e107
          replace p107 := eq_true p107
          replace q107 := eq_true q107
          go_wp2_with (first | ((with_reducible refine gate_callee (f := 17) rfl ?_); refine goesL_ (some 23) rfl rfl Try.func17 (by kernel_rfl) rfl #[.int .u32 (Int.tmod (Go.bits .xor .u32 x5_1 ((rd l1 x6_1) % 4294967296)) 256)] rfl (by (try simp only [List.map_toArray, List.map_cons, List.map_nil]); first | done | rfl | (simp only [List.length_drop, List.length_take]; rfl)) ?_; (with_reducible refine (creelref02_entry.calls k1 (Int.tmod (Go.bits .xor .u32 x5_1 ((rd l1 x6_1) % 4294967296)) 256) t108 _ A5.out).mono ?_); rintro e w' ⟨rfl, ⟨nd, rfl⟩⟩; refine ⟨_, rfl, ?_⟩))
          go_roundg k1
          case measure => have := HK1.out; omega
          case rel => exact ⟨(Go.bits .xor .u32 t108 ((Int.tdiv x5_1 256) % 4294967296)), (wrap64 (x6_1 + 1)), (by first | rfl | (simp; done) | (simp [*]; done)), (by first | rfl | (simp; done) | (simp [*]; done)), H', ⟨by have := HK1.out; omega⟩, by repeat (first | exact Drawn0.refl _ | apply Drawn0.step)⟩
        · rw [if_neg c4] at H
          exact absurd H (by simp)
      · rw [if_neg c3] at H
        have c3b0 : decide (x6_1 < (l1.length : Int)) = false := decide_eq_false c3
        clear c3
        obtain rfl := Option.some.inj H
        go_wp2
        go_ret
        exact ⟨by first | rfl | (simp; done) | (simp [*]; done), by repeat (first | exact Drawn0.refl _ | apply Drawn0.step)⟩

/-! ### creelref02_Sum: function 12 -/
def creelref02_Sum.f (k : Nat) (l0 : List Int) : Option (Int) := (creelref02_Add.f k 0 l0).bind fun t109 => (some t109)
theorem creelref02_Sum.mono : ∀ a0 k, LeO (creelref02_Sum.f k a0) (creelref02_Sum.f (k + 1) a0) := by
  intro a0 k
  unfold creelref02_Sum.f
  repeat' first
      | (with_reducible exact creelref02_Add.mono _ _ _)
      | (with_reducible exact LeO.refl _)
      | (with_reducible exact LeO.none _)
      | (with_reducible refine LeO.ite ?_ ?_)
      | (with_reducible refine LeO.bind ?_ (fun _ => ?_))
      | exact creelref02_Add.mono _ _ _
      | exact LeO.none _
      | refine LeO.ite ?_ ?_
      | refine LeO.bind ?_ (fun _ => ?_)
set_option maxHeartbeats 8000000 in
set_option maxRecDepth 100000 in
theorem creelref02_Sum.calls (k : Nat) (A0 : Option Addr) (c0 : Nat) (l0 : List Int) (r : Int) (w : World) (hr0 : Kd.C (Kd.int .u8) w A0 l0.length l0) (hc0 : l0.length ≤ c0) (h : creelref02_Sum.f k l0 = some r) :
    Calls Try.prog 12 #[.slice A0 l0.length c0] w fun e w' => e = .returned (.int .u32 r) ∧ Drawn0 w w' := by
  have HR0 := Aside0.mk hr0
  have HC0 := Aside0.mk hc0
  clear hr0 hc0
  have H : ((creelref02_Add.f k 0 l0).bind fun t109 => (some t109)) = some r := h
  clear h
  replace H := Option.bind_eq_some_iff.mp H
  obtain ⟨t109, A20, H⟩ := H
  replace H : (some t109) = some r := H
  have A2 := Aside0.mk A20
  clear A20
  obtain rfl := Option.some.inj H
  go_enter Try.func12, Try.ntmps12
  go_wp2_with (first | ((with_reducible refine gate_callee (f := 14) rfl ?_); refine goesL_ (some 4) rfl rfl Try.func14 (by kernel_rfl) rfl #[.int .u32 0, .slice A0 l0.length c0] rfl (by (try simp only [List.map_toArray, List.map_cons, List.map_nil]); first | done | rfl | (simp only [List.length_drop, List.length_take]; rfl)) ?_; (with_reducible refine (creelref02_Add.calls k 0 _ _ l0 t109 _ ?side1 ?side2 A2.out).mono ?_); (case side1 => repeat (first | exact HR0.out | (with_reducible refine Kd.C_alloc ?_ _) | (with_reducible refine Kd.C_drewN ?_ _) | (with_reducible refine Kd.C_drew ?_))); (case side2 => exact HC0.out); rintro e w' ⟨rfl, ⟨nd, rfl⟩⟩; refine ⟨_, rfl, ?_⟩))
  go_ret
  exact ⟨by first | rfl | (simp; done) | (simp [*]; done), by repeat (first | exact Drawn0.refl _ | apply Drawn0.step)⟩

/-! ### creelref02_Table: function 16 -/
theorem crcStore (w : World) (n k : Nat) (h : k < 256) : (((w.alloc (.cells (crcArr 0) 28)).alloc (.cells (crcArr k) 28)).drewN n).setCell ⟨w.heap.size + 1, k, none⟩ (.int .u32 (crcBits 8 (k : Int))) = ((w.alloc (.cells (crcArr 0) 28)).alloc (.cells (crcArr (k + 1)) 28)).drewN n := by
  have h2 := World.setCell_alloc_at (w := w.alloc (.cells (crcArr 0) 28)) (crcArr k) 28 (w.heap.size + 1) k (.int .u32 (crcBits 8 (k : Int))) (by simp)
  rw [crcArr_set k h] at h2
  exact congrArg (fun W : World => W.drewN n) h2
theorem crcCellD (w : World) (n k : Nat) (h : k < 256) : (((w.alloc (.cells (crcArr 0) 28)).alloc (.cells (crcArr k) 28)).drewN n).cell? ⟨w.heap.size + 1, k, none⟩ = some (.int .u32 0) := crcCell w k h
set_option maxHeartbeats 8000000 in
set_option maxRecDepth 100000 in
theorem creelref02_Table.calls (hE : ∀ i : Nat, i < 256 → ∃ k, creelref02_entry.f k i = some (crcBits 8 (i : Int))) (w : World) : Calls Try.prog 16 #[] w fun e w' => e = .returned (.agg (crcArr 256)) ∧ Below w.heap.size w w' := by
  have HE := Aside0.mk hE
  clear hE
  have hz := crcArr_zero
  go_enter Try.func16, Try.ntmps16
  go_wp2
  go_loopw [2] (fun i wr => ∃ k n : Nat, k ≤ 256 ∧ i = .int .i64 k ∧ wr = ((w.alloc (.cells (crcArr 0) 28)).alloc (.cells (crcArr k) 28)).drewN n) (fun i _ => 256 - (intOf i).toNat)
  case atStart => exact ⟨0, 0, by omega, rfl, rfl⟩
  case round =>
    obtain ⟨k, n, hk, rfl, rfl⟩ := hrel
    by_cases hlt : k < 256
    · obtain ⟨kq, hq⟩ := HE.out k hlt
      have hw : IntKind.u32.wrap (k : Int) = (k : Int) := by rw [Go.IntKind.wrap_u32]; omega
      have hc := fun m : Nat => crcCellD w m k hlt
      go_wp2_with (first | (go_at_call 17; refine (creelref02_entry.calls kq _ (crcBits 8 (k : Int)) _ (by first | exact hq | (rw [hw]; exact hq))).mono ?_; rintro e wd ⟨rfl, ⟨m, rfl⟩⟩; have hcm := hc (n + m)))
      go_roundw
      case rel => exact ⟨k + 1, n + m, by omega, by go_num, crcStore w (n + m) k hlt⟩
      case measure => simp [intOf]; omega
    · obtain rfl : k = 256 := by omega
      go_wp2_with (first | (refine wpList_load_row rfl 28 (.tmp 1) rfl (w.heap.size + 1) rfl 28 (crcArr 256) (0, 0) _ (heap_alloc2_new _ _ _) Try.underlying28 rfl (by rw [crcArr_size]; kernel_rfl) ?_) | (refine wpList_store_row rfl 28 (.tmp 0) (.tmp 12) rfl w.heap.size (crcArr 256) rfl rfl 28 (crcArr 0) (crcOld w) (by rw [crcArr_size]; kernel_rfl) (by rw [crcArr_size, crcArr_size]) (crcArr_one 256) ?_))
      refine bodyPost_ret (results_cell_row rfl _ _ w.heap.size 28 (crcArr 256) (0, 0) _ rfl (setRow_heap _ _ (crcArr 0) _ 28 (0, 0) (crcOld w)) Try.underlying28 rfl (by rw [crcArr_size]; kernel_rfl)) rfl ⟨rfl, by have hbl := pw_below_drewN (crcBelow w) n; exact hbl⟩

end Go.Proofs.Ytgkmaogehbjjoaa.Print
