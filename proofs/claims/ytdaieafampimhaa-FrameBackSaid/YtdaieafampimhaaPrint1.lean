-- Written by a program of this session (wip/cprint.py), which calls the kit's print and adds contracts proved by hand.
import Derived.Test.YtdaieafampimhaaPrint0
namespace Go.Proofs.Ytdaieafampimhaa.Print
open Go.RowKit Go.Proofs.YtdaieafampimhaaW.PrintWords Go.Proofs.YtdaieafampimhaaW.PrintLast Go.Proofs.YtdaieafampimhaaW.PrintMore
attribute [local go_sem] max2_int min2_int max_two min_two max_three min_three max_four min_four   -- for this text's walks alone
set_option linter.unusedVariables false
set_option linter.unusedSimpArgs false

/-! ### crc_Table: function 41 -/
/-- One bit of a byte's number. -/
def crcBit (c : Int) : Int := Go.bits .xor .u32 (c / 2) (Go.bits .and .u32 2197175160 ((-(Go.bits .and .u32 c 1)) % 4294967296))
/-- So many bits. -/
def crcBits : Nat → Int → Int
  | 0, c => c
  | n + 1, c => crcBit (crcBits n c)
def crcArr (k : Nat) : Array Value := ((List.range 256).map fun i => Value.int .u32 (if i < k then crcBits 8 (i : Int) else 0)).toArray
theorem crcArr_size (k : Nat) : (crcArr k).size = 256 := by simp [crcArr]
theorem crcArr_set (k : Nat) (h : k < 256) : (crcArr k).setIfInBounds k (Value.int .u32 (crcBits 8 (k : Int))) = crcArr (k + 1) := by
  apply Array.ext
  · simp [crcArr]
  · intro i h1 h2
    simp [crcArr_size] at h1 h2
    rw [Array.getElem_setIfInBounds (by simpa [crcArr_size] using h2)]
    simp only [crcArr, List.getElem_toArray, List.getElem_map, List.getElem_range]
    by_cases e : k = i
    · subst e; simp
    · simp only [e, if_false]
      by_cases h3 : i < k
      · simp [h3, show i < k + 1 by omega]
      · simp [h3, show ¬ i < k + 1 by omega]
theorem crcArr_one (k : Nat) : (crcArr k).all (·.oneCell') = true := by
  rw [Array.all_eq_true]
  intro i h
  simp only [crcArr, List.getElem_toArray, List.getElem_map]
  rfl
theorem crcArr_zero (w : World) : (zeroValue 56).run Try.prog w = .ok (.agg (crcArr 0)) w := by
  have : (zeroValue 56).run Try.prog w = .ok (.agg (Array.replicate 256 (.int .u32 0))) w := by kernel_rfl
  have h2 : crcArr 0 = Array.replicate 256 (.int .u32 0) := by
    apply Array.ext
    · rw [crcArr_size, Array.size_replicate]
    · intro i h1 h2
      simp only [crcArr, List.getElem_toArray, List.getElem_map, List.getElem_range, Array.getElem_replicate]
      rfl
  rw [this, h2]
theorem crcOld (w : World) : ((w.alloc (.cells (crcArr 0) 56)).alloc (.cells (crcArr 256) 56)).heap[w.heap.size]? = some (.cells (crcArr 0) 56 (0, 0)) := by
  rw [heap_alloc_old _ _ (by simp), heap_alloc_new]
theorem crcBelow (w : World) : Below w.heap.size w (((w.alloc (.cells (crcArr 0) 56)).alloc (.cells (crcArr 256) 56)).setRow w.heap.size (crcArr 256)) := by
  have h := ((Below.refl w.heap.size w).alloc (Nat.le_refl _) (.cells (crcArr 0) 56)).alloc (by simp) (.cells (crcArr 256) 56)
  exact ⟨h.os, h.tape, h.output, by rw [setRow_size]; exact h.size, fun i hi => by rw [setRow_other _ _ _ _ (by omega)]; exact h.block i hi⟩
theorem crcCell (w : World) (k : Nat) (h : k < 256) : ((w.alloc (.cells (crcArr 0) 56)).alloc (.cells (crcArr k) 56)).cell? ⟨w.heap.size + 1, k, none⟩ = some (.int .u32 0) := by
  rw [cell_of_row _ _ _ _ _ _ (heap_alloc2_new _ _ _), Array.getElem?_eq_getElem (by rw [crcArr_size]; exact h)]
  simp [crcArr]
set_option maxHeartbeats 8000000 in
set_option maxRecDepth 100000 in
theorem crc_Table.calls (w : World) : Calls Try.prog 41 #[] w fun e w' => e = .returned (.agg (crcArr 256)) ∧ Below w.heap.size w w' := by
  have hz := crcArr_zero
  go_enter Try.func41, Try.ntmps41
  go_wp2
  go_loopw [4] (fun i wr => ∃ k : Nat, k ≤ 256 ∧ i = .int .i64 k ∧ wr = (w.alloc (.cells (crcArr 0) 56)).alloc (.cells (crcArr k) 56)) (fun i _ => 256 - (intOf i).toNat)
  case atStart => exact ⟨0, by omega, rfl, rfl⟩
  case round =>
    obtain ⟨k, hk, rfl, rfl⟩ := hrel
    by_cases hlt : k < 256
    · go_wp2
      go_loop [3, 9] (fun c j => ∃ n : Nat, n ≤ 8 ∧ j = .int .i64 n ∧ c = .int .u32 (crcBits n k)) (fun _ j => 8 - (intOf j).toNat)
      case atStart => exact ⟨0, by omega, rfl, by go_num⟩
      case round =>
        obtain ⟨n, hn, rfl, rfl⟩ := hrel
        by_cases hlt2 : n < 8
        · go_wp2
          go_round
          case rel => exact ⟨n + 1, by omega, by go_num, rfl⟩
          case measure => simp [intOf]; omega
        · obtain rfl : n = 8 := by omega
          have hc := crcCell w k hlt
          go_wp2
          go_roundw
          case rel => exact ⟨k + 1, by omega, by go_num, by rw [← crcArr_set k hlt]⟩
          case measure => simp [intOf]; omega
    · obtain rfl : k = 256 := by omega
      go_wp2_with (first | (refine wpList_load_row rfl 56 (.tmp 1) rfl (w.heap.size + 1) rfl 56 (crcArr 256) (0, 0) _ (heap_alloc2_new _ _ _) Try.underlying56 rfl (by rw [crcArr_size]; kernel_rfl) ?_) | (refine wpList_store_row rfl 56 (.tmp 0) (.tmp 23) rfl w.heap.size (crcArr 256) rfl rfl 56 (crcArr 0) (crcOld w) (by rw [crcArr_size]; kernel_rfl) (by rw [crcArr_size, crcArr_size]) (crcArr_one 256) ?_))
      refine bodyPost_ret (results_cell_row rfl _ _ w.heap.size 56 (crcArr 256) (0, 0) _ rfl (setRow_heap _ _ (crcArr 0) _ 56 (0, 0) (crcOld w)) Try.underlying56 rfl (by rw [crcArr_size]; kernel_rfl)) rfl ⟨rfl, crcBelow w⟩

/-! ### crc_Add: function 37 -/

/-- One byte more. -/
def crcNext (c x : Int) : Int := Go.bits .xor .u32 (crcBits 8 (Go.bits .xor .u8 (c % 256) x)) (c / 256)
def crcFold (c : Int) : List Int → Int
  | [] => c
  | x :: r => crcFold (crcNext c x) r
theorem crcFold_snoc (l : List Int) (x : Int) : ∀ c, crcFold c (l ++ [x]) = crcNext (crcFold c l) x := by
  induction l with
  | nil => intro c; rfl
  | cons y l ih => intro c; exact ih _
theorem crcFold_take (c : Int) (l : List Int) (k : Nat) (h : k < l.length) : crcFold c (l.take (k + 1)) = crcNext (crcFold c (l.take k)) (rd l (k : Int)) := by
  rw [List.take_succ_eq_append_getElem h, crcFold_snoc]
  simp [rd, List.getD_eq_getElem?_getD, List.getElem?_eq_getElem h]
theorem bits_u8 (op : BinOp) (x y : Int) : 0 ≤ Go.bits op .u8 x y ∧ Go.bits op .u8 x y < 256 := by
  unfold Go.bits; rw [Go.IntKind.wrap_u8]; omega
theorem crcCellAt (w : World) (g : Nat) (hg : w.heap[g]? = some (.cells (crcArr 256) 56 (0, 0))) (i : Int) (h0 : 0 ≤ i) (h1 : i < 256) : w.cell? ⟨g, i.toNat, none⟩ = some (.int .u32 (crcBits 8 i)) := by
  rw [cell_of_row _ _ _ _ _ _ hg, Array.getElem?_eq_getElem (by rw [crcArr_size]; omega)]
  simp only [crcArr, List.getElem_toArray, List.getElem_map, List.getElem_range]
  rw [if_pos (by omega), Int.toNat_of_nonneg h0]
theorem crcMade (w0 w1 : World) (hb : Below w0.heap.size w0 w1) : Below w0.heap.size w0 ((w1.alloc (.cells (crcArr 0) 56)).setRow w1.heap.size (crcArr 256)) ∧ ((w1.alloc (.cells (crcArr 0) 56)).setRow w1.heap.size (crcArr 256)).heap[w1.heap.size]? = some (.cells (crcArr 256) 56 (0, 0)) := by
  have h := hb.alloc hb.size (.cells (crcArr 0) 56)
  have hs := hb.size
  exact ⟨⟨h.os, h.tape, h.output, by rw [setRow_size]; exact h.size, fun i hi => by rw [setRow_other _ _ _ _ (by omega)]; exact h.block i hi⟩, setRow_heap _ _ _ _ _ _ (heap_alloc_new _ _)⟩
def crc_Add.f (a0 : Int) (l1 : List Int) : Option Int := some (Go.bits .xor .u32 IntKind.u32.max (crcFold (Go.bits .xor .u32 IntKind.u32.max a0) l1))
set_option maxHeartbeats 8000000 in
set_option maxRecDepth 100000 in
theorem crc_Add.calls (a0 : Int) (A1 : Option Addr) (c1 : Nat) (l1 : List Int) (r : Int) (w : World) (hr1 : Kd.C (Kd.int .u8) w A1 l1.length l1) (hc1 : l1.length ≤ c1) (h : crc_Add.f a0 l1 = some r) :
    Calls Try.prog 37 #[.int .u32 a0, .slice A1 l1.length c1] w fun e w' => e = .returned (.int .u32 r) ∧ Below w.heap.size w w' := by
  have HR1 := Aside0.mk hr1
  clear hr1 hc1
  have H := Aside0.mk h
  clear h
  have hz := crcArr_zero
  go_enter Try.func37, Try.ntmps37
  go_wp2_with (first | (go_at_call 41; refine (crc_Table.calls _).mono ?_; rintro e w1 ⟨rfl, hb⟩) | (refine wpList_store_row rfl 56 (.tmp 5) (.tmp 9) rfl _ (crcArr 256) rfl rfl 56 (crcArr 0) (heap_alloc_new _ _) (by rw [crcArr_size]; kernel_rfl) (by rw [crcArr_size, crcArr_size]) (crcArr_one 256) ?_))
  obtain ⟨HB, hg⟩ := crcMade w w1 hb
  have HBA := Aside0.mk HB
  have HG := Aside0.mk hg
  clear HB hg hz
  obtain ⟨g, hgd⟩ : ∃ g, w1.heap.size = g := ⟨_, rfl⟩
  obtain ⟨w2, hw2⟩ : ∃ w2, (w1.alloc (.cells (crcArr 0) 56)).setRow w1.heap.size (crcArr 256) = w2 := ⟨_, rfl⟩
  rw [hw2] at HBA HG ⊢
  rw [hgd] at HG ⊢
  clear hw2 hgd hb
  have HM := Aside0.mk (Kd.C_max HR1.out)
  go_loop [6, 14] (fun c j => ∃ k : Nat, k ≤ l1.length ∧ j = .int .i64 k ∧ c = .int .u32 (crcFold (Go.bits .xor .u32 IntKind.u32.max a0) (l1.take k))) (fun _ j => l1.length - (intOf j).toNat)
  case atStart => exact ⟨0, by omega, rfl, rfl⟩
  case round =>
    obtain ⟨k, hk, rfl, rfl⟩ := hrel
    have hmax := HM.out
    by_cases hlt : k < l1.length
    · obtain ⟨ad, e1, hx⟩ := Kd.at_int HR1.out (k : Int) (by omega) (by omega)
      cases e1
      replace hx := (HBA.out.cell (World.block_lt_of_cell? w _ hx)).trans hx
      rw [Int.toNat_natCast] at hx
      have HS := Aside0.mk (crcFold_take (Go.bits .xor .u32 IntKind.u32.max a0) l1 k hlt)
      generalize crcFold (Go.bits .xor .u32 IntKind.u32.max a0) (l1.take k) = c at HS ⊢
      obtain ⟨hi0, hi1⟩ := bits_u8 .xor (c % 256) (rd l1 (k : Int))
      have ht := crcCellAt w2 g HG.out (Go.bits .xor .u8 (c % 256) (rd l1 (k : Int))) hi0 hi1
      go_wp2
      go_round
      case rel => exact ⟨k + 1, by omega, by go_num, by rw [HS.out]; rfl⟩
      case measure => simp [intOf]; omega
    · obtain rfl : k = l1.length := by omega
      go_wp2
      go_ret
      exact ⟨congrArg (fun z => Ending.returned (.int .u32 z)) (Option.some.inj H.out), HBA.out⟩

/-! ### crc_Sum: function 31 -/
def crc_Sum.f (l0 : List Int) : Option (Int) := (crc_Add.f 0 l0).bind fun t101 => (some t101)
set_option maxHeartbeats 8000000 in
set_option maxRecDepth 100000 in
theorem crc_Sum.calls (A0 : Option Addr) (c0 : Nat) (l0 : List Int) (r : Int) (w : World) (hr0 : Kd.C (Kd.int .u8) w A0 l0.length l0) (hc0 : l0.length ≤ c0) (h : crc_Sum.f l0 = some r) :
    Calls Try.prog 31 #[.slice A0 l0.length c0] w fun e w' => e = .returned (.int .u32 r) ∧ Below w.heap.size w w' := by
  have HR0 := Aside0.mk hr0
  have HC0 := Aside0.mk hc0
  clear hr0 hc0
  have HB := Aside0.mk (Below.refl w.heap.size w)
  have H : ((crc_Add.f 0 l0).bind fun t101 => (some t101)) = some r := h
  clear h
  replace H := Option.bind_eq_some_iff.mp H
  obtain ⟨t101, A20, H⟩ := H
  replace H : (some t101) = some r := H
  have A2 := Aside0.mk A20
  clear A20
  obtain rfl := Option.some.inj H
  go_enter Try.func31, Try.ntmps31
  go_wp2_with (first | ((with_reducible refine gate_callee (f := 37) rfl ?_); refine goesL_ (some 4) rfl rfl Try.func37 (by kernel_rfl) rfl #[.int .u32 0, .slice A0 l0.length c0] rfl (by (try simp only [List.map_toArray, List.map_cons, List.map_nil]); first | done | rfl | (simp only [List.length_drop, List.length_take]; rfl)) ?_; (with_reducible refine (crc_Add.calls 0 _ _ l0 t101 _ ?side1 ?side2 A2.out).mono ?_); (case side1 => repeat (first | exact HR0.out | (with_reducible refine Kd.C_alloc ?_ _) | (with_reducible refine Kd.C_drewN ?_ _) | (with_reducible refine Kd.C_drew ?_))); (case side2 => exact HC0.out); rintro e w3 ⟨rfl, hb⟩; refine ⟨_, rfl, ?_⟩; have n0_ := Aside0.mk (below_step (by repeat (first | (with_reducible first | exact HB.out | apply below_alloc | apply pw_below_drewN | apply below_drew1) | exact HB.out)) hb); clear HB; have HB := n0_; clear n0_; (try clear hb); (try clear hb2); (try clear hk); (try clear hi)))
  go_ret
  exact ⟨by first | rfl | (simp [errW_none, errW_some] <;> rfl) | (simp [*, errW_none, errW_some] <;> rfl), by repeat (first | (with_reducible first | exact HB.out | apply below_alloc | apply pw_below_drewN | apply below_drew1) | exact HB.out)⟩

/-! ### frame_Seal: function 19 -/
/-- The four bytes of a sum, so many of them laid, behind bytes. -/
def sealRow (l : List Int) (n : Int) : Nat → List Int
  | 0 => l ++ [0, 0, 0, 0]
  | 1 => l ++ [n % 256, 0, 0, 0]
  | 2 => l ++ [n % 256, n / 256 % 256, 0, 0]
  | 3 => l ++ [n % 256, n / 256 % 256, n / 65536 % 256, 0]
  | _ => l ++ [n % 256, n / 256 % 256, n / 65536 % 256, n / 16777216 % 256]
theorem sealRow_length (l : List Int) (n : Int) (k : Nat) : (sealRow l n k).length = l.length + 4 := by
  unfold sealRow; split <;> simp
def frame_Seal.f (l0 : List Int) : Option (List Int) := if l0.length + 4 < 140737488355000 then (crc_Sum.f l0).bind fun n => some (sealRow l0 n 4) else none
set_option maxHeartbeats 8000000 in
set_option maxRecDepth 100000 in
theorem frame_Seal.calls (A0 : Option Addr) (c0 : Nat) (l0 : List Int) (r : List Int) (w : World) (hr0 : Kd.C (Kd.int .u8) w A0 l0.length l0) (hc0 : l0.length ≤ c0) (h : frame_Seal.f l0 = some r) :
    Calls Try.prog 19 #[.slice A0 l0.length c0] w fun e w' => ∃ v0_ : Value, e = .returned (v0_) ∧ Kd.R (Kd.int .u8) 5 w' w.heap.size (fun _ => True) v0_ r ∧ Below w.heap.size w w' := by
  have HR0 := Aside0.mk hr0
  have HC0 := Aside0.mk hc0
  clear hr0 hc0
  unfold frame_Seal.f at h
  by_cases hl : l0.length + 4 < 140737488355000
  · rw [if_pos hl] at h
    obtain ⟨n, hn, h⟩ := Option.bind_eq_some_iff.mp h
    obtain rfl := Option.some.inj h
    have HN := Aside0.mk hn
    clear hn
    have hN : (List.replicate ((l0.length : Int) + 4).toNat (0 : Int)).length = l0.length + 4 := by rw [List.length_replicate]; omega
    have HN4 := Aside0.mk hN
    have H0 := Aside0.mk (show l0.take (min l0.length (List.replicate ((l0.length : Int) + 4).toNat (0 : Int)).length) ++ (List.replicate ((l0.length : Int) + 4).toNat (0 : Int)).drop (min l0.length (List.replicate ((l0.length : Int) + 4).toNat (0 : Int)).length) = sealRow l0 n 0 from by
      rw [hN, show min l0.length (l0.length + 4) = l0.length by omega, List.take_length, List.drop_replicate, show ((l0.length : Int) + 4).toNat - l0.length = 4 by omega]; rfl)
    clear hN
    obtain ⟨i5, hi5, _, hsz5, _⟩ := info_parts info5
    go_enter Try.func19, Try.ntmps19
    go_wp2_with (first
      | ((with_reducible refine gate_dst (N := 9) rfl ?_); refine Kd.R_make (Kd.int .u8) (w0 := w) w.heap.size 5 rfl (N := 9) rfl 22 _ _ rfl ((l0.length : Int) + 4) rfl rfl Try.underlying22 (.int .u8 0) 1 info5 rfl (by decide) (by decide) 0 (ok := fun _ => True) (okp := fun _ => True) rfl (fun _ _ => trivial) trivial (by omega) (by omega) (Below.refl _ _) (Nat.le_refl _) ?_; intro v1 w1 ho hb hg hat; obtain ⟨g, cap, rfl, hrest⟩ := Kd.R_form ho (by rw [HN4.out]; omega); have HG := Aside0.mk hrest.1; clear hrest hg hat; rw [HN4.out] at ho ⊢; have HO1 := Aside0.mk ho; have HB1 := Aside0.mk hb; clear ho hb; obtain ⟨A5, hcut5, _⟩ := print_cut_of (P := Try.prog) (Value.int .u8) (0 : Int) 22 5 .i64 Try.underlying22 hi5 hsz5 (some ⟨g, 0, none⟩) (l0.length + 4) cap l0.length (by omega); rw [show l0.length + 4 - l0.length = 4 by omega] at hcut5)
      | ((with_reducible refine gate_builtin (b := .copy) (xs := #[.tmp 10, .tmp 11]) rfl ?_); refine Hand.copyR rfl (.tmp 10) (.tmp 11) 22 22 rfl 5 Try.underlying22 (by kernel_rfl) (k := .u8) rfl (sp := A0) (sLen := l0.length) (sCap := c0) (ys := l0) rfl HO1.out (Kd.C_below HR0.out HB1.out) HB1.out (Nat.le_refl _) ?_; intro w2 ho2 hb2 hg2; rw [H0.out] at ho2; have HO2 := Aside0.mk ho2; have HB2 := Aside0.mk hb2; clear ho2 hb2 hg2 HO1 HB1)
      | (go_at_call 31; refine (crc_Sum.calls A0 c0 l0 n _ (Kd.C_below HR0.out HB2.out) HC0.out HN.out).mono ?_; rintro e w3 ⟨rfl, hb⟩; have HO3 := Aside0.mk (Kd.R_below HO2.out hb); have HB3 := Aside0.mk (below_step HB2.out hb); clear hb HO2 HB2))
    go_loopw [20] (fun j wr => ∃ k : Nat, k ≤ 4 ∧ j = .int .i64 k ∧ Aside0 (Kd.R (Kd.int .u8) 5 wr w.heap.size (fun _ => True) (.slice (some ⟨g, 0, none⟩) (l0.length + 4) cap) (sealRow l0 n k)) ∧ Aside0 (Below w.heap.size w wr)) (fun j _ => 4 - (intOf j).toNat)
    case atStart => exact ⟨0, by omega, rfl, HO3, HB3⟩
    case round =>
      obtain ⟨k, hk, rfl, HO4, HB4⟩ := hrel
      by_cases hlt : k < 4
      · obtain ⟨hce, hfr⟩ := Kd.R_celln 0 HO4.out ((l0.length : Int) + (k : Int)) (by omega) (by push_cast; omega)
        rw [show ((l0.length : Int) + (k : Int)).toNat = l0.length + k by omega] at hce hfr
        have hp := Kd.R_putn HO4.out ((l0.length : Int) + (k : Int)) (n / 2 ^ (8 * k) % 256)
        rw [show ((l0.length : Int) + (k : Int)).toNat = l0.length + k by omega] at hp
        have hset : (sealRow l0 n k).set (l0.length + k) (n / 2 ^ (8 * k) % 256) = sealRow l0 n (k + 1) := by
          match k, hlt with
          | 0, _ => simp [sealRow]
          | 1, _ => simp [sealRow]
          | 2, _ => simp [sealRow]
          | 3, _ => simp [sealRow]
        rw [hset] at hp
        have hb : Below w.heap.size w (wr.setCell ⟨g, l0.length + k, none⟩ (.int .u8 (n / 2 ^ (8 * k) % 256))) := HB4.out.setCell (p := ⟨g, l0.length + k, none⟩) HG.out _
        go_wp2
        go_roundw
        case rel => exact ⟨k + 1, by omega, by go_num, Aside0.mk hp, Aside0.mk hb⟩
        case measure => simp [intOf]; omega
      · obtain rfl : k = 4 := by omega
        go_wp2
        go_ret
        exact ⟨_, rfl, HO4.out, HB4.out⟩
  · rw [if_neg hl] at h
    exact absurd h (by simp)

-- NOT PRINTED: function 35 (slices_Grow_byte_byte)

/-! ### slices_Concat_byte_byte: function 26 -/
set_option maxHeartbeats 2000000 in
set_option maxRecDepth 100000 in
/-- 'Grow' of nothing: room alone. -/
theorem grow_nil (n : Int) (h0 : 0 ≤ n) (hn : n < 140737488355000) (w : World) :
    Calls Try.prog 35 #[.slice none 0 0, .int .i64 n] w fun e w' => ∃ v_ : Value, e = .returned v_ ∧ Kd.R (Kd.int .u8) 5 w' w.heap.size (fun _ => True) v_ [] ∧ Below w.heap.size w w' := by
  obtain ⟨i5, hi5, _, hsz5, _⟩ := info_parts info5
  obtain ⟨hk0, -, -⟩ := print_take_of (P := Try.prog) (Value.int .u8) (0 : Int) 22 5 .i64 Try.underlying22 hi5 hsz5 none 0 ([] : List Int) 0 (by decide) (by decide) (by decide)
  have hk0' : ∀ W : World, (Instr.slice 22 (.slice none 0 0) none (some (.int .i64 0)) none).run Try.prog W = .ok (.slice none 0 0) W := hk0
  have hz0 : ¬ n < 0 := by omega
  by_cases hp : 0 < n
  · have hl : (List.replicate n.toNat (0 : Int)).length = n.toNat := List.length_replicate ..
    go_enter Try.func35, Try.ntmps35
    go_wp2_with ((with_reducible refine gate_dst (N := 22) rfl ?_); refine Kd.R_append_zeros (Kd.int .u8) (w0 := w) w.heap.size rfl _ _ 22 3 5 (.int .u8 0) 1 rfl Try.underlying22 Try.underlying3 info5 rfl (by decide) (by decide) (.slice none 0 0) [] 0 n (fun _ => True) rfl rfl rfl (fun _ _ => trivial) (Kd.R_nil _ _ _ _ _) (by omega) (Below.refl _ _) (Nat.le_refl _) (by simp; omega) ?_; intro v1 w1 ho hb hg hat; obtain ⟨g, cap, rfl, hrest⟩ := Kd.R_form ho (by simp; omega); clear hrest hg hat; rw [List.nil_append, hl] at ho ⊢; obtain ⟨hk1, -, -⟩ := print_take_of (P := Try.prog) (Value.int .u8) (0 : Int) 22 5 .i64 Try.underlying22 hi5 hsz5 (some ⟨g, 0, none⟩) cap (List.replicate n.toNat (0 : Int)) 0 (by decide) (by omega) (by obtain ⟨_, hown⟩ := Kd.R_own ho; rw [hl]; exact own_le hown); rw [hl] at hk1; have HO1 := Aside0.mk ho; have HB1 := Aside0.mk hb; clear ho hb)
    go_ret
    exact ⟨_, rfl, by have h := Kd.R_take (m := 0) HO1.out (Nat.zero_le _); exact h, HB1.out⟩
  · obtain rfl : n = 0 := by omega
    go_enter Try.func35, Try.ntmps35
    go_wp2
    go_ret
    exact ⟨_, rfl, Kd.R_nil _ _ _ _ _, Below.refl _ _⟩
theorem concat_at {w : World} {A : Option Addr} {n : Nat} {xs : List (List Int)} (h : Kd.C (Kd.slice 5 (Kd.int .u8)) w A n xs) (k : Nat) (h1 : k < n) : ∃ ad A0 c0, A = some ad ∧ w.cell? (ad.add k) = some (.slice A0 (xs.getD k []).length c0) ∧ (xs.getD k []).length ≤ c0 ∧ (Kd.int .u8).C w A0 (xs.getD k []).length (xs.getD k []) := by
  obtain ⟨ad, c, e, _, hK, hc0⟩ := Kd.C_get h ([] : List Int) (k : Int) (by omega) (by omega)
  have hc : ∀ j u, c[j]? = some u → w.cell? (ad.add (k * 1 + j)) = some u := hc0
  obtain ⟨A0, c0, rfl, l0, g0⟩ := hK
  exact ⟨ad, A0, c0, e, by have hq := hc 0 _ rfl; rwa [Nat.mul_one, Nat.add_zero] at hq, l0, g0⟩
theorem take_flat (xs : List (List Int)) (k : Nat) (h : k < xs.length) : (xs.take (k + 1)).flatten = (xs.take k).flatten ++ xs.getD k [] := by
  rw [List.take_add_one, List.flatten_append, List.getD_eq_getElem?_getD, List.getElem?_eq_getElem h]; simp
theorem take_flat_le (xs : List (List Int)) (k : Nat) : (xs.take k).flatten.length ≤ xs.flatten.length := by
  have h : xs.flatten = (xs.take k).flatten ++ (xs.drop k).flatten := by rw [← List.flatten_append, List.take_append_drop]
  rw [h, List.length_append]; omega
/-- How many bytes the first rows have. -/
def catLen (xs : List (List Int)) (k : Nat) : Nat := (xs.take k).flatten.length
theorem catLen_succ (xs : List (List Int)) (k : Nat) (h : k < xs.length) : catLen xs (k + 1) = catLen xs k + (xs.getD k []).length := by
  unfold catLen; rw [take_flat xs k h, List.length_append]
theorem catLen_le (xs : List (List Int)) (k : Nat) : catLen xs k ≤ catLen xs xs.length := by
  unfold catLen; rw [List.take_length]; exact take_flat_le xs k
def slices_Concat_byte_byte.f (l0 : List (List Int)) : Option (List Int) := if catLen l0 l0.length < 140737488355000 ∧ l0.length < 140737488355000 then some l0.flatten else none
set_option maxHeartbeats 2000000 in
set_option maxRecDepth 100000 in
theorem slices_Concat_byte_byte.calls (A0 : Option Addr) (c0 : Nat) (l0 : List (List Int)) (r : List Int) (w : World) (hr0 : Kd.C (Kd.slice 5 (Kd.int .u8)) w A0 l0.length l0) (hc0 : l0.length ≤ c0) (h : slices_Concat_byte_byte.f l0 = some r) :
    Calls Try.prog 26 #[.slice A0 l0.length c0] w fun e w' => ∃ v0_ : Value, e = .returned (v0_) ∧ Kd.R (Kd.int .u8) 5 w' w.heap.size (fun _ => True) v0_ r ∧ Below w.heap.size w w' := by
  have HR0 := Aside0.mk hr0
  have HC0 := Aside0.mk hc0
  clear hr0 hc0
  unfold slices_Concat_byte_byte.f at h
  by_cases hl : catLen l0 l0.length < 140737488355000 ∧ l0.length < 140737488355000
  · rw [if_pos hl] at h
    obtain rfl := Option.some.inj h
    clear h
    obtain ⟨hl, hl2⟩ := hl
    go_enter Try.func26, Try.ntmps26
    go_wp2
    go_loop [3, 11] (fun s j => ∃ k : Nat, k ≤ l0.length ∧ j = .int .i64 k ∧ s = .int .i64 (catLen l0 k)) (fun _ j => l0.length - (intOf j).toNat)
    case atStart => exact ⟨0, by omega, rfl, by simp [catLen]⟩
    case round =>
      obtain ⟨k, hk, rfl, rfl⟩ := hrel
      by_cases hlt : k < l0.length
      · obtain ⟨ad, A1, c1, rfl, hx, hc1, hr1⟩ := concat_at HR0.out k hlt
        have hle := catLen_le l0 (k + 1)
        have hs := catLen_succ l0 k hlt
        generalize hE : (l0.getD k []).length = E at *
        clear hr1
        go_wp2
        go_round
        case rel => exact ⟨k + 1, by omega, by go_num, by rw [hs]; go_num⟩
        case measure => simp [intOf]; omega
      · obtain rfl : k = l0.length := by omega
        go_wp2_with (go_at_call 35; refine (grow_nil (catLen l0 l0.length : Int) (by omega) (by omega) _).mono ?_; rintro e w3 ⟨v3, rfl, ho, hb⟩; have HO3 := Aside0.mk ho; have HB3 := Aside0.mk hb; clear ho hb)
        go_loopw [6, 27] (fun v j wr => ∃ k : Nat, k ≤ l0.length ∧ j = .int .i64 k ∧ Aside0 (Kd.R (Kd.int .u8) 5 wr w.heap.size (fun _ => True) v (l0.take k).flatten) ∧ Aside0 (Below w.heap.size w wr)) (fun _ j _ => l0.length - (intOf j).toNat)
        case atStart => exact ⟨0, by omega, rfl, HO3, HB3⟩
        case round =>
          obtain ⟨k, hk, rfl, HO4, HB4⟩ := hrel
          by_cases hlt : k < l0.length
          · obtain ⟨ad, A1, c1, rfl, hx, hc1, hr1⟩ := concat_at (Kd.C_below HR0.out HB4.out) k hlt
            have hle := catLen_le l0 (k + 1)
            have hs := catLen_succ l0 k hlt
            have hck : (l0.take k).flatten.length = catLen l0 k := rfl
            have hfl := take_flat l0 k hlt
            generalize l0.getD k [] = x at *
            have HFL := Aside0.mk hfl
            clear hfl
            have HR1 := Aside0.mk hr1
            clear hr1
            go_wp2_with ((with_reducible refine gate_dst (N := 33) rfl ?_); refine Kd.R_append_row (w0 := w) (Value.int .u8) (0 : Int) w.heap.size rfl _ _ 22 5 (.int .u8 0) 1 rfl Try.underlying22 info5 rfl (by decide) _ (l0.take k).flatten x A1 x.length c1 (fun _ => True) rfl rfl (fun _ _ => trivial) HO4.out HR1.out HB4.out (HB4.out.size) (by rw [hck]; omega) ?_; intro v5 w5 ho5 hb5 hg5 hat5; rw [← HFL.out] at ho5; have HO5 := Aside0.mk ho5; have HB5 := Aside0.mk hb5; clear ho5 hb5 hg5 hat5)
            go_roundw
            case rel => exact ⟨k + 1, by omega, by go_num, HO5, HB5⟩
            case measure => simp [intOf]; omega
          · obtain rfl : k = l0.length := by omega
            go_wp2
            go_ret
            exact ⟨_, rfl, by have h := HO4.out; rw [List.take_length] at h; exact h, HB4.out⟩
  · rw [if_neg hl] at h
    exact absurd h (by simp)

/-! ### slices_Clone_byte_byte: function 30 -/
def slices_Clone_byte_byte.f (l0 : List Int) : Option (List Int) := (some (([] : List Int) : List Int)).bind fun y102 => (if y102.length + l0.length < 140737488355328 then (some (y102 ++ l0)) else (none))
set_option maxHeartbeats 8000000 in
set_option maxRecDepth 100000 in
theorem slices_Clone_byte_byte.calls (A0 : Option Addr) (c0 : Nat) (l0 : List Int) (r : List Int) (w : World) (hr0 : Kd.C (Kd.int .u8) w A0 l0.length l0) (hc0 : l0.length ≤ c0) (h : slices_Clone_byte_byte.f l0 = some r) :
    Calls Try.prog 30 #[.slice A0 l0.length c0] w fun e w' => ∃ v0_ : Value, e = .returned (v0_) ∧ Kd.R (Kd.int .u8) 5 w' w.heap.size (fun _ => True) v0_ r ∧ Below w.heap.size w w' := by
  have HR0 := Aside0.mk hr0
  have HC0 := Aside0.mk hc0
  clear hr0 hc0
  have HB := Aside0.mk (Below.refl w.heap.size w)
  have H : ((some (([] : List Int) : List Int)).bind fun y102 => (if y102.length + l0.length < 140737488355328 then (some (y102 ++ l0)) else (none))) = some r := h
  clear h
  obtain ⟨y102, hy102⟩ : ∃ y_ : List Int, y_ = (([] : List Int)) := ⟨_, rfl⟩
  replace H : (if y102.length + l0.length < 140737488355328 then (some (y102 ++ l0)) else (none)) = some r := by first | (rw [hy102]; with_reducible exact H) | (have H2_ := (Option.bind_some _ _).symm.trans H; rw [hy102]; with_reducible exact H2_) | (have H2_ := (Option.bind_some _ _).symm.trans H; with_reducible exact H2_) | with_reducible exact H | (rw [hy102]; exact H) | exact H
  have Ny102 := Aside0.mk hy102
  clear hy102
  by_cases c2 : y102.length + l0.length < 140737488355328
  · rw [if_pos c2] at H
    have LMc2 := Aside0.mk c2
    clear c2
    obtain ⟨y105, hy105⟩ : ∃ y_ : List Int, y_ = (y102 ++ l0) := ⟨_, rfl⟩
    replace H : (some y105) = some r := by first | (rw [hy105]; with_reducible exact H) | (have H2_ := (Option.bind_some _ _).symm.trans H; rw [hy105]; with_reducible exact H2_) | (have H2_ := (Option.bind_some _ _).symm.trans H; with_reducible exact H2_) | with_reducible exact H | (rw [hy105]; exact H) | exact H
    have Ny105 := Aside0.mk hy105
    clear hy105
    obtain rfl := Option.some.inj H
    rcases A0 with _ | ad0_
    · have hz0 := Aside0.mk (List.eq_nil_of_length_eq_zero (Nat.eq_zero_of_not_pos (fun hp_ => by obtain ⟨_, e_, _⟩ := HR0.out.2.2 hp_; cases e_)))
      have hnil_ : ∀ w_ : World, (binOp .eql 22 (.slice none l0.length c0) (.slice none 0 0)).run Try.prog w_ = .ok (.bool true) w_ := fun w_ => Lib.run_eql_slice_nil w_ 22 5 none l0.length c0 0 0 Try.underlying22
      go_enter Try.func30, Try.ntmps30
      go_wp2
      go_ret
      exact ⟨_, rfl, by first | (rw [Ny105.out, hz0.out]; exact Kd.R_nil _ _ _ _ _) | (simp only [Ny105.out, Ny102.out, hz0.out, List.append_nil]; exact Kd.R_nil _ _ _ _ _), Below.refl _ _⟩
    have hnil_ : ∀ w_ : World, (binOp .eql 22 (.slice (some ad0_) l0.length c0) (.slice none 0 0)).run Try.prog w_ = .ok (.bool false) w_ := fun w_ => Lib.run_eql_slice_nil w_ 22 5 (some ad0_) l0.length c0 0 0 Try.underlying22
    go_enter Try.func30, Try.ntmps30
    go_wp2_with (first | ((with_reducible refine gate_dst (N := 5) rfl ?_); refine Kd.R_lit (Kd.int .u8) _ 5 ?hg (N := 5) ?hd (xs := ([] : List Int)) (inner := []) (ok := fun _ => True) (okp := fun _ => True) ?hr ?hp (fun _ hk => hk) trivial (Below.refl _ _) (Nat.le_refl _) (by simp) ?_; (case hd => rfl); (case hg => rfl); (case hr => first | (go_simp; done) | (go_simp; rfl)); (case hp => exact (Reps.none _ _)); intro v103 w3 ho4 hb hg_ hnew_; clear hg_ hnew_; (first | rw [← Ny102.out] at ho4 | (simp only [Int.reduceToNat] at ho4; rw [← Ny102.out] at ho4)); have n0_ := Aside0.mk (Kd.R_lower ho4 (below_size (by repeat (first | (with_reducible first | exact HB.out | apply below_alloc | apply pw_below_drewN | apply below_drew1) | exact HB.out)))); have n1_ := Aside0.mk (below_step (by repeat (first | (with_reducible first | exact HB.out | apply below_alloc | apply pw_below_drewN | apply below_drew1) | exact HB.out)) hb); clear HB; have HO104 := n0_; have HB := n1_; clear n0_ n1_; clear hb ho4) | ((with_reducible refine gate_builtin (b := .append) (xs := #[.tmp 5, .tmp 6]) rfl ?_); at_builtin; refine Kd.R_append_rows (Kd.int .u8) (w0 := w) w.heap.size rfl (.tmp 5) (.tmp 6) 22 5 (.int .u8 0) 1 rfl Try.underlying22 info5 rfl (by decide) (by omega) v103 y102 l0 _ _ _ (fun _ => True) (fun _ => False) rfl rfl ?aO ?aR (fun _ _ h => h) (fun _ h => h.elim) ?aF ?aB ?aS ?aL ?_; (case aR => repeat (first | exact (Kd.C_below HR0.out HB.out) | (with_reducible refine Kd.C_alloc ?_ _) | (with_reducible refine Kd.C_drewN ?_ _) | (with_reducible refine Kd.C_drew ?_))); (case aB => exact (by repeat (first | (with_reducible first | exact HB.out | apply below_alloc | apply pw_below_drewN | apply below_drew1) | exact HB.out))); (case aF => exact (fun _ _ => trivial)); (case aO => exact (by (with_reducible repeat (first | apply Kd.R_alloc | apply Kd.R_drewN | apply Kd.R_drew)); exact HO104.out)); (case aS => exact (below_size (by repeat (first | (with_reducible first | exact HB.out | apply below_alloc | apply pw_below_drewN | apply below_drew1) | exact HB.out)))); (case aL => have := LMc2.out; omega); intro v106 w5 ho hb hg hat; rw [← Ny105.out] at ho; have n0_ := Aside0.mk (hb); have n1_ := Aside0.mk (ho); clear HB; clear HO104; have HB := n0_; have HO107 := n1_; clear n0_ n1_; clear ho hb hg hat))
    go_ret
    exact ⟨_, by first | rfl | (simp [errW_none, errW_some] <;> rfl) | (simp [*, errW_none, errW_some] <;> rfl), by (with_reducible repeat (first | apply Kd.R_alloc | apply Kd.R_drewN | apply Kd.R_drew)); exact HO107.out, by repeat (first | (with_reducible first | exact HB.out | apply below_alloc | apply pw_below_drewN | apply below_drew1) | exact HB.out)⟩
  · rw [if_neg c2] at H
    exact absurd H (by simp)

end Go.Proofs.Ytdaieafampimhaa.Print
