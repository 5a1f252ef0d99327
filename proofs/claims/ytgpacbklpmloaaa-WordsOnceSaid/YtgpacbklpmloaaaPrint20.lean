-- Written by a program of this session (wip/cprint.py), which calls the kit's print and adds contracts proved by hand.
import Derived.Test.YtgpacbklpmloaaaPrint0
namespace Go.Proofs.Ytgpacbklpmloaaa.Print
open Go.RowKit Go.Proofs.YtgpacbklpmloaaaW.PrintWords Go.Proofs.YtgpacbklpmloaaaW.PrintLast Go.Proofs.YtgpacbklpmloaaaW.PrintMore
attribute [local go_sem] max2_int min2_int max_two min_two max_three min_three max_four min_four   -- for this text's walks alone
set_option linter.unusedVariables false
set_option linter.unusedSimpArgs false

-- NOT PRINTED: function 42 (creelref14_Sorted)

-- NOT PRINTED: function 28 (creellaw15_rise)

-- NOT PRINTED: function 10 (creellaw15_WordsLong)

-- NOT PRINTED: function 48 (slices_Grow_byte_byte)

/-! ### slices_Concat_byte_byte: function 46 -/
set_option maxHeartbeats 2000000 in
set_option maxRecDepth 100000 in
/-- 'Grow' of nothing: room alone. -/
theorem grow_nil (n : Int) (h0 : 0 ≤ n) (hn : n < 140737488355000) (w : World) :
    Calls Try.prog 48 #[.slice none 0 0, .int .i64 n] w fun e w' => ∃ v_ : Value, e = .returned v_ ∧ Kd.R (Kd.int .u8) 5 w' w.heap.size (fun _ => True) v_ [] ∧ Below w.heap.size w w' := by
  obtain ⟨i5, hi5, _, hsz5, _⟩ := info_parts info5
  obtain ⟨hk0, -, -⟩ := print_take_of (P := Try.prog) (Value.int .u8) (0 : Int) 27 5 .i64 Try.underlying27 hi5 hsz5 none 0 ([] : List Int) 0 (by decide) (by decide) (by decide)
  have hk0' : ∀ W : World, (Instr.slice 27 (.slice none 0 0) none (some (.int .i64 0)) none).run Try.prog W = .ok (.slice none 0 0) W := hk0
  have hz0 : ¬ n < 0 := by omega
  by_cases hp : 0 < n
  · have hl : (List.replicate n.toNat (0 : Int)).length = n.toNat := List.length_replicate ..
    go_enter Try.func48, Try.ntmps48
    go_wp2_with ((with_reducible refine gate_dst (N := 22) rfl ?_); refine Kd.R_append_zeros (Kd.int .u8) (w0 := w) w.heap.size rfl _ _ 27 3 5 (.int .u8 0) 1 rfl Try.underlying27 Try.underlying3 info5 rfl (by decide) (by decide) (.slice none 0 0) [] 0 n (fun _ => True) rfl rfl rfl (fun _ _ => trivial) (Kd.R_nil _ _ _ _ _) (by omega) (Below.refl _ _) (Nat.le_refl _) (by simp; omega) ?_; intro v1 w1 ho hb hg hat; obtain ⟨g, cap, rfl, hrest⟩ := Kd.R_form ho (by simp; omega); clear hrest hg hat; rw [List.nil_append, hl] at ho ⊢; obtain ⟨hk1, -, -⟩ := print_take_of (P := Try.prog) (Value.int .u8) (0 : Int) 27 5 .i64 Try.underlying27 hi5 hsz5 (some ⟨g, 0, none⟩) cap (List.replicate n.toNat (0 : Int)) 0 (by decide) (by omega) (by obtain ⟨_, hown⟩ := Kd.R_own ho; rw [hl]; exact own_le hown); rw [hl] at hk1; have HO1 := Aside0.mk ho; have HB1 := Aside0.mk hb; clear ho hb)
    go_ret
    exact ⟨_, rfl, by have h := Kd.R_take (m := 0) HO1.out (Nat.zero_le _); exact h, HB1.out⟩
  · obtain rfl : n = 0 := by omega
    go_enter Try.func48, Try.ntmps48
    go_wp2
    go_ret
    exact ⟨_, rfl, Kd.R_nil _ _ _ _ _, Below.refl _ _⟩
theorem concat_at {w : World} {A : Option Addr} {n : Nat} {xs : List (List Int)} (h : Kd.C (Kd.slice 5 (Kd.int .u8)) w A n xs) (k : Nat) (h1 : k < n) : ∃ ad A0 c0, A = some ad ∧ w.cell? (ad.add k) = some (.slice A0 (xs.getD k []).length c0) ∧ (xs.getD k []).length ≤ c0 ∧ (Kd.int .u8).C w A0 (xs.getD k []).length (xs.getD k []) := by
  obtain ⟨ad, c, e, _, hK, hc0⟩ := Kd.C_get h ([] : List Int) (k : Int) (by omega) (by omega)
  have hc : ∀ j u, c[j]? = some u → w.cell? (ad.add (k * 1 + j)) = some u := hc0
  obtain ⟨A0, c0, rfl, l0, g0⟩ := hK
  exact ⟨ad, A0, c0, e, by have hq := hc 0 _ rfl; rwa [Nat.mul_one, Nat.add_zero] at hq, l0, g0⟩
theorem take_flat (xs : List (List Int)) (k : Nat) (h : k < xs.length) : (xs.take (k + 1)).flatten = (xs.take k).flatten ++ xs.getD k [] := by
  rw [List.take_add_one, List.flatten_append, List.getD_eq_getElem?_getD, List.getElem?_eq_getElem h]; simp
theorem take_flat_le (xs : List (List Int)) (k : Nat) : (xs.take k).flatten.length ≤ xs.flatten.length := by
  have h : xs.flatten = (xs.take k).flatten ++ (xs.drop k).flatten := by rw [← List.flatten_append, List.take_append_drop]
  rw [h, List.length_append]; omega
/-- How many bytes the first rows have. -/
def catLen (xs : List (List Int)) (k : Nat) : Nat := (xs.take k).flatten.length
theorem catLen_succ (xs : List (List Int)) (k : Nat) (h : k < xs.length) : catLen xs (k + 1) = catLen xs k + (xs.getD k []).length := by
  unfold catLen; rw [take_flat xs k h, List.length_append]
theorem catLen_le (xs : List (List Int)) (k : Nat) : catLen xs k ≤ catLen xs xs.length := by
  unfold catLen; rw [List.take_length]; exact take_flat_le xs k
def slices_Concat_byte_byte.f (l0 : List (List Int)) : Option (List Int) := if catLen l0 l0.length < 140737488355000 ∧ l0.length < 140737488355000 then some l0.flatten else none
set_option maxHeartbeats 2000000 in
set_option maxRecDepth 100000 in
theorem slices_Concat_byte_byte.calls (A0 : Option Addr) (c0 : Nat) (l0 : List (List Int)) (r : List Int) (w : World) (hr0 : Kd.C (Kd.slice 5 (Kd.int .u8)) w A0 l0.length l0) (hc0 : l0.length ≤ c0) (h : slices_Concat_byte_byte.f l0 = some r) :
    Calls Try.prog 46 #[.slice A0 l0.length c0] w fun e w' => ∃ v0_ : Value, e = .returned (v0_) ∧ Kd.R (Kd.int .u8) 5 w' w.heap.size (fun _ => True) v0_ r ∧ Below w.heap.size w w' := by
  have HR0 := Aside0.mk hr0
  have HC0 := Aside0.mk hc0
  clear hr0 hc0
  unfold slices_Concat_byte_byte.f at h
  by_cases hl : catLen l0 l0.length < 140737488355000 ∧ l0.length < 140737488355000
  · rw [if_pos hl] at h
    obtain rfl := Option.some.inj h
    clear h
    obtain ⟨hl, hl2⟩ := hl
    go_enter Try.func46, Try.ntmps46
    go_wp2
    go_loop [3, 11] (fun s j => ∃ k : Nat, k ≤ l0.length ∧ j = .int .i64 k ∧ s = .int .i64 (catLen l0 k)) (fun _ j => l0.length - (intOf j).toNat)
    case atStart => exact ⟨0, by omega, rfl, by simp [catLen]⟩
    case round =>
      obtain ⟨k, hk, rfl, rfl⟩ := hrel
      by_cases hlt : k < l0.length
      · obtain ⟨ad, A1, c1, rfl, hx, hc1, hr1⟩ := concat_at HR0.out k hlt
        have hle := catLen_le l0 (k + 1)
        have hs := catLen_succ l0 k hlt
        generalize hE : (l0.getD k []).length = E at *
        clear hr1
        go_wp2
        go_round
        case rel => exact ⟨k + 1, by omega, by go_num, by rw [hs]; go_num⟩
        case measure => simp [intOf]; omega
      · obtain rfl : k = l0.length := by omega
        go_wp2_with (go_at_call 48; refine (grow_nil (catLen l0 l0.length : Int) (by omega) (by omega) _).mono ?_; rintro e w3 ⟨v3, rfl, ho, hb⟩; have HO3 := Aside0.mk ho; have HB3 := Aside0.mk hb; clear ho hb)
        go_loopw [6, 27] (fun v j wr => ∃ k : Nat, k ≤ l0.length ∧ j = .int .i64 k ∧ Aside0 (Kd.R (Kd.int .u8) 5 wr w.heap.size (fun _ => True) v (l0.take k).flatten) ∧ Aside0 (Below w.heap.size w wr)) (fun _ j _ => l0.length - (intOf j).toNat)
        case atStart => exact ⟨0, by omega, rfl, HO3, HB3⟩
        case round =>
          obtain ⟨k, hk, rfl, HO4, HB4⟩ := hrel
          by_cases hlt : k < l0.length
          · obtain ⟨ad, A1, c1, rfl, hx, hc1, hr1⟩ := concat_at (Kd.C_below HR0.out HB4.out) k hlt
            have hle := catLen_le l0 (k + 1)
            have hs := catLen_succ l0 k hlt
            have hck : (l0.take k).flatten.length = catLen l0 k := rfl
            have hfl := take_flat l0 k hlt
            generalize l0.getD k [] = x at *
            have HFL := Aside0.mk hfl
            clear hfl
            have HR1 := Aside0.mk hr1
            clear hr1
            go_wp2_with ((with_reducible refine gate_dst (N := 33) rfl ?_); refine Kd.R_append_row (w0 := w) (Value.int .u8) (0 : Int) w.heap.size rfl _ _ 27 5 (.int .u8 0) 1 rfl Try.underlying27 info5 rfl (by decide) _ (l0.take k).flatten x A1 x.length c1 (fun _ => True) rfl rfl (fun _ _ => trivial) HO4.out HR1.out HB4.out (HB4.out.size) (by rw [hck]; omega) ?_; intro v5 w5 ho5 hb5 hg5 hat5; rw [← HFL.out] at ho5; have HO5 := Aside0.mk ho5; have HB5 := Aside0.mk hb5; clear ho5 hb5 hg5 hat5)
            go_roundw
            case rel => exact ⟨k + 1, by omega, by go_num, HO5, HB5⟩
            case measure => simp [intOf]; omega
          · obtain rfl : k = l0.length := by omega
            go_wp2
            go_ret
            exact ⟨_, rfl, by have h := HO4.out; rw [List.take_length] at h; exact h, HB4.out⟩
  · rw [if_neg hl] at h
    exact absurd h (by simp)

end Go.Proofs.Ytgpacbklpmloaaa.Print
