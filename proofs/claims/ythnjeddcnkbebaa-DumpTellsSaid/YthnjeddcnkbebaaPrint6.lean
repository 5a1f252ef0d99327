-- Written by a program of this session (wip/cprint.py), which calls the kit's print and adds contracts proved by hand.
import Derived.Test.YthnjeddcnkbebaaPrint0
namespace Go.Proofs.Ythnjeddcnkbebaa.Print
open Go.RowKit Go.Proofs.YthnjeddcnkbebaaW.PrintWords Go.Proofs.YthnjeddcnkbebaaW.PrintLast Go.Proofs.YthnjeddcnkbebaaW.PrintMore
attribute [local go_sem] max2_int min2_int max_two min_two max_three min_three max_four min_four   -- for this text's walks alone
set_option linter.unusedVariables false
set_option linter.unusedSimpArgs false

/-! ### creelref10_List: function 13 -/
def creelref10_List.f (l0 : List Int) : Option (List S36) := if l0.length ≤ 1000000 then some (Hand.itemsR S36.mk l0) else none
theorem creelref10_List.info : (Try.prog.info? 36).map (fun i => (i.zero, i.size, i.bytes)) = some (some (.agg #[(.bool false), (.slice none 0 0), (.slice none 0 0), (.int .i64 0), (.int .i64 0)]), 5, 72) := by kernel_rfl
set_option maxHeartbeats 8000000 in
set_option maxRecDepth 100000 in
theorem creelref10_List.calls (A0 : Option Addr) (c0 : Nat) (l0 : List Int) (r : List S36) (w : World) (hr0 : Kd.C (Kd.int .u8) w A0 l0.length l0) (hc0 : l0.length ≤ c0) (h : creelref10_List.f l0 = some r) :
    Calls Try.prog 13 #[.slice A0 l0.length c0] w fun e w' => ∃ v0_ : Value, e = .returned (v0_) ∧ Kd.N k36 36 w' w.heap.size (fun k_ => (w.heap.size ≤ k_)) v0_ r ∧ Below w.heap.size w w' := by
  unfold creelref10_List.f at h
  by_cases hl : l0.length ≤ 1000000
  · rw [if_pos hl] at h
    obtain rfl := Option.some.inj h
    clear h
    have HR0 := Aside0.mk (Kd.C_F (Kd.heap_int .u8) hr0)
    have HC0 := Aside0.mk hc0
    have HB := Aside0.mk (Below.refl w.heap.size w)
    clear hr0 hc0
    by_cases h8 : 8 ≤ l0.length
    · have hn8 : (l0.take 8).length = 8 := by rw [List.length_take]; omega
      obtain ⟨i5, hi5, -⟩ := info_parts info5
      have hcut8 : ∀ W : World, (Instr.slice 23 (.slice A0 l0.length c0) none (some (.int .i64 8)) none).run Try.prog W = .ok (.slice A0 8 c0) W := cut_to (P := Try.prog) 23 5 .i64 Try.underlying23 hi5 A0 l0.length c0 8 (by decide) (by omega) HC0.out
      have hF8 := Kd.F_take HR0.out h8
      rw [hn8] at hF8
      have hs8 := Kd.C_string (P := Try.prog) (A := A0) (c := c0) (xs := l0.take 8) Try.underlying23 Try.underlying5 Try.underlying9 (Kd.F_now hF8)
      have d8 : decide (l0.length < 8) = false := decide_eq_false (by omega)
      have e8 : decide ((l0.length : Int) < 8) = false := decide_eq_false (by omega)
      clear hF8 hn8 hi5
      by_cases hh : (strOfNums (l0.take 8)).toList = Hand.headB
      · unfold Hand.itemsR
        rw [if_pos ⟨h8, hh⟩]
        obtain ⟨R, hR⟩ : ∃ R_, Hand.itemsN S36.mk (l0.length + 1) (l0.drop 8) 8 = R_ := ⟨_, rfl⟩
        rw [hR]
        have HRR : Aside0 (([] : List S36) ++ Hand.itemsN S36.mk (l0.length + 1) (l0.drop 8) ((8 : Nat) : Int) = R) := ⟨hR⟩
        clear hR
        have hb : ((strOfNums (l0.take 8)).toList == ([99, 114, 101, 101, 108, 100, 109, 112] : List UInt8)) = true := beq_iff_eq.mpr hh
        clear hh
        go_enter Try.func13, Try.ntmps13
        go_wp2
-- LOOPMARK
        go_loopw [3, 4] (fun v i wr => ∃ (a n : Nat) (acc : List S36), a ≤ l0.length ∧ l0.length ≤ a + n ∧ acc.length ≤ a ∧ i = .int .i64 a ∧ Aside0 (acc ++ Hand.itemsN S36.mk (n + 1) (l0.drop a) a = R) ∧ Aside0 (Kd.N k36 36 wr w.heap.size (fun k_ => (w.heap.size ≤ k_)) v acc) ∧ Aside0 (Below w.heap.size w wr)) (fun _ i _ => l0.length - (intOf i).toNat)
        case atStart => exact ⟨8, l0.length, [], h8, by omega, Nat.zero_le _, rfl, HRR, ⟨Kd.N_nil _ _ _ _ _⟩, HB⟩
        case round =>
          clear HB hs8 hb HRR
          obtain ⟨a, n, acc, ha, hn, hac, rfl, HE, HN, HB⟩ := hrel
          obtain ⟨A1, c1, rfl⟩ := Kd.N_slice HN.out
          have he := HE.out
          unfold Hand.itemsN at he
          rw [List.length_drop] at he
          by_cases hlt : a + 8 ≤ l0.length
          · rw [if_pos (by omega)] at he
            obtain ⟨m, rfl⟩ : ∃ m, n = m + 1 := ⟨n - 1, by omega⟩
            rw [List.drop_drop, List.drop_drop] at he
            have HF := Aside0.mk (Kd.F_below HR0.out HB.out)
            obtain ⟨Aa, na, ca, hna, hnca, hcuta, hFa⟩ := Hand.cut_mid (P := Try.prog) 23 .i64 .i64 Try.underlying23 (by kernel_rfl) HF.out HC0.out a (a + 4) (by omega) (by omega)
            obtain ⟨Ab, nb, cb, hnb, hncb, hcutb, hFb⟩ := Hand.cut_mid (P := Try.prog) 23 .i64 .i64 Try.underlying23 (by kernel_rfl) HF.out HC0.out (a + 4) (a + 8) (by omega) (by omega)
            have q1 : (l0.take (a + 4)).drop a = (l0.drop a).take 4 := by rw [List.drop_take]; congr 1; omega
            have q2 : (l0.take (a + 8)).drop (a + 4) = (l0.drop (a + 4)).take 4 := by rw [List.drop_take]; congr 1; omega
            rw [q1] at hna hFa
            rw [q2] at hnb hFb
            have l1 : ((l0.drop a).take 4).length ≤ 4 := List.length_take_le _ _
            have l2 : ((l0.drop (a + 4)).take 4).length ≤ 4 := List.length_take_le _ _
            generalize (l0.drop a).take 4 = p1 at *
            generalize (l0.drop (a + 4)).take 4 = p2 at *
            subst hna
            subst hnb
            rw [show ((a + 4 : Nat) : Int) = (a : Int) + 4 from by omega] at hcuta hcutb
            rw [show ((a + 8 : Nat) : Int) = (a : Int) + 8 from by omega] at hcutb
            have HFA := Aside0.mk hFa
            have HFB := Aside0.mk hFb
            have HP1 := Aside0.mk l1
            have HP2 := Aside0.mk l2
            have HE2 := Aside0.mk he
            clear he hFa hFb l1 l2 q1 q2 HE HF
            have s4 : IntKind.i64.wrap ((a : Int) + 4) = (a : Int) + 4 := IntWalk.i64_in _ (by omega)
            have s8 : IntKind.i64.wrap ((a : Int) + 8) = (a : Int) + 8 := IntWalk.i64_in _ (by omega)
            obtain ⟨v0, hv0⟩ : ∃ v_, Value.slice A1 acc.length c1 = v_ := ⟨_, rfl⟩
            rw [hv0] at HN
            rw [hv0]
            clear hv0
            go_wp2
            go_region_held3 (fun _ => True) (trivial) (first | (refine Hand.R_row_step .u8 (w0 := wr) wr.heap.size (by rfl) (.tmp 22) (.tmp 27) 23 5 (.int .u8 0) 1 (by rfl) Try.underlying23 info5 rfl (by decide) (.slice (some ⟨_, 0, none⟩) 0 0) [] p1 _ p1.length _ (fun k_ => wr.heap.size ≤ k_) (by rfl) (by rfl) (by first | exact Hand.R_lit0 _ _ wr.heap.size rfl (Nat.le_refl _) (Nat.le_refl _) | exact Kd.R_alloc (Hand.R_lit0 _ _ wr.heap.size rfl (Nat.le_refl _) (Nat.le_refl _)) _ | exact Hand.R_lit0 _ _ (wr.heap.size + 1) (World.size_alloc _ _) (Nat.le_succ _) (Nat.le_succ _)) (by repeat (first | exact Kd.F_now HFA.out | apply Kd.C_drew | refine Kd.C_alloc ?_ _)) (fun k_ hk => by (try have := HS3.out); (try simp at hk); omega) (by repeat (first | exact Below.refl _ _ | exact HB3.out | apply below_drew1 | refine Below.alloc ?_ (by first | exact HS3.out | (simp; done) | (simp; omega) | omega) _)) (by first | (simp; done) | (simp; omega)) (by have := HP1.out; simp; omega) ?_; intro v3 w3 ho hb hg hat; rw [List.nil_append] at ho; have HO3 := Aside0.mk ho; have HB3 := Aside0.mk hb; have HS3 := Aside0.mk hb.size; (first | (have HL2 := Aside0.mk (show Kd.R (Kd.int .u8) 5 w3 wr.heap.size (fun k_ => wr.heap.size ≤ k_) (.slice (some ⟨wr.heap.size + 1, 0, none⟩) 0 0) [] from Kd.R_mono (Kd.R_grown (Hand.R_own (Kd.R_drew (show Kd.R (Kd.int .u8) 5 ((wr.alloc (.cells #[] 5)).alloc (.cells #[] 5)) wr.heap.size (fun k_ => wr.heap.size ≤ k_) (.slice (some ⟨wr.heap.size + 1, 0, none⟩) 0 0) [] from Hand.R_lit0 _ _ (wr.heap.size + 1) (World.size_alloc _ _) (Nat.le_succ _) (Nat.le_succ _)))) hg (fun k_ hk e_ => by simp [Value.ownBlock] at hk e_; omega)) (fun k_ hk => by simp [Value.ownBlock] at hk; omega)); have HN2 := Aside0.mk (show some (wr.heap.size + 1) ≠ v3.ownBlock from (fun e_ => by rcases hat with h_ | ⟨b_, h_, hb_⟩ <;> (have e2_ := e_.trans h_; simp [Value.ownBlock] at e2_; try (simp at hb_; omega))))) | (have HL2 := Aside0.mk (show Kd.R (Kd.int .u8) 5 w3 wr.heap.size (fun k_ => wr.heap.size ≤ k_) (.slice (some ⟨wr.heap.size, 0, none⟩) 0 0) [] from Kd.R_mono (Kd.R_grown (Hand.R_own (Kd.R_drew (show Kd.R (Kd.int .u8) 5 ((wr.alloc (.cells #[] 5)).alloc (.cells #[] 5)) wr.heap.size (fun k_ => wr.heap.size ≤ k_) (.slice (some ⟨wr.heap.size, 0, none⟩) 0 0) [] from Kd.R_alloc (Hand.R_lit0 _ _ wr.heap.size rfl (Nat.le_refl _) (Nat.le_refl _)) _))) hg (fun k_ hk e_ => by simp [Value.ownBlock] at hk e_; omega)) (fun k_ hk => by simp [Value.ownBlock] at hk; omega)); have HN2 := Aside0.mk (show some (wr.heap.size) ≠ v3.ownBlock from (fun e_ => by rcases hat with h_ | ⟨b_, h_, hb_⟩ <;> (have e2_ := e_.trans h_; simp [Value.ownBlock] at e2_; try (simp at hb_; omega))))) | skip); clear ho hb hg hat) | (refine Hand.R_row_step .u8 (w0 := wr) wr.heap.size (by rfl) (.tmp 29) (.tmp 35) 23 5 (.int .u8 0) 1 (by rfl) Try.underlying23 info5 rfl (by decide) (.slice (some ⟨_, 0, none⟩) 0 0) [] p2 _ p2.length _ (fun k_ => wr.heap.size ≤ k_) (by rfl) (by rfl) (Hand.R_lit0 _ _ w3.heap.size rfl HS3.out HS3.out) (by repeat (first | exact Kd.C_below (Kd.F_now HFB.out) HB3.out | refine Kd.C_alloc ?_ _)) (fun k_ hk => by have := HS3.out; (try simp at hk); omega) (by repeat (first | exact Below.refl _ _ | exact HB3.out | apply below_drew1 | refine Below.alloc ?_ (by first | exact HS3.out | (simp; done) | (simp; omega) | omega) _)) (by first | exact HS3.out | (have := HS3.out; simp; omega)) (by have := HP2.out; simp; omega) ?_; intro v4 w4 ho hb hg hat; rw [List.nil_append] at ho; have HO3b := Aside0.mk (show Kd.R (Kd.int .u8) 5 w4 wr.heap.size (fun k_ => some k_ = v3.ownBlock) v3 p1 from Kd.R_grown (Kd.R_alloc (Hand.R_own HO3.out) _) hg (fun k_ hk e_ => by have := Kd.R_lt HO3.out _ hk.symm; simp [Value.ownBlock] at e_; omega)); obtain ⟨A3, c3, rfl⟩ := Kd.R_slice HO3.out; obtain ⟨A4, c4, rfl⟩ := Kd.R_slice ho; have HO4 := Aside0.mk (Hand.R_own ho); have HO4b := Aside0.mk (Kd.R_base ho); have HO3c := Aside0.mk (Kd.R_base HO3b.out); have HB4 := Aside0.mk hb; have HS4 := Aside0.mk hb.size; clear ho hb hg hat HB3 HO3; (try clear HL2); (try clear HN2)) | (refine Hand.R_row_step .u8 (w0 := wr) wr.heap.size (by rfl) (.tmp 29) (.tmp 35) 23 5 (.int .u8 0) 1 (by rfl) Try.underlying23 info5 rfl (by decide) (.slice (some ⟨_, 0, none⟩) 0 0) [] p2 _ p2.length _ (fun k_ => wr.heap.size ≤ k_) (by rfl) (by rfl) HL2.out (by repeat (first | exact Kd.C_below (Kd.F_now HFB.out) HB3.out | refine Kd.C_alloc ?_ _)) (fun k_ hk => by have := HS3.out; (try simp at hk); omega) (by repeat (first | exact Below.refl _ _ | exact HB3.out | apply below_drew1 | refine Below.alloc ?_ (by first | exact HS3.out | (simp; done) | (simp; omega) | omega) _)) (by first | exact HS3.out | (have := HS3.out; simp; omega)) (by have := HP2.out; simp; omega) ?_; intro v4 w4 ho hb hg hat; rw [List.nil_append] at ho; have HO3b := Aside0.mk (show Kd.R (Kd.int .u8) 5 w4 wr.heap.size (fun k_ => some k_ = v3.ownBlock) v3 p1 from Kd.R_grown (Hand.R_own HO3.out) hg (fun k_ hk e_ => by apply HN2.out; rw [← hk]; simp [Value.ownBlock] at e_; rw [e_])); obtain ⟨A3, c3, rfl⟩ := Kd.R_slice HO3.out; obtain ⟨A4, c4, rfl⟩ := Kd.R_slice ho; have HO4 := Aside0.mk (Hand.R_own ho); have HO4b := Aside0.mk (Kd.R_base ho); have HO3c := Aside0.mk (Kd.R_base HO3b.out); have HB4 := Aside0.mk hb; have HS4 := Aside0.mk hb.size; clear ho hb hg hat HB3 HO3; (try clear HL2); (try clear HN2)) | (refine Kd.N_append_step k36 (w0 := w) w.heap.size (by rfl) (.tmp 21) (.tmp 38) 24 36 (.agg #[(.bool false), (.slice none 0 0), (.slice none 0 0), (.int .i64 0), (.int .i64 0)]) 72 (by rfl) Try.underlying24 creelref10_List.info rfl (by decide) (by decide) v0 acc ⟨true, p1, p2, 0, 0⟩ [.bool true, .slice A3 p1.length c3, .slice A4 p2.length c4, .int .i64 0, .int .i64 0] (fun k_ => w.heap.size ≤ k_) (fun k_ => some k_ = (Value.slice A3 p1.length c3).ownBlock ∨ some k_ = (Value.slice A4 p2.length c4).ownBlock) (by rfl) (by rfl) (k36_mkF _ _ ⟨true, p1, p2, 0, 0⟩ (Kd.R_reads' HO3b.out).2.1 (Kd.F_mono (Kd.R_F HO3b.out) (fun k_ hk => .inl hk)) (Kd.R_reads' HO4.out).2.1 (Kd.F_mono (Kd.R_F HO4.out) (fun k_ hk => .inr hk))) (fun k_ hk => by have h1 : wr.heap.size ≤ k_ := (hk.elim (fun hk => HO3c.out k_ hk.symm) (fun hk => HO4b.out k_ hk.symm)); exact ⟨Nat.le_trans HB.out.size h1, fun e_ => by have := Kd.N_lt HN.out k_ e_.symm; omega⟩) (fun k_ hk => Nat.le_trans HB.out.size (Nat.le_trans HS4.out hk)) (Kd.N_below HN.out HB4.out) (below_step HB.out HB4.out) (Nat.le_trans HB.out.size HS4.out) (by omega) ?_; intro v5 w5 ho hb hg hat; have HO5 := Aside0.mk ho; have HB5 := Aside0.mk hb; clear ho hb hg hat))
            all_goals
              go_wp2
              go_roundw
              case rel => exact ⟨a + 8, m, acc ++ [⟨true, p1, p2, 0, 0⟩], by omega, by omega, by rw [List.length_append, List.length_singleton]; omega, by go_num, ⟨by rw [List.append_assoc]; exact HE2.out⟩, HO5, HB5⟩
              case measure => simp [intOf]; omega
          · rw [if_neg (by omega)] at he
            have HE2 := Aside0.mk he
            clear he HE
            have s8 : IntKind.i64.wrap ((a : Int) + 8) = (a : Int) + 8 := IntWalk.i64_in _ (by omega)
            obtain ⟨v0, hv0⟩ : ∃ v_, Value.slice A1 acc.length c1 = v_ := ⟨_, rfl⟩
            rw [hv0] at HN
            rw [hv0]
            clear hv0
            by_cases hz : a < l0.length
            · have he := HE2.out
              rw [if_pos (by omega)] at he
              have HEQ := Aside0.mk he
              clear he HE2
              go_wp2_with (first | (refine Kd.N_append k36 (w0 := w) w.heap.size rfl (.tmp 46) (.tmp 49) 24 36 (.agg #[(.bool false), (.slice none 0 0), (.slice none 0 0), (.int .i64 0), (.int .i64 0)]) 72 rfl Try.underlying24 creelref10_List.info rfl (by decide) (by decide) v0 acc ⟨false, [], [], 5, a⟩ [.bool false, .slice none 0 0, .slice none 0 0, .int .i64 5, .int .i64 a] (fun k_ => w.heap.size ≤ k_) (fun _ => False) rfl rfl (k36_mkF _ _ ⟨false, [], [], 5, a⟩ (Nat.le_refl _) (Kd.F_nil _ _ _) (Nat.le_refl _) (Kd.F_nil _ _ _)) (fun _ hk => hk.elim) (fun k_ hk => Nat.le_trans HB.out.size hk) HN.out HB.out HB.out.size (by omega) ?_; intro v5 w5 ho hb hg hat; have HO5 := Aside0.mk ho; have HB5 := Aside0.mk hb; clear ho hb hg hat))
              go_ret
              exact ⟨v5, rfl, HEQ.out ▸ HO5.out, HB5.out⟩
            · have he := HE2.out
              rw [if_neg (by omega), List.append_nil] at he
              have HEQ := Aside0.mk he
              clear he HE2
              go_wp2
              go_ret
              exact ⟨v0, rfl, HEQ.out ▸ HN.out, HB.out⟩
      · unfold Hand.itemsR
        rw [if_neg (fun h => hh h.2)]
        have hb : ((strOfNums (l0.take 8)).toList == ([99, 114, 101, 101, 108, 100, 109, 112] : List UInt8)) = false := beq_eq_false_iff_ne.mpr hh
        clear hh
        go_enter Try.func13, Try.ntmps13
        go_wp2
        go_ret
        exact ⟨_, rfl, Hand.N_lit1 (okp := fun _ => False) 36 (k36_mkF w _ ⟨false, [], [], 100, 0⟩ (Nat.le_refl _) (Kd.F_nil _ _ _) (Nat.le_refl _) (Kd.F_nil _ _ _)) (fun _ hk => hk.elim) (Nat.le_refl _) (Nat.le_refl _), (Below.refl w.heap.size w).alloc (Nat.le_refl _) _⟩
    · unfold Hand.itemsR
      rw [if_neg (fun h => h8 h.1)]
      have d8 : decide (l0.length < 8) = true := decide_eq_true (by omega)
      have e8 : decide ((l0.length : Int) < 8) = true := decide_eq_true (by omega)
      go_enter Try.func13, Try.ntmps13
      go_wp2
      go_ret
      exact ⟨_, rfl, Hand.N_lit1 (okp := fun _ => False) 36 (k36_mkF w _ ⟨false, [], [], 100, 0⟩ (Nat.le_refl _) (Kd.F_nil _ _ _) (Nat.le_refl _) (Kd.F_nil _ _ _)) (fun _ hk => hk.elim) (Nat.le_refl _) (Nat.le_refl _), (Below.refl w.heap.size w).alloc (Nat.le_refl _) _⟩
  · rw [if_neg hl] at h
    exact absurd h (by simp)

end Go.Proofs.Ythnjeddcnkbebaa.Print
