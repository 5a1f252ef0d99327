/- The document's taking of labels: whatever can be taken, put again, must be the bytes. -/
import Derived.Test.YtaiechbdcddalaaSpecWords
import Derived.Test.YtaiechbdcddalaaPrint14
import Derived.Test.YtaiechbdcddalaaPrint9
set_option linter.unusedVariables false
set_option linter.unusedSimpArgs false
namespace Go.Proofs.Ytaiechbdcddalaa.Plain
open Go.RowKit Go.Proofs.Ytaiechbdcddalaa.Print Go.Proofs.YtaiechbdcddalaaW.PrintWords Go.Proofs.YtaiechbdcddalaaW.PrintLast Go.Proofs.YtaiechbdcddalaaW.PrintMore

/-- So many words, as the document takes them. -/
def refN : Nat → List Int → List Int → List (List Int) → Option (List (List Int))
  | 0, _, _, acc => some acc
  | m + 1, rest, ahead, acc => if (takeN rest).2.2 = 0 ∧ (takeN (takeN rest).2.1).2.2 = 0 ∧ (takeN rest).1 ≤ (ahead.length : Int) ∧ (takeN (takeN rest).2.1).1 ≤ ((takeN (takeN rest).2.1).2.1.length : Int) then
      refN m ((takeN (takeN rest).2.1).2.1.drop (takeN (takeN rest).2.1).1.toNat) (ahead.take (takeN rest).1.toNat ++ (takeN (takeN rest).2.1).2.1.take (takeN (takeN rest).2.1).1.toNat) (acc ++ [ahead.take (takeN rest).1.toNat ++ (takeN (takeN rest).2.1).2.1.take (takeN (takeN rest).2.1).1.toNat])
    else none
theorem refN_ev : ∀ (m : Nat) (rest ahead : List Int) (acc : List (List Int)), Bs rest → ahead.length + rest.length ≤ 1000000 → Ev (fun k => creelref15_Take.l k m rest ahead acc) (refN m rest ahead acc)
  | 0, _, _, _, _, _ => all_ev fun _ => rfl
  | m + 1, rest, ahead, acc, hb, hl => by
    obtain ⟨f0, f1, f2, f3, _⟩ := takeN_facts hb
    obtain ⟨g0, g1, g2, g3, _⟩ := takeN_facts f2
    refine Ev.congr (fun k => creelref15_Take.l.eq_2 k _ _ _ _) ?_
    refine ev_bind (ref_Take_ev rest hb (by omega)) (ev_bind (ref_Take_ev _ f2 (by omega)) (ev_pos ⟨f0, f1, g0, g1, by omega, by omega⟩ ?_))
    rw [refN]
    by_cases h : (takeN rest).2.2 = 0 ∧ (takeN (takeN rest).2.1).2.2 = 0 ∧ (takeN rest).1 ≤ (ahead.length : Int) ∧ (takeN (takeN rest).2.1).1 ≤ ((takeN (takeN rest).2.1).2.1.length : Int)
    · rw [if_pos h]
      exact ev_pos h (refN_ev m _ _ _ (g2.drop _) (by simp only [List.length_append, List.length_take, List.length_drop]; omega))
    · rw [if_neg h]
      exact ev_neg h (ev_val rfl)
theorem refN_facts (B : Nat) : ∀ (m : Nat) (rest ahead : List Int) (acc l : List (List Int)), refN m rest ahead acc = some l → Bs rest → Bs ahead → Bsl acc → ahead.length + rest.length ≤ B → (∀ x ∈ acc, x.length ≤ B) →
    Bsl l ∧ l.length = acc.length + m ∧ ∀ x ∈ l, x.length ≤ B
  | 0, _, _, acc, l, h, _, _, ha, _, hx => by
    rw [refN] at h
    obtain rfl := Option.some.inj h
    exact ⟨ha, rfl, hx⟩
  | m + 1, rest, ahead, acc, l, h, hr, hd, ha, hl, hx => by
    obtain ⟨f0, f1, f2, f3, _⟩ := takeN_facts hr
    obtain ⟨g0, g1, g2, g3, _⟩ := takeN_facts f2
    rw [refN] at h
    split at h
    · have hw : Bs (ahead.take (takeN rest).1.toNat ++ (takeN (takeN rest).2.1).2.1.take (takeN (takeN rest).2.1).1.toNat) := (hd.take _).append (g2.take _)
      have hwl : (ahead.take (takeN rest).1.toNat ++ (takeN (takeN rest).2.1).2.1.take (takeN (takeN rest).2.1).1.toNat).length ≤ B := by simp only [List.length_append, List.length_take]; omega
      obtain ⟨h1, h2, h3⟩ := refN_facts B m _ _ _ l h (g2.drop _) hw (fun x hx' => by
        rcases List.mem_append.1 hx' with h' | h'
        · exact ha x h'
        · rw [List.mem_singleton.1 h']; exact hw) (by simp only [List.length_append, List.length_take, List.length_drop]; omega) (fun x hx' => by
        rcases List.mem_append.1 hx' with h' | h'
        · exact hx x h'
        · rw [List.mem_singleton.1 h']; exact hwl)
      exact ⟨h1, by rw [h2, List.length_append, List.length_singleton]; omega, h3⟩
    · exact absurd h (by simp)
theorem refN_put (l : List (List Int)) : ∀ (a r : List Int) (acc : List (List Int)), wordsOk a l = true → refN l.length (wordsB a l ++ r) a acc = some (acc ++ l) := by
  induction l with
  | nil => intro a r acc _; simp [refN]
  | cons x l ih =>
    intro a r acc h
    unfold wordsOk at h
    rw [Bool.and_eq_true] at h
    obtain ⟨h1, h2, h3⟩ := wordOk_iff.1 h.1
    have hs := shN_le a x
    have hd : (x.drop (shN a x)).length = x.length - shN a x := List.length_drop ..
    have e1 := takeN_put (m := shN a x) (by omega) (putN (x.length - shN a x) ++ (x.drop (shN a x) ++ (wordsB x l ++ r)))
    have e2 := takeN_put (m := x.length - shN a x) (by omega) (x.drop (shN a x) ++ (wordsB x l ++ r))
    have et : (x.drop (shN a x) ++ (wordsB x l ++ r)).take (x.length - shN a x) = x.drop (shN a x) := by rw [← hd]; simp
    have ed : (x.drop (shN a x) ++ (wordsB x l ++ r)).drop (x.length - shN a x) = wordsB x l ++ r := by rw [← hd]; simp
    have hB : wordsB a (x :: l) ++ r = putN (shN a x) ++ (putN (x.length - shN a x) ++ (x.drop (shN a x) ++ (wordsB x l ++ r))) := by
      show (wordB a x ++ wordsB x l) ++ r = _
      unfold wordB
      simp only [List.append_assoc]
    rw [List.length_cons, hB, refN, e1]
    simp only [e2, Int.toNat_natCast, et, ed]
    rw [if_pos ⟨trivial, trivial, by omega, by rw [List.length_append]; omega⟩, shN_split, ih x r (acc ++ [x]) h.2]
    simp
theorem ref15_Take_ev (b : List Int) (hb : Bs b) (hl : b.length ≤ 5000) : Ev (fun k => creelref15_Take.f k b) (wordsT b) := by
  obtain ⟨f0, f1, f2, f3, _⟩ := takeN_facts hb
  refine Ev.congr (fun k => creelref15_Take.f.eq_1 k b) ?_
  refine ev_bind (ref_Take_ev b hb (by omega)) (ev_pos f0 ?_)
  by_cases h : (takeN b).2.2 = 0 ∧ (takeN b).1 ≤ 16
  · refine ev_pos h ?_
    refine ev_bind (refN_ev _ _ _ _ f2 (by simp; omega)) ?_
    cases ho : refN (takeN b).1.toNat (takeN b).2.1 [] [] with
    | none =>
      refine ev_val ?_
      rcases wordsT_only hb with ⟨l, hl1, h1, h16, hok, hT, hX⟩ | hT
      · exfalso
        rw [wordsP_ok h1 h16 hok] at hX
        have ht := takeN_put (m := l.length) (by omega) (wordsB [] l)
        have hX' : b = putN l.length ++ wordsB [] l := hX
        rw [hX', ht] at ho
        have hp := refN_put l [] [] [] hok
        rw [List.append_nil] at hp
        simp only [Int.toNat_natCast] at ho
        rw [hp] at ho
        cases ho
      · exact hT.symm
    | some l =>
      obtain ⟨hB, hlen, hx⟩ := refN_facts 5000 _ _ _ _ _ ho f2 Bs.nil (fun x hx => by simp at hx) (by simp; omega) (fun x hx => by simp at hx)
      have hL : Lens l := ⟨by simp at hlen; omega, hx⟩
      refine ev_bind (ref15_Put_ev l hB hL) ?_
      by_cases hq : (wordsP l).2 = 0 ∧ (strOfNums (wordsP l).1).toList = (strOfNums b).toList
      · refine ev_pos hq (ev_val ?_)
        have he := (sn_inj (wordsP_bs hB) hb).1 hq.2
        have h0 := hq.1
        unfold wordsP at h0
        split at h0
        · rename_i hc
          rw [← he]
          exact (wordsT_put hc.1 hc.2.1 hc.2.2).symm
        · exact absurd h0 (by simp)
      · refine ev_neg hq (ev_val ?_)
        rcases wordsT_only hb with ⟨l', hl1, h1, h16, hok, hT, hX⟩ | hT
        · exfalso
          apply hq
          have hX' : b = putN l'.length ++ wordsB [] l' := by rw [wordsP_ok h1 h16 hok] at hX; exact hX
          have ht := takeN_put (m := l'.length) (by omega) (wordsB [] l')
          rw [hX', ht] at ho
          have hp := refN_put l' [] [] [] hok
          rw [List.append_nil] at hp
          simp only [Int.toNat_natCast] at ho
          rw [hp] at ho
          obtain rfl := Option.some.inj ho
          rw [List.nil_append]
          exact ⟨by rw [wordsP_ok h1 h16 hok], by rw [← hX]⟩
        · exact hT.symm
  · refine ev_neg h (ev_val ?_)
    unfold wordsT
    rw [if_pos]
    by_cases h1 : (takeN b).2.2 = 0
    · exact .inr (.inr (by have : ¬ (takeN b).1 ≤ 16 := fun h2 => h ⟨h1, h2⟩; omega))
    · exact .inl h1

theorem Same12_loop (l : List (List Int)) (hl : l.length ≤ 100000) : ∀ (d i : Nat), i + d = l.length → Ev (fun k => creelref12_Same.l0 k l l i) true := by
  intro d
  induction d with
  | zero => intro i hi; exact Ev.step (fun k => creelref12_Same.l0.eq_2 _ _ _ _) (ev_neg (by omega) (ev_val rfl))
  | succ d ih =>
    intro i hi
    have hw : wrap64 ((i : Int) + 1) = ((i + 1 : Nat) : Int) := by rw [w64_in (by omega) (by omega)]; omega
    refine Ev.step (fun k => creelref12_Same.l0.eq_2 _ _ _ _) ?_
    rw [hw]
    clear hw
    exact ev_pos (by omega) (ev_pos (by omega) (ev_pos (by omega) (ev_pos rfl (ih (i + 1) (by omega)))))
theorem Same12_ev (l : List (List Int)) (hl : l.length ≤ 100000) : Ev (fun k => creelref12_Same.f k l l) true := by
  unfold creelref12_Same.f
  exact ev_pos rfl (Same12_loop l hl l.length 0 (by omega))

end Go.Proofs.Ytaiechbdcddalaa.Plain
