/- Words for the contracts that are put in by hand: '==' of arrays, item by item. -/
import Derived.ChangeKeysEq
import Derived.WalkKit
import Derived.Lib.SlBytesConst
import Derived.Laws.CopyOwn
import Derived.Test.YtaiechbdcddalaaWMore
set_option linter.unusedVariables false
set_option linter.unusedSimpArgs false
namespace Go.Proofs.Ytaiechbdcddalaa.Hand
open Go.RowKit Go.Proofs.YtaiechbdcddalaaW.PrintWords Go.Proofs.YtaiechbdcddalaaW.PrintLast Go.Proofs.YtaiechbdcddalaaW.PrintMore
section
variable {P : Program} {d : Nat} {e c : Nat} {xs ys : Array Value} {i : Nat} {is : List Nat} {a b : Value} {r s : Bool} {w : World}
end
/-- 'copy(v, ys)', v a row of the call's own: what ys has goes over, as far as v is long. -/
theorem copyR {P : Program} {w0 W : World} {ops : Array Oper} {rest : List Oper} {o : Oper} {a : Act} {Q : Exit → Act → World → Prop} (hgd : o.guard = none) (d s : Operand) (dT sT : TypeId)
    (ho : o.op = .call { callee := .builtin .copy, args := #[d, s], argTypes := #[dT, sT] }) (elem : TypeId) (hu : P.underlying dT = some (.slice elem)) (hsz : (P.info? elem).map (·.size) = some 1)
    {k : IntKind} {v : Value} {xs : List Int} (hd : a.eval d = v) {sp : Option Addr} {sLen sCap : Nat} {ys : List Int} (hs : a.eval s = .slice sp sLen sCap) {base B : Nat} {ok : Nat → Prop}
    (HO : Kd.R (Kd.int k) elem W base ok v xs) (HR : Kd.C (Kd.int k) W sp sLen ys) (HB : Below B w0 W) (hB : B ≤ base)
    (h : ∀ w1, Kd.R (Kd.int k) elem w1 base ok v (ys.take (min sLen xs.length) ++ xs.drop (min sLen xs.length)) → Below B w0 w1 → W.grownBy w1 v.ownBlock → wpList P ops Q rest (a.put o.dst (goInt ((min sLen xs.length : Nat) : Int))) w1) :
    wpList P ops Q (o :: rest) a W := by
  have hyl := Kd.C_len HR
  by_cases hm : min sLen xs.length = 0
  · obtain ⟨A, c, hv, _⟩ := Kd.R_reads HO
    refine wpList_copy_nothing hgd d s dT sT ho elem hu hsz A sp xs.length c sLen sCap (hd.trans hv) hs hm ?_
    rw [hm] at h
    exact h W (by rw [List.take_zero, List.drop_zero]; exact HO) HB ⟨rfl, rfl, rfl, Nat.le_refl _, fun _ _ _ => rfl⟩
  · have hown := Kd.own_of_R HO
    obtain ⟨h1, h2⟩ := hown
    rcases h2 with ⟨hv, hn0⟩ | ⟨g, cap, cur, hv, hbase, hg, hle, hcap, hsize, htake⟩
    · exfalso; apply hm; rw [hn0]; omega
    · obtain ⟨ad, hsp, hcell⟩ := (Kd.reads_of_C (d := (0 : Int)) HR).2.2 (by omega)
      have hcurl : cur.toList.length = cap := by rw [Array.length_toList, hsize]; omega
      have hcs : ((ys.take (min sLen xs.length)).map (Value.int k)).length = Nat.min sLen xs.length := by
        rw [List.length_map, List.length_take]; show min (min sLen xs.length) ys.length = min sLen xs.length; omega
      have hcs' : ((ys.take (min sLen xs.length)).map (Value.int k)).length = min sLen xs.length := hcs
      refine wpList_copy_own hgd d s dT sT ho elem hu hsz g 0 xs.length cap ad sLen sCap (hd.trans hv) (by rw [hs, hsp]) cur elem hg ((ys.take (min sLen xs.length)).map (Value.int k)) hcs ?_ ?_ ?_ ?_
      · intro j u hj
        obtain ⟨hl, hu'⟩ := List.getElem?_eq_some_iff.1 hj
        rw [hcs'] at hl
        have := hcell j (by omega)
        rw [this, ← hu']
        simp [List.getElem_take, List.getD_eq_getElem?_getD, List.getElem?_eq_getElem (show j < ys.length by omega)]
      · rw [hcs', ← Array.length_toList, hcurl]; omega
      · intro u hu'
        obtain ⟨x, _, rfl⟩ := List.mem_map.1 hu'
        rfl
      · rw [hcs']
        have hob : v.ownBlock = some g := by rw [hv]; rfl
        refine h _ (Kd.R_of_own ?_ HO.1) ?_ ?_
        · have hlen : (ys.take (min sLen xs.length) ++ xs.drop (min sLen xs.length)).length = xs.length := by
            rw [List.length_append, List.length_take, List.length_drop]; omega
          refine ⟨by rw [encs_length]; omega, .inr ⟨g, cap, _, by rw [hlen]; exact hv, hbase, setRow_heap _ _ _ _ _ _ hg, by omega, hcap, ?_, ?_⟩⟩
          · rw [List.size_toArray]
            simp only [List.take_zero, List.nil_append, List.length_append, List.length_drop, hcs', Nat.zero_add]
            rw [hcurl]; omega
          · simp only [List.take_zero, List.nil_append, Nat.zero_add]
            rw [hlen, Nat.mul_one]
            have ht : cur.toList.take xs.length = xs.map (Value.int k) := by
              have := htake
              simpa [encs] using this
            rw [List.take_append, hcs', List.take_of_length_le (by rw [hcs']; omega)]
            have : (cur.toList.drop (min sLen xs.length)).take (xs.length - min sLen xs.length) = (cur.toList.take xs.length).drop (min sLen xs.length) := by
              rw [List.drop_take]
            rw [this, ht]
            simp [encs, List.map_drop]
        · exact ⟨HB.os, HB.tape, HB.output, by rw [setRow_size]; exact HB.size, fun i hi => by rw [setRow_other _ _ _ _ (by omega)]; exact HB.block i hi⟩
        · exact ⟨rfl, rfl, rfl, by rw [setRow_size]; exact Nat.le_refl _, fun i hi hne => by rw [setRow_other _ _ _ _ (fun e => hne (by rw [hob, e]))]⟩

/-- A string of a row that is shared. -/
theorem V_string {P : Program} {w : World} {src dst e e' : TypeId} {base : Nat} {ok : Nat → Prop} {v : Value} {xs : List Int} (hs : P.underlying src = some (.slice e)) (he : P.underlying e = some (.int .u8)) (hd : P.underlying dst = some .string)
    (h : Kd.V (Kd.int .u8) e' w base ok v xs) : (convert src dst v).run P w = .ok (.string (strOfNums xs)) w := by
  obtain ⟨A, c, rfl, hle, hF⟩ := h
  exact Kd.C_string hs he hd (Kd.F_now hF)
end Go.Proofs.Ytaiechbdcddalaa.Hand
