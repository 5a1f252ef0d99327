/- Edges that follow others are told behind them, and all labels have four bytes. -/
import Derived.Test.YthnjeddcnkbebaaSpecDumpItems
import Derived.Test.YthnjeddcnkbebaaPrint9
set_option linter.unusedVariables false
set_option linter.unusedSimpArgs false
namespace Go.Proofs.Ythnjeddcnkbebaa.Pure
open Go.RowKit Go.Proofs.Ythnjeddcnkbebaa.Print Go.Proofs.YthnjeddcnkbebaaW.PrintWords Go.Proofs.YthnjeddcnkbebaaW.PrintLast Go.Proofs.YthnjeddcnkbebaaW.PrintMore Go.Proofs.Ythnjeddcnkbebaa.Plain

theorem parts_loop (a b : List S36) (l : List S38) (hl : l.length ≤ 1000) (hab : l.map itemOf = a ++ b) : ∀ (d i : Nat), i + d = l.length → Ev (fun k => creellaw10_DumpParts.l0 k true a true b true (l.map itemOf) true (l.map itemOf) ((l.map itemOf).length : Int) (i : Int)) true := by
  have hlm : (l.map itemOf).length = l.length := List.length_map _
  have hlab : a.length + b.length = l.length := by rw [← List.length_append, ← hab, hlm]
  intro d
  induction d with
  | zero =>
    intro i hi
    refine Ev.step (f := fun k => if true = true then (if true = true then (if true = true then (if true = true then (if a.length + b.length < 1954687338268 then ((creelref08_SameAll.f k (l.map itemOf) (a ++ b)).bind fun t255 => (creellaw10_DumpParts.j2 k t255)) else (none)) else (creellaw10_DumpParts.j2 k false)) else (creellaw10_DumpParts.j2 k false)) else (creellaw10_DumpParts.j2 k false)) else (creellaw10_DumpParts.j2 k false)) (fun k => ?_) ?_
    · rw [creellaw10_DumpParts.l0, if_neg (by rw [hlm]; omega)]
    · refine ev_pos rfl (ev_pos rfl (ev_pos rfl (ev_pos rfl (ev_pos (by omega) (ev_bind (sameAll_ev _ _ hab (by rw [hlm]; omega)) ?_)))))
      exact some_ev fun k => by rw [creellaw10_DumpParts.j2]
  | succ d ih =>
    intro i hi
    have hlt : i < l.length := by omega
    have h1 : Ev (fun k => creellaw10_DumpParts.j1 k true a true b true (l.map itemOf) true (l.map itemOf) ((l.map itemOf).length : Int) (i : Int) false) true := by
      refine Ev.step (f := fun k => creellaw10_DumpParts.l0 k true a true b true (l.map itemOf) true (l.map itemOf) ((l.map itemOf).length : Int) ((i + 1 : Nat) : Int)) (fun k => ?_) (ih (i + 1) (by omega))
      rw [creellaw10_DumpParts.j1, if_neg (by decide), w64_in (by omega) (by omega)]
      rfl
    refine Ev.step (f := fun k => creellaw10_DumpParts.j1 k true a true b true (l.map itemOf) true (l.map itemOf) ((l.map itemOf).length : Int) (i : Int) false) (fun k => ?_) h1
    rw [creellaw10_DumpParts.l0, if_pos (by rw [hlm]; omega), if_pos (by omega), if_pos (by rw [hlm]; omega), rd36_map l i hlt]
    have e1 : (((itemOf l[i]).f1).length : Int) = 4 := by show ((edgeA _).length : Int) = 4; rw [edgeA_len]; rfl
    have e2 : (((itemOf l[i]).f2).length : Int) = 4 := by show ((edgeB _).length : Int) = 4; rw [edgeB_len]; rfl
    rw [if_pos e1, if_pos e2]
    rfl

theorem DumpParts : creellaw10_DumpParts.Pure := by
  intro l m _ hl _ hm
  refine Ev.rounds ?_
  obtain ⟨h1, h2, h3⟩ := mn100 l
  obtain ⟨g1, g2, g3⟩ := mn100 m
  have hw : WfE (l.take (mn (l.length : Int) 100).toNat) := (wfE_of hl).take _
  have hv : WfE (m.take (mn (m.length : Int) 100).toNat) := (wfE_of hm).take _
  have hn : (l.take (mn (l.length : Int) 100).toNat).length ≤ 100 := by rw [List.length_take]; omega
  have hk : (m.take (mn (m.length : Int) 100).toNat).length ≤ 100 := by rw [List.length_take]; omega
  unfold creellaw10_DumpParts.f
  refine ev_bind shown10_ev (ev_pos h2 (ev_pos h3 (ev_pos g2 (ev_pos g3 ?_))))
  generalize l.take (mn (l.length : Int) 100).toNat = x at *
  generalize m.take (mn (m.length : Int) 100).toNat = y at *
  have lx := putD_len x
  have ly := putD_len y
  have lz := putE_len y
  have lxy := putD_len (x ++ y)
  rw [List.length_append] at lxy
  refine ev_bind (dump_Put_ev x hw (by omega)) (ev_bind (dump_Put_ev y hv (by omega)) (ev_neg (by omega) (ev_got (list10 _ (by omega)) (ev_got (list10 _ (by omega)) (ev_some (ev_pos (by rw [List.length_nil]; omega) (ev_some (ev_pos (by omega) (ev_some ?_)))))))))
  rw [List.nil_append, putD_drop]
  refine ev_pos (by omega) ?_
  rw [putD_app]
  refine ev_got (list10 _ (by omega)) ?_
  rw [itemsR_put, itemsR_put, itemsR_put]
  exact parts_loop (x.map itemOf) (y.map itemOf) (x ++ y) (by rw [List.length_append]; omega) (by rw [List.map_append]) (x ++ y).length 0 (by omega)

end Go.Proofs.Ythnjeddcnkbebaa.Pure
