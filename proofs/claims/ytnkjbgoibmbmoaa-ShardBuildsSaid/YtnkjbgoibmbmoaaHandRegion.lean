/- A region in whatever order, by what each operation yields: every operation is walked once, in whatever world the others may have left. -/
import Derived.OrdersIn
set_option linter.unusedVariables false
namespace Go.Proofs.Ytnkjbgoibmbmoaa.Hand
def upd (f : Nat → Value) (i : Nat) (v : Value) : Nat → Value := fun j => if j = i then v else f j
theorem upd_same (f : Nat → Value) (i : Nat) (v : Value) : upd f i v i = v := if_pos rfl
theorem upd_other (f : Nat → Value) {i j : Nat} (v : Value) (h : j ≠ i) : upd f i v j = f j := if_neg h
/-- A f: the frame where operation j has yielded 'f j'; V j v w: 'v' is what operation j may yield (it stays so); Iw: what all operations leave as it is. -/
theorem region_inv {F : Fence} {n : Nat} {P : Program} {ops : Array Oper} {Q : Exit → Act → World → Prop} (A : (Nat → Value) → Act) (V : Nat → Value → World → Prop) (Iw : World → Prop)
    (hdep : ∀ (i : Nat) (o : Oper), ops[i]? = some o → ∀ e ∈ o.after, e.on < i)
    (hstep : ∀ (i : Nat) (o : Oper) (f : Nat → Value) (w : World) (L : Nat → Prop), ops[i]? = some o → Iw w → (∀ j, L j → V j (f j) w) → (∀ e ∈ o.after, Region.binds .any e = true → L e.on) →
      wpOpIn F n P ops Q i (fun a' w' => ∃ v, a' = A (upd f i v) ∧ V i v w' ∧ Iw w' ∧ ∀ j v, V j v w → V j v w') (A f) w)
    (hfin : ∀ (f : Nat → Value) (w : World), Iw w → (∀ j, j < ops.size → V j (f j) w) → Q .normal (A f) w) :
    ∀ (fuel : Nat) (listed : Array Bool) (f : Nat → Value) (w : World), listed.size = ops.size → listed.toList.count false ≤ fuel → Iw w → (∀ j, listed.getD j false = true → V j (f j) w) → wpAnyIn F n P .any ops Q fuel listed (A f) w := by
  have hall : ∀ listed : Array Bool, listed.size = ops.size → Region.ready .any ops listed = [] → ∀ j, j < ops.size → listed.getD j false = true := by
    intro listed hs hr j
    induction j using Nat.strongRecOn with
    | _ j ih =>
      intro hj
      cases h : listed.getD j false with
      | true => rfl
      | false =>
        have hm : j ∈ Region.ready .any ops listed := mem_ready.2 ⟨by
          simp only [Array.getD, hs, hj, dif_pos] at h ⊢
          exact h, ops[j], Array.getElem?_eq_getElem hj, fun e he _ => ih e.on (hdep j _ (Array.getElem?_eq_getElem hj) e he) (Nat.lt_trans (hdep j _ (Array.getElem?_eq_getElem hj) e he) hj)⟩
        rw [hr] at hm
        exact absurd hm List.not_mem_nil
  have hlt : ∀ (listed : Array Bool) (i : Nat), listed.size = ops.size → i ∈ Region.ready .any ops listed → ∃ h : i < listed.size, listed[i] = false := by
    intro listed i hs hi
    obtain ⟨h0, _⟩ := mem_ready.1 hi
    rcases Nat.lt_or_ge i listed.size with h | h
    · exact ⟨h, by simpa [Array.getD, h] using h0⟩
    · simp [Array.getD, Nat.not_lt.2 h] at h0
  intro fuel
  induction fuel with
  | zero =>
    intro listed f w hs hc hI hV
    have hr : Region.ready .any ops listed = [] := by
      cases hr : Region.ready .any ops listed with
      | nil => rfl
      | cons i l =>
        obtain ⟨h, hf⟩ := hlt listed i hs (by rw [hr]; exact List.mem_cons_self)
        have : false ∈ listed.toList := by rw [← hf]; exact List.getElem_mem (by simpa using h)
        have := List.count_pos_iff.2 this
        omega
    exact ⟨hr, hfin f w hI fun j hj => hV j (hall listed hs hr j hj)⟩
  | succ fuel ih =>
    intro listed f w hs hc hI hV
    refine ⟨fun hr => hfin f w hI fun j hj => hV j (hall listed hs hr j hj), fun i hi => ?_⟩
    obtain ⟨hlti, hf⟩ := hlt listed i hs hi
    obtain ⟨_, o, ho, hd⟩ := mem_ready.1 hi
    refine wpOpIn_mono ?_ (hstep i o f w (fun j => listed.getD j false = true) ho hI hV hd)
    rintro a' w' ⟨v, rfl, hv, hI', hst⟩
    refine ih _ _ _ (by simpa using hs) ?_ hI' ?_
    · have h1 : (listed.setIfInBounds i true).toList = listed.toList.set i true := by simp
      rw [h1, List.count_set (by simpa using hlti)]
      have h2 : (listed.toList[i]'(by simpa using hlti)) = false := by simpa using hf
      have h3 : false ∈ listed.toList := by rw [← h2]; exact List.getElem_mem _
      have h4 := List.count_pos_iff.2 h3
      rw [h2, if_pos (by decide), if_neg (by decide)]
      omega
    · intro j hj
      by_cases hji : j = i
      · subst hji; rw [upd_same]; exact hv
      · rw [upd_other _ _ hji]
        refine hst _ _ (hV j ?_)
        rwa [getD_set_ne false (Ne.symm hji)] at hj
/-- All that an operation waits for stands ahead of it. -/
def depOk (l : List Oper) : Bool := (List.range l.length).all fun i => match l[i]? with | some o => o.after.all (fun e => decide (e.on < i)) | none => true
theorem depOk_spec {l : List Oper} (h : depOk l = true) : ∀ (i : Nat) (o : Oper), l.toArray[i]? = some o → ∀ e ∈ o.after, e.on < i := fun i o ho e he => by
  have ho' : l[i]? = some o := by simpa using ho
  have h1 := List.all_eq_true.1 h i (List.mem_range.2 (List.getElem?_eq_some_iff.1 ho').1)
  rw [ho'] at h1
  have h2 := Array.all_eq_true'.1 h1 e he
  exact of_decide_eq_true h2
/-- One operation, whatever follows. -/
theorem opIn_of {F : Fence} {n : Nat} {P : Program} {ops : Array Oper} {Q : Exit → Act → World → Prop} {i : Nat} {o : Oper} {K0 : Act → World → Prop} {a : Act} {w : World} (ho : ops[i]? = some o)
    (h : ∀ K : Act → World → Prop, (∀ a w, K0 a w → K a w) → if Region.wanted o (yielded ops a.tmps) = true then o.wpIn F n P a w K Q else (∀ f, o.about P w a.eval = some f → F.fn f) ∧ K (a.put o.dst undef) w) : wpOpIn F n P ops Q i K0 a w := by
  unfold wpOpIn
  rw [ho]
  exact h K0 (fun _ _ h => h)
end Go.Proofs.Ytnkjbgoibmbmoaa.Hand
