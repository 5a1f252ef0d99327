/- Steps through a printed function, without its text being typed anew. -/
import Derived.Test.YtaiechbdcddalaaSpecTools
set_option linter.unusedVariables false
set_option linter.unusedSimpArgs false
namespace Go.Proofs.Ytaiechbdcddalaa.Plain
open Go.RowKit Go.Proofs.YtaiechbdcddalaaW.PrintWords Go.Proofs.YtaiechbdcddalaaW.PrintLast Go.Proofs.YtaiechbdcddalaaW.PrintMore

section
variable {α β : Type} {r : β}
theorem bind_got {o : Option α} {a : α} {f : α → Option β} (h : o = some a) : o.bind f = f a := by rw [h]; exact Eq.trans rfl rfl
theorem ev_pos {c : Prop} [Decidable c] {g f : Nat → Option β} (h : c) (e : Ev g r) : Ev (fun k => if c then g k else f k) r := Ev.congr (fun k => if_pos h) e
theorem ev_neg {c : Prop} [Decidable c] {g f : Nat → Option β} (h : ¬ c) (e : Ev f r) : Ev (fun k => if c then g k else f k) r := Ev.congr (fun k => if_neg h) e
theorem ev_got {o : Option α} {f : Nat → α → Option β} {a : α} (h : o = some a) (e : Ev (fun k => f k a) r) : Ev (fun k => o.bind (f k)) r := Ev.congr (fun k => bind_got h) e
theorem ev_some {a : α} {f : Nat → α → Option β} (e : Ev (fun k => f k a) r) : Ev (fun k => (some a).bind (f k)) r := ev_got rfl e
theorem ev_val {a : β} (h : a = r) : Ev (fun _ => some a) r := all_ev fun k => by rw [h]
theorem ev_bind {g : Nat → Option α} {f : Nat → α → Option β} {a : α} (h : Ev g a) (e : Ev (fun k => f k a) r) : Ev (fun k => (g k).bind (f k)) r := Ev.bind h e
end

end Go.Proofs.Ytaiechbdcddalaa.Plain
