/-
  Places counted, distinct, in a batch: the reference.
-/
import Derived.Test.YtjjoenbighmfoaaDoorSmp5Uq
namespace Go.Proofs.YtjjoenbighmfoaaDoor
open Go Go.RowKit
set_option maxRecDepth 100000

section
variable {c : Cx} {σ : Slots} {H : Blocks} {ty : TypeId} {pos : String} {af : Array Edge} {gd : Option (Nat × Bool)} {dst : Option Nat}
theorem Ev.fldP {T : TypeId} {x : Operand} {a : Addr} {i : Nat} (off : Nat) (hx : ev σ x = some (.pointer (some a))) (h : ∀ a w, (Instr.fieldAt T (.pointer (some a)) i).run c.P w = .ok (.pointer (some (a.add off))) w) :
    Ev c σ H ⟨dst, .fieldAddr T x i, ty, pos, af, gd⟩ (.pointer (some (a.add off))) := fun A w hf _ => by
  have e : execOp A.eval ⟨dst, .fieldAddr T x i, ty, pos, af, gd⟩ = (do pure (Next.value (← Instr.fieldAt T (A.eval x) i))) := rfl
  rw [e, hf.ev hx]
  simp only [Sem.run_bind, h, Result.andThen_ok, Sem.run_pure]
end
theorem JL.skipW {c : Cx} {ops : Array Oper} {σ : Slots} {H : Blocks} {l : List Oper} {Q : Post1} {o : Oper} {d : Nat} (hd : o.dst = some d) (hdn : Nat.blt d c.n = true) (g : ∀ a, Fr c.n c.ds σ a → Region.wanted o (yielded ops a.tmps) = false) (h : JL c ops ((d, undef) :: σ) H l Q) : JL c ops σ H (o :: l) Q := fun a w hf hw => by
  unfold wpListIn
  rw [if_neg (by rw [g a hf]; simp)]
  exact ⟨fun _ _ => trivial, h _ _ (by rw [hd]; exact hf.put (Nat.le_of_ble_eq_true hdn) _) hw⟩

end Go.Proofs.YtjjoenbighmfoaaDoor
