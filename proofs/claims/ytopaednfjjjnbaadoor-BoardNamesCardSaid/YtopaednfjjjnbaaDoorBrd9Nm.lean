/-
  Boards: the law that appending keeps all earlier entries and returns memory of its own.
-/
import Derived.Test.YtopaednfjjjnbaaDoorBrd4Nm
namespace Go.Proofs.YtopaednfjjjnbaaDoor
open Go Go.RowKit
set_option maxRecDepth 100000

section
variable {c : Cx} {σ : Slots} {H : Blocks} {ty : TypeId} {pos : String} {af : Array Edge} {gd : Option (Nat × Bool)} {dst : Option Nat}
theorem Ev.idxS0k {T e : TypeId} {x y : Operand} {ik : IntKind} {g len cap k s : Nat} {i : Int} (hx : ev σ x = some (.slice (some ⟨g, 0, none⟩) len cap)) (hy : ev σ y = some (.int ik i)) (hu : c.P.underlying T = some (.slice e)) (hs : ∀ w, (sizeOf e).run c.P w = .ok s w)
    (hi : i = (k : Int)) (hk : k < len) : Ev c σ H ⟨dst, .indexAddr T x y, ty, pos, af, gd⟩ (.pointer (some ⟨g, k * s, none⟩)) := by
  have h := Ev.idxS (c := c) (σ := σ) (H := H) (ty := ty) (pos := pos) (af := af) (gd := gd) (dst := dst) hx hy hu hs hi hk
  rwa [add_lit, Nat.zero_add] at h
end
section
variable {A B : List OE} {o : OE} {g cap : Nat} {cs : Array Value}
end
end Go.Proofs.YtopaednfjjjnbaaDoor
