/-
  From a row's reading of its arguments: a group.
-/
import Derived.Test.YtopaednfjjjnbaaDoorPackEHd
import Derived.Test.YtopaednfjjjnbaaDoorGrpHd
namespace Go.Proofs.YtopaednfjjjnbaaDoor
open Go Go.RowKit Go.ChangeShapes Go.WideShapes Go.ChangeAt
set_option maxRecDepth 100000
theorem cellsGp : Tryd.prog.cellsOf 53 = 3 := by kernel_rfl
theorem list3 {α : Type} {l : List α} (h : l.length = 3) : ∃ a b c, l = [a, b, c] := by
  match l, h with
  | [a, b, c], _ => exact ⟨a, b, c, rfl⟩
section
variable {H : Type} {enc : TypeId × Value → H} {W : World} {r : Reach} {b0 : Nat} {v : Value} {d : DataW H} {p : List MemPlace}
theorem open_group (hv : Value.okWide Tryd.prog W r b0 53 v) (h : DataW.Trod enc Tryd.prog W 0 (fun _ => true) true 53 v d p) : ∃ g : Gp, v = .agg g.cl.toArray := by
  obtain ⟨cs, rfl, _⟩ := okWide_struct Tryd.underlying53 hv
  obtain ⟨fuel, hf⟩ := h
  obtain ⟨xs, n, rfl, _, hl, hxl, hel⟩ := DataW.trod_struct Tryd.underlying53 hf
  rw [cellsGp] at hl
  have hx : xs.length = 3 := hxl
  obtain ⟨_, h0⟩ := field_at hel 0 0 1 rfl cellsU64 (by omega)
  obtain ⟨_, h1⟩ := field_at hel 1 1 1 rfl cellsU64 (by omega)
  obtain ⟨_, h2⟩ := field_at hel 2 2 1 rfl cellsU64 (by omega)
  simp only [Value.cells] at h0 h1 h2 hl
  obtain ⟨c0, c1, c2, hc⟩ := list3 hl
  rw [hc] at h0 h1 h2
  obtain ⟨x, hx0⟩ := trod_u64 h0
  obtain ⟨y, hy0⟩ := trod_u64 h1
  obtain ⟨z, hz0⟩ := trod_u64 h2
  simp only [List.drop_zero, List.take_succ_cons, List.take_zero, List.drop_succ_cons, List.cons.injEq, and_true] at hx0 hy0 hz0
  subst hx0 hy0 hz0
  refine ⟨⟨x, y, z⟩, ?_⟩
  congr 1
  exact Array.toList_inj.1 hc
end
end Go.Proofs.YtopaednfjjjnbaaDoor
