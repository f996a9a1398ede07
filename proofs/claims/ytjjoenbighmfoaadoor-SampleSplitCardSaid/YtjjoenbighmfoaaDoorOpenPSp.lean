/-
  From a row's reading of its arguments: numbers, places.
-/
import Derived.Test.YtjjoenbighmfoaaDoorPackESp
import Derived.Test.YtjjoenbighmfoaaDoorPlcSp
namespace Go.Proofs.YtjjoenbighmfoaaDoor
open Go Go.RowKit Go.ChangeShapes Go.WideShapes Go.ChangeAt
set_option maxRecDepth 100000

theorem cellsIntP : Tryd.prog.cellsOf 3 = 1 := by kernel_rfl
section
variable {H : Type} {enc : TypeId × Value → H} {W : World} {r : Reach} {b0 : Nat} {v : Value} {d : DataW H} {p : List MemPlace} {fuel : Nat} {cs : List Value} {x : DataW H × List MemPlace}
theorem open_ints (hv : Value.okWide Tryd.prog W r b0 28 v) (h : DataW.Trod enc Tryd.prog W 0 (fun _ => true) true 28 v d p) : ∃ (oa : Option Addr) (cap : Nat) (ss : List Int), v = .slice oa ss.length cap ∧ Cs W oa ss.length cap (ints ss) := by
  obtain ⟨a0, len, cap0, rfl⟩ := okWide_slice Tryd.underlying28 hv
  obtain ⟨fuel, hf⟩ := h
  obtain ⟨oa, cap, ps, h1, h2, _⟩ := open_elems (α := Int) (s := 1) (by decide) (fun z => [Value.int .i64 z]) (fun _ => True) Tryd.underlying28 cellsIntP (fun _ _ => rfl) (fun n ds y hy => by
    obtain ⟨z, hz, _, _⟩ := DataW.trod_int Tryd.underlying3 hy
    exact ⟨z, hz, trivial⟩) hf
  simp [Value.cells] at h1
  obtain ⟨rfl, rfl, rfl⟩ := h1
  have e1 : ps.flatMap (fun z => [Value.int .i64 z]) = ints ps := by
    rw [← List.map_eq_flatMap]
    rfl
  rw [e1] at h2
  exact ⟨_, _, ps, rfl, h2⟩
end
end Go.Proofs.YtjjoenbighmfoaaDoor
