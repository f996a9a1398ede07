/-
  From a row's reading of its arguments: numbers, places.
-/
import Derived.Test.YtjjoenbighmfoaaDoorPackEUq
import Derived.Test.YtjjoenbighmfoaaDoorPlcUq
namespace Go.Proofs.YtjjoenbighmfoaaDoor
open Go Go.RowKit Go.ChangeShapes Go.WideShapes Go.ChangeAt
set_option maxRecDepth 100000

theorem cellsIntP : Tryd.prog.cellsOf 3 = 1 := by kernel_rfl
theorem cellsPlP : Tryd.prog.cellsOf 27 = 2 := by kernel_rfl
section
variable {H : Type} {enc : TypeId × Value → H} {W : World} {r : Reach} {b0 : Nat} {v : Value} {d : DataW H} {p : List MemPlace} {fuel : Nat} {cs : List Value} {x : DataW H × List MemPlace}
theorem field_atP {P : Program} {t : TypeId} {fs : Array Field} {xs : List (DataW H × List MemPlace)} {n : Nat} (hel : ∀ (i : Nat) (f : Field), fs[i]? = some f → DataW.trod enc P W 0 (fun _ => true) true n f.type ((cs.drop f.offset).take (P.cellsOf f.type)) = xs[i]?)
    (i off s : Nat) (hf : (fs[i]?).map (fun f => (f.type, f.offset)) = some (t, off)) (hc : P.cellsOf t = s) (hx : i < xs.length) : ∃ y, DataW.trod enc P W 0 (fun _ => true) true n t ((cs.drop off).take s) = some y := by
  obtain ⟨f, h1, h2⟩ := Option.map_eq_some_iff.1 hf
  have h3 := hel i f h1
  obtain ⟨rfl, rfl⟩ := Prod.mk.inj h2
  rw [List.getElem?_eq_getElem hx, hc] at h3
  exact ⟨_, h3⟩
theorem list2P {α : Type} {l : List α} (h : l.length = 2) : ∃ a b, l = [a, b] := by
  match l, h with
  | [a, b], _ => exact ⟨a, b, rfl⟩
theorem trod_place (h : DataW.trod enc Tryd.prog W 0 (fun _ => true) true fuel 27 cs = some x) : ∃ y : Pl, cs = plc y := by
  obtain ⟨xs, n, rfl, _, hl, hxl, hel⟩ := DataW.trod_struct Tryd.underlying27 h
  rw [cellsPlP] at hl
  obtain ⟨c0, c1, rfl⟩ := list2P hl
  have hx : xs.length = 2 := hxl
  obtain ⟨_, h0⟩ := field_atP hel 0 0 1 rfl cellsIntP (by omega)
  obtain ⟨_, h1⟩ := field_atP hel 1 1 1 rfl cellsIntP (by omega)
  obtain ⟨z, hz, _, _⟩ := DataW.trod_int Tryd.underlying3 h0
  obtain ⟨z2, hz2, _, _⟩ := DataW.trod_int Tryd.underlying3 h1
  have hz' : c0 = .int .i64 z := by simpa using hz
  have hz2' : c1 = .int .i64 z2 := by simpa using hz2
  subst hz' hz2'
  exact ⟨(z, z2), rfl⟩
theorem open_places (hv : Value.okWide Tryd.prog W r b0 22 v) (h : DataW.Trod enc Tryd.prog W 0 (fun _ => true) true 22 v d p) : ∃ (oa : Option Addr) (cap : Nat) (ps : List Pl), v = .slice oa ps.length cap ∧ Pz W oa cap ps := by
  obtain ⟨a0, len, cap0, rfl⟩ := okWide_slice Tryd.underlying22 hv
  obtain ⟨fuel, hf⟩ := h
  obtain ⟨oa, cap, ps, h1, h2, _⟩ := open_elems (α := Pl) (s := 2) (by decide) plc (fun _ => True) Tryd.underlying22 cellsPlP (fun _ _ => rfl) (fun n ds y hy => by
    obtain ⟨q, hq⟩ := trod_place hy
    exact ⟨q, hq, trivial⟩) hf
  simp [Value.cells] at h1
  obtain ⟨rfl, rfl, rfl⟩ := h1
  exact ⟨_, _, ps, rfl, h2⟩
end
end Go.Proofs.YtjjoenbighmfoaaDoor
