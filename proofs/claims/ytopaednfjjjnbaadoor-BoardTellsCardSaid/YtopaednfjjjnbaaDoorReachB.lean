/-
  From a row's reading of its arguments: boards, and how long their parts can be.
-/
import Derived.Test.YtopaednfjjjnbaaDoorPackE
import Derived.Test.YtopaednfjjjnbaaDoorReach
namespace Go.Proofs.YtopaednfjjjnbaaDoor
open Go Go.RowKit Go.ChangeShapes Go.WideShapes Go.ChangeAt
set_option maxRecDepth 100000
section
variable {H : Type} {enc : TypeId × Value → H} {W : World} {r : Reach} {b0 : Nat} {v : Value} {d : DataW H} {p : List MemPlace} {fuel : Nat} {cs : List Value} {x : DataW H × List MemPlace}
theorem bytesU8 : Tryd.prog.bytesOf 5 = 1 := by kernel_rfl
theorem trod_entryW {N : Nat} (h : DataW.trod enc Tryd.prog W 0 (fun _ => true) true fuel 30 cs = some x) (hw : (x.1.weights Tryd.prog 30).all (· ≤ N) = true) : ∃ y : Et, cs = y.cl ∧ Bs W y.o y.cap y.l ∧ y.l.length ≤ N := by
  obtain ⟨y, hy, hb⟩ := trod_entry h
  refine ⟨y, hy, hb, ?_⟩
  obtain ⟨xs, n, rfl, rfl, hl, hxl, hel⟩ := DataW.trod_struct Tryd.underlying30 h
  have hx : xs.length = 2 := hxl
  obtain ⟨x0, x1, rfl⟩ := list2 hx
  have h1 := hel 1 _ rfl
  have h2 : DataW.trod enc Tryd.prog W 0 (fun _ => true) true n 28 [.slice y.o y.l.length y.cap] = some x1 := by
    rw [hy] at h1
    have e : ∀ c : Nat, c = 1 → ((y.cl.drop 1).take c) = [.slice y.o y.l.length y.cap] := fun c hc => by subst hc; rfl
    have h3 : DataW.trod enc Tryd.prog W 0 (fun _ => true) true n 28 ((y.cl.drop 1).take (Tryd.prog.cellsOf 28)) = some x1 := h1
    rw [e _ cellsBy] at h3
    exact h3
  simp only [DataW.weights, Tryd.underlying30, List.map_cons, List.map_nil, DataW.weightsEach, List.all_append, Bool.and_eq_true] at hw
  have := slice_reach Tryd.underlying28 bytesU8 h2 hw.2.1
  omega
theorem open_boardW {N : Nat} (hv : Value.okWide Tryd.prog W r b0 24 v) (h : DataW.Trod enc Tryd.prog W 0 (fun _ => true) true 24 v d p) (hw : (d.weights Tryd.prog 24).all (· ≤ N) = true) :
    ∃ (oa : Option Addr) (cap : Nat) (xs : List Et), v = .agg #[.slice oa xs.length cap] ∧ Bd W oa cap xs ∧ ∀ y ∈ xs, y.l.length ≤ N := by
  obtain ⟨cs, rfl, _⟩ := okWide_struct Tryd.underlying24 hv
  obtain ⟨fuel, hf⟩ := h
  obtain ⟨xs, n, rfl, hxe, hl, hxl, hel⟩ := DataW.trod_struct Tryd.underlying24 hf
  obtain ⟨rfl, _⟩ := Prod.mk.inj hxe
  rw [cellsBrd] at hl
  have hx : xs.length = 1 := hxl
  obtain ⟨x0, rfl⟩ := list1 hx
  have h0 : DataW.trod enc Tryd.prog W 0 (fun _ => true) true n 22 (((Value.agg cs).cells.toList.drop 0).take (Tryd.prog.cellsOf 22)) = some x0 := hel 0 _ rfl
  simp only [cellsEs, Value.cells] at h0 hl
  obtain ⟨c0, hc0⟩ := list1 hl
  rw [hc0] at h0
  simp only [DataW.weights, Tryd.underlying24, List.map_cons, List.map_nil, DataW.weightsEach, List.all_append, Bool.and_eq_true] at hw
  obtain ⟨oa, cap, ys, h1, h2, h3⟩ := open_elemsW (α := Et) (s := 2) (N := N) (by decide) Et.cl (fun y => Bs W y.o y.cap y.l ∧ y.l.length ≤ N) Tryd.underlying22 cellsEnt (fun _ _ => rfl) (fun n ds y hy hyw => trod_entryW hy hyw) h0 hw.1
  simp at h1
  subst h1
  refine ⟨oa, cap, ys, ?_, ⟨h2, fun y hy => (h3 y hy).1⟩, fun y hy => (h3 y hy).2⟩
  congr 1
  exact Array.toList_inj.1 hc0
end
end Go.Proofs.YtopaednfjjjnbaaDoor
