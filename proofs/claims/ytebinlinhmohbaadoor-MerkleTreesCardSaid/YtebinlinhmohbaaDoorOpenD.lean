/-
  From a row's reading of its arguments: a slice of digests.
-/
import Derived.Test.YtebinlinhmohbaaDoorOpen
import Derived.Test.YtebinlinhmohbaaDoorDig
namespace Go.Proofs.YtebinlinhmohbaaDoor
open Go Go.RowKit Go.ChangeShapes Go.WideShapes Go.ChangeAt
section
variable {H : Type} {enc : TypeId × Value → H} {P : Program} {W : World} {r : Reach} {b0 : Nat} {t e u : TypeId} {v : Value} {d : DataW H} {p : List MemPlace}
theorem trod_dig {fuel : Nat} {cs : List Value} {x : DataW H × List MemPlace} (he : P.underlying e = some (.array 32 u)) (hu : P.underlying u = some (.int .u8)) (hc : P.cellsOf u = 1) (hce : P.cellsOf e = 32)
    (h : DataW.trod enc P W 0 (fun _ => true) true fuel e cs = some x) : ∃ d : Dig, cs = d.1.map u8 := by
  obtain ⟨xs, m, rfl, hx, hlen, hxl, hel⟩ := DataW.trod_array he h
  rw [hce] at hlen
  have each : ∀ i : Nat, i < 32 → ∃ b : UInt8, cs[i]? = some (u8 b) := by
    intro i hi
    have := hel i hi
    rw [hc, Nat.mul_one] at this
    have hxi : xs[i]? = some xs[i] := List.getElem?_eq_getElem (by omega)
    rw [hxi] at this
    obtain ⟨z, hz, _, hw⟩ := DataW.trod_int hu this
    obtain ⟨b, rfl⟩ := u8_ex hw
    refine ⟨b, ?_⟩
    have := congrArg (·[0]?) hz
    simpa [List.getElem?_take, List.getElem?_drop, u8] using this
  refine ⟨⟨cs.map fun c => match c with | .int _ z => UInt8.ofNat z.toNat | _ => 0, by simpa using hlen⟩, ?_⟩
  show cs = List.map u8 (cs.map _)
  rw [List.map_map]
  apply List.ext_getElem?
  intro i
  by_cases hi : i < 32
  · obtain ⟨b, hb⟩ := each i hi
    rw [List.getElem?_map, hb]
    simp [u8]
  · rw [List.getElem?_eq_none (by omega), List.getElem?_eq_none (by simp; omega)]
theorem open_digs (ht : P.underlying t = some (.slice e)) (he : P.underlying e = some (.array 32 u)) (hu : P.underlying u = some (.int .u8)) (hc : P.cellsOf u = 1) (hce : P.cellsOf e = 32) (hv : Value.okWide P W r b0 t v)
    (h : DataW.Trod enc P W 0 (fun _ => true) true t v d p) : ∃ (oa : Option Addr) (cap : Nat) (ds : List Dig), v = .slice oa ds.length cap ∧ Dl W oa cap ds := by
  obtain ⟨a0, len, cap0, rfl⟩ := okWide_slice ht hv
  obtain ⟨fuel, hf⟩ := h
  obtain ⟨oa, cap, ds, h1, h2, _⟩ := open_elems (α := Dig) (s := 32) (by decide) (fun d => d.1.map u8) (fun _ => True) ht hce (fun d _ => by rw [List.length_map, d.2]) (fun n ds y hy => by
    obtain ⟨d, hd⟩ := trod_dig he hu hc hce hy
    exact ⟨d, hd, trivial⟩) hf
  simp [Value.cells] at h1
  obtain ⟨rfl, rfl, rfl⟩ := h1
  exact ⟨_, _, ds, rfl, h2⟩
end
end Go.Proofs.YtebinlinhmohbaaDoor
