/-
  Fields joined, in the program and in the reference.
-/
import Derived.Test.YtjjoenbighmfoaaDoorOct2Uq
namespace Go.Proofs.YtjjoenbighmfoaaDoor
open Go Go.RowKit
set_option maxRecDepth 100000

theorem Row.bs {w0 : World} {e : TypeId} {n : Nat} {l : List UInt8} {r : Option Row} (h : Row.ok 1 n (l.map u8) r) : ∃ oa cap, Row.v n r = .slice oa l.length cap ∧ ∀ {H : Blocks} (w : World), Hp w0 H w → (∀ p ∈ Row.b e r, p ∈ H) → Bs w oa cap l := by
  cases r with
  | none =>
    obtain ⟨rfl, h2⟩ := h
    obtain rfl : l = [] := by simpa using h2
    exact ⟨none, 0, rfl, fun _ _ _ => bs_nil⟩
  | some r =>
    have hn : n = l.length := by have := h.1; simpa using this.symm
    subst hn
    exact ⟨some ⟨r.g, 0, none⟩, r.cap, rfl, fun w hw hm => ⟨h.2.1, h.2.2.1, fun h => (by cases h), fun a ha => by
      cases ha
      refine Mem.own hw (hm _ (List.mem_cons_self ..)) fun j v hj => ?_
      rw [← h.2.2.2.2, List.getElem?_take] at hj
      split at hj
      · simpa using hj
      · cases hj⟩⟩

end Go.Proofs.YtjjoenbighmfoaaDoor
