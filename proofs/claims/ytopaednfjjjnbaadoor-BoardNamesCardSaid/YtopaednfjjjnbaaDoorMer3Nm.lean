/-
  Trees in the reference: roots, paths, lengths, following; lists compared and copied.
-/
import Derived.Test.YtopaednfjjjnbaaDoorMer2Nm
import Derived.Test.YtopaednfjjjnbaaDoorPackCNm
namespace Go.Proofs.YtopaednfjjjnbaaDoor
open Go Go.RowKit
set_option maxRecDepth 100000

theorem Dl.take {w : World} {oa : Option Addr} {cap : Nat} {ds : List Dig} (h : Dl w oa cap ds) {k : Nat} (hk : k ≤ ds.length) : Dl w oa cap (ds.take k) := by
  have hl : (ds.take k).length = k := by rw [List.length_take]; omega
  have hc := h.le
  refine ⟨by omega, h.top, h.empty, fun a ha => ?_⟩
  have := (h.mem a ha).cut 0 (k * 32)
  rwa [List.drop_zero, show a.add 0 = a from by simp [Addr.add], fl_take] at this
theorem Dl.drop {w : World} {oa : Option Addr} {cap : Nat} {ds : List Dig} (h : Dl w oa cap ds) {k : Nat} (hk : k ≤ ds.length) :
    ∃ ob, sub3 oa k ds.length cap 32 = .slice ob (ds.drop k).length (cap - k) ∧ ∀ w', Dl w' oa cap ds → Dl w' ob (cap - k) (ds.drop k) := by
  obtain ⟨ob, h1, h2⟩ := sub3_cut h hk (Nat.le_refl _) h.le (Nat.le_refl _)
  have e : (ds.drop k).take (ds.length - k) = ds.drop k := List.take_of_length_le (by rw [List.length_drop]; omega)
  rw [e] at h1 h2
  exact ⟨ob, h1, h2⟩
end Go.Proofs.YtopaednfjjjnbaaDoor
