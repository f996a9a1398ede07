/-
  Nodes of trees: two digests and the digest of the two; rows of nodes; nodes compared.
-/
import Derived.Test.YtopaednfjjjnbaaDoorPackBHd
import Derived.Test.YtopaednfjjjnbaaDoorForkHd
namespace Go.Proofs.YtopaednfjjjnbaaDoor
open Go Go.RowKit

def nd (p : Dig × Dig) : List Dig := [p.1, p.2, nodeD p.1 p.2]
def npl (ps : List (Dig × Dig)) : List Dig := ps.flatMap nd
def nfl (ps : List (Dig × Dig)) : List Value := fl (npl ps)
section
variable {c : Cx} {σ : Slots} {H : Blocks} {ty : TypeId} {pos : String} {af : Array Edge} {gd : Option (Nat × Bool)} {dst : Option Nat}
end
section
variable {P : Program}
theorem run_eq8 (w : World) (d : Nat) {T e : TypeId} {n : Nat} (hT : P.underlying T = some (.array n e)) (he : P.underlying e = some (.int .u8)) (hc : P.cellsOf e = 1) {l m : List UInt8} (hl : l.length = n) (hm : m.length = n) :
    (Op.equalIn (d + 2) T (.agg (arr8 l)) (.agg (arr8 m))).run P w = .ok (decide (l = m)) w := by
  obtain ⟨j, hj⟩ := info_of_underlying he
  obtain ⟨r, hr, hiff⟩ := run_eqItems_ints w d he (l.map u8).toArray (m.map u8).toArray (List.range n) fun i hi => by
    have hi := List.mem_range.1 hi
    obtain ⟨z, hz⟩ : ∃ z, u8 (l[i]'(by omega)) = .int .u8 z := ⟨_, rfl⟩
    obtain ⟨z', hz'⟩ : ∃ z, u8 (m[i]'(by omega)) = .int .u8 z := ⟨_, rfl⟩
    exact ⟨z, z', by simp [hl, hi, hz], by simp [hm, hi, hz']⟩
  have hrl : r = decide (l = m) := by
    have : r = true ↔ l = m := by
      rw [hiff]
      constructor
      · intro h
        refine List.ext_getElem (hl.trans hm.symm) fun i h1 h2 => ?_
        have := h i (List.mem_range.2 (hl ▸ h1))
        simp [h1, h2] at this
        exact u8_inj _ _ this
      · rintro rfl i _
        rfl
    cases r <;> simp_all
  subst hrl
  rw [run_equalIn_array w (d + 1) _ _ hT hj, hc]
  exact hr
end
end Go.Proofs.YtopaednfjjjnbaaDoor
