/-
  The chapter's examples of trees; following a path, replacing a leaf, the root of two parts.
-/
import Derived.Test.YtopaednfjjjnbaaDoorMer4
namespace Go.Proofs.YtopaednfjjjnbaaDoor
open Go Go.RowKit
set_option maxRecDepth 100000

def oneD (c : UInt8) : Dig := ⟨List.replicate 32 c, List.length_replicate⟩
def fillC (c : UInt8) (i : Nat) : List UInt8 := List.replicate i c ++ List.replicate (32 - i) 0
theorem fillC_length (c : UInt8) {i : Nat} (h : i ≤ 32) : (fillC c i).length = 32 := by simp [fillC]; omega
theorem fillC_set (c : UInt8) {i : Nat} (h : i < 32) : (arr8 (fillC c i)).setIfInBounds i (u8 c) = arr8 (fillC c (i + 1)) := by
  rw [arr8_set]
  congr 1
  unfold fillC
  rw [show 32 - i = 32 - (i + 1) + 1 by omega, List.replicate_succ (n := 32 - (i + 1)), List.set_append_right _ _ (by simp), List.length_replicate, Nat.sub_self, List.set_cons_zero, List.replicate_succ']
  simp
theorem bel_three : bel 3 = 2 := by decide
theorem root2 (a b : Dig) : rootR [a, b] = nodeD a b := by
  rw [rootR_split (show 2 ≤ [a, b].length from Nat.le_refl _)]
  show nodeD (rootR (List.take (bel 2) [a, b])) (rootR (List.drop (bel 2) [a, b])) = _
  rw [bel_two]; rfl
theorem root3' (a b c : Dig) : rootR [a, b, c] = nodeD (nodeD a b) c := by
  rw [rootR_split (show 2 ≤ [a, b, c].length from by simp)]
  show nodeD (rootR (List.take (bel 3) [a, b, c])) (rootR (List.drop (bel 3) [a, b, c])) = _
  rw [bel_three]
  show nodeD (rootR [a, b]) (rootR [c]) = _
  rw [root2, rootR_one]
theorem root3 (a b c : Dig) : rootV [a, b, c] = nodeD (nodeD a b) c := (rootV_ok (by simp)).trans (root3' a b c)
theorem path2 (a b : Dig) : pathR [a, b] 1 = [a] := by
  rw [pathR_right (show 2 ≤ [a, b].length from Nat.le_refl _) (by show ¬ 1 < bel 2; rw [bel_two]; decide)]
  show pathR (List.drop (bel 2) [a, b]) (1 - bel 2) ++ [rootR (List.take (bel 2) [a, b])] = _
  rw [bel_two, pathR_small (by simp)]; rfl
theorem path31 (a b c : Dig) : pathV [a, b, c] 1 = [a, c] := by
  rw [pathV_ok (by simp) (by simp)]
  show pathR [a, b, c] 1 = _
  rw [pathR_left (show 2 ≤ [a, b, c].length from by simp) (by show 1 < bel 3; rw [bel_three]; decide)]
  show pathR (List.take (bel 3) [a, b, c]) 1 ++ [rootR (List.drop (bel 3) [a, b, c])] = _
  rw [bel_three]
  show pathR [a, b] 1 ++ [rootR [c]] = _
  rw [path2, rootR_one]; rfl
theorem path32 (a b c : Dig) : pathV [a, b, c] 2 = [nodeD a b] := by
  rw [pathV_ok (by simp) (by simp)]
  show pathR [a, b, c] 2 = _
  rw [pathR_right (show 2 ≤ [a, b, c].length from by simp) (by show ¬ 2 < bel 3; rw [bel_three]; decide)]
  show pathR (List.drop (bel 3) [a, b, c]) (2 - bel 3) ++ [rootR (List.take (bel 3) [a, b, c])] = _
  rw [bel_three, pathR_small (by simp)]
  show [] ++ [rootR [a, b]] = _
  rw [root2]; rfl
theorem pathV_le (ds : List Dig) (i : Int) : (pathV ds i).length ≤ ds.length := by
  unfold pathV
  split
  · exact Nat.zero_le _
  · split
    · exact Nat.zero_le _
    · exact path_le' _ _
theorem fl_over {ds : List Dig} {n : Nat} {c : Dig} (h : n < ds.length) : (fl ds).take (n * 32) ++ c.1.map u8 ++ (fl ds).drop (n * 32 + 32) = fl (ds.set n c) := by
  rw [List.set_eq_take_append_cons_drop, if_pos h, fl_take, show n * 32 + 32 = (n + 1) * 32 by omega, fl_drop, fl_append, fl_cons, List.append_assoc]
theorem Row.setD {ds : List Dig} {n : Nat} {q : Row} (c : Dig) (h : Row.ok 32 ds.length (fl ds) (some q)) (hn : n < ds.length) : Row.ok 32 (ds.set n c).length (fl (ds.set n c)) (some { q with cs := over q.cs (n * 32) (Value.agg (arr8 c.1)).cells.toList }) := by
  obtain ⟨h1, h2, h3, h4, h5⟩ := h
  have hc : (Value.agg (arr8 c.1)).cells.toList = c.1.map u8 := by simp [Value.cells, arr8]
  have hcl : (c.1.map u8).length = 32 := by rw [List.length_map, c.2]
  rw [hc]
  have hsz : (over q.cs (n * 32) (c.1.map u8)).size = q.cs.size := by
    simp only [over, List.size_toArray, List.length_append, List.length_take, List.length_drop, Array.length_toList, hcl]
    omega
  refine ⟨by rw [fl_length], by rw [List.length_set]; exact h2, h3, hsz.trans h4, ?_⟩
  rw [List.length_set, ← fl_over hn, ← h5]
  simp only [over, hcl]
  have e1 : ds.length * 32 = n * 32 + 32 + (ds.length * 32 - (n * 32 + 32)) := by omega
  rw [List.take_append, List.take_of_length_le (by simp [hcl]; omega), List.take_take, Nat.min_eq_left (by omega), List.drop_take]
  congr 2
  simp only [List.length_append, List.length_take, Array.length_toList, hcl]
  omega
section
variable {c : Cx} {σ : Slots} {H : Blocks} {ty : TypeId} {pos : String} {af : Array Edge} {gd : Option (Nat × Bool)} {dst : Option Nat}
theorem Ev.idxS0n {T e : TypeId} {x y : Operand} {ik : IntKind} {g len cap k s : Nat} {i : Int} (hx : ev σ x = some (.slice (some ⟨g, 0, none⟩) len cap)) (hy : ev σ y = some (.int ik i)) (hu : c.P.underlying T = some (.slice e)) (hs : ∀ w, (sizeOf e).run c.P w = .ok s w)
    (hi : i = (k : Int)) (hk : k < len) : Ev c σ H ⟨dst, .indexAddr T x y, ty, pos, af, gd⟩ (.pointer (some ⟨g, k * s, none⟩)) := by
  have h := Ev.idxS (c := c) (σ := σ) (H := H) (ty := ty) (pos := pos) (af := af) (gd := gd) (dst := dst) hx hy hu hs hi hk
  rwa [add_lit, Nat.zero_add] at h
end

end Go.Proofs.YtopaednfjjjnbaaDoor
