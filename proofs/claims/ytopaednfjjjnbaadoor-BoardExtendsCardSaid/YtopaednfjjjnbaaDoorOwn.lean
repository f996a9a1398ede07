/-
  Boards of the call's own: laid, appended to, read.
-/
import Derived.Test.YtopaednfjjjnbaaDoorHead
namespace Go.Proofs.YtopaednfjjjnbaaDoor
open Go Go.RowKit

theorem rowv_cells (n : Nat) (r : Option Row) : (Row.v n r).cells = #[Row.v n r] := by cases r <;> rfl
theorem rowv_one (n : Nat) (r : Option Row) : (Row.v n r).oneCell' = true := by cases r <;> rfl
theorem OE.one (x : OE) : ∀ u ∈ x.cl, u.oneCell' = true := by
  intro u hu
  simp only [OE.cl, List.mem_cons, List.not_mem_nil, or_false] at hu
  rcases hu with rfl | rfl
  · rfl
  · exact rowv_one _ _
theorem oeD_one (t : TypeId) (k : UInt8) (q : Option Row) (l : List UInt8) : oeD t [⟨k, q, l⟩] = Row.b t q := List.append_nil _
theorem oef_one (x : OE) : oef [x] = x.cl := List.append_nil _
theorem Upd.assoc {b : Nat} {o o' : Obj} {A B C H' : Blocks} (h : Upd b o o' (A ++ (B ++ C)) H') : Upd b o o' ((A ++ B) ++ C) H' := by rw [List.append_assoc]; exact h
theorem Cut.assoc {A B C D H0 : Blocks} (h : Cut A (B ++ (C ++ D)) H0) : Cut A ((B ++ C) ++ D) H0 := by rw [List.append_assoc]; exact h
/-- A board that the call has laid. -/
def OwnB (e t : TypeId) (es : List Ent) (v : Value) (H : Blocks) : Prop :=
  ∃ (r : Option Row) (os : List OE), v = .agg #[Row.v os.length r] ∧ H = Row.b e r ++ oeD t os ∧ Row.ok 2 os.length (oef os) r ∧ (∀ o ∈ os, o.ok) ∧ os.map OE.e = es
section
variable {c : Cx} {σ : Slots} {H : Blocks} {ty : TypeId} {pos : String} {af : Array Edge} {gd : Option (Nat × Bool)} {dst : Option Nat}
/-- A struct of two fields of one cell each. -/
theorem Ev.bu2 {T : TypeId} {fs : Array Field} {x y : Operand} {v1 v2 z1 z2 : Value} (hx : ev σ x = some v1) (hy : ev σ y = some v2) (h1 : v1.cells = #[v1]) (h2 : v2.cells = #[v2]) (hu : c.P.underlying T = some (.struct fs))
    (hpl : ∀ w, (fs.mapM fun f => (do pure (f.offset, ← sizeOf f.type) : Sem (Nat × Nat))).run c.P w = .ok #[(0, 1), (1, 1)] w)
    (hz : ∀ w, (zeroValue T).run c.P w = .ok (.agg #[z1, z2]) w) : Ev c σ H ⟨dst, .build T #[(0, x), (1, y)], ty, pos, af, gd⟩ (.agg #[v1, v2]) := by
  refine Ev.build (parts := [(0, x), (1, y)]) (vs := [(0, v1), (1, v2)]) ?_ ?_
  · intro A hf
    simp [hf.ev hx, hf.ev hy]
  · intro w
    have hg : Instr.fill ((#[(0, 1), (1, 1)] : Array (Nat × Nat))[·]?) #[z1, z2] [(0, v1), (1, v2)] = some #[v1, v2] := by
      rw [fill_step (v := v1) (off := 0) (size := 1) rfl (by rw [h1]; rfl) (by simp), fill_step (v := v2) (off := 1) (size := 1) rfl (by rw [h2]; rfl) (by rw [setR_size]; simp), h1, h2]
      rfl
    simp only [Instr.build, Sem.run_bind, hz w, Result.andThen_ok, run_underlying hu, hpl w]
    show (match Instr.fill ((#[(0, 1), (1, 1)] : Array (Nat × Nat))[·]?) #[z1, z2] [(0, v1), (1, v2)] with | some cells => pure (.agg cells) | _ => stuck _ : Sem Value).run c.P w = _
    rw [hg]
    rfl
theorem En.bs1E {T e : TypeId} {x : Operand} {o : OE} {z : Value} (hx : ev σ x = some (.agg o.cl.toArray)) (hT : c.P.underlying T = some (.slice e)) (hs : ∀ w, (sizeOf e).run c.P w = .ok 2 w)
    (hz : ∀ w, (zeroValue e).run c.P w = .ok z w) :
    En c σ H ⟨dst, .buildSlice T 1 #[(0, x)], ty, pos, af, gd⟩ (fun g => .slice (some ⟨g, 0, none⟩) 1 1) (.cells o.cl.toArray e (0, 0)) := by
  have h := En.bsA (c := c) (σ := σ) (H := H) (dst := dst) (ty := ty) (pos := pos) (af := af) (gd := gd) (parts := [(0, x)]) (vs := [.agg o.cl.toArray]) (n := 1) (s := 2) (by simp [evs, hx]) rfl hT hs hz (fun v hv => by
    obtain rfl := List.mem_singleton.1 hv
    rfl) (by decide) (by decide) (by decide)
  exact h
end
end Go.Proofs.YtopaednfjjjnbaaDoor
