/-
  The laws that a walk uses most, with what is found by search left out of the text.
-/
import Derived.Test.YtimegpilihfghaaDoorDig
namespace Go.Proofs.YtimegpilihfghaaDoor
open Go Go.RowKit

theorem Sub.k {A H : Blocks} (h : Sub A H := by first | exact Sub.all | exact Sub.of_cnt (fun a => by (try dsimp only); simp only [cntA]; omega)) : Sub A H := h
theorem Keeps.k {σ σ' : Slots} (h : Keeps σ σ' := by repeat (first | exact Keeps.nil | refine Keeps.cons rfl ?_)) : ∀ p ∈ σ', look σ p.1 = some p.2 := h.get
theorem Upd.k {b : Nat} {o o' : Obj} {H H' : Blocks} (h : Upd b o o' H H' := by repeat (first | exact .here | apply Upd.there | apply Upd.left)) : Upd b o o' H H' := h
theorem Cut.k {A H H0 : Blocks} (h : Cut A H H0 := by repeat (first | exact .last | exact .here | apply Cut.past | apply Cut.there)) : Cut A H H0 := h
theorem memK {α : Type} {x : α} {l : List α} (h : x ∈ l := by repeat (first | exact List.Mem.head _ | refine List.Mem.tail _ ?_ | refine List.mem_append_right _ ?_ | assumption)) : x ∈ l := h
theorem szK {n k : Nat} (h : n = k := by first | rfl | exact dig_size _ | (rw [arr8_size]; first | exact sha_length _ | exact shaO_length _ | assumption)) : n = k := h
theorem oneK {vs : Array Value} (h : ∀ u ∈ vs.toList, u.oneCell' = true := by first | exact arr8_one _ | exact fun u hu => arr8_one (List.replicate 32 0) u hu | (simp; done) | (simp; exact ⟨rfl, rfl⟩)) : ∀ u ∈ vs.toList, u.oneCell' = true := h
section
variable {c : Cx} {σ : Slots} {H : Blocks} {ty : TypeId} {pos : String} {af : Array Edge} {gd : Option (Nat × Bool)} {dst : Option Nat}
theorem Ev.lB {T : TypeId} {x : Operand} {b : Nat} {cs : Array Value} {t : TypeId} {fr : Nat × Nat} {d : TypeDesc} {k : Nat} (hu : c.P.underlying T = some d) (hs : ∀ w, (sizeOf T).run c.P w = .ok k w)
    (hx : ev σ x = some (.pointer (some ⟨b, 0, none⟩)) := by exact rfl) (hb : (b, Obj.cells cs t fr) ∈ H := by exact memK) (hd : aggB d = true := by exact rfl) (hk : cs.size = k := by exact szK) : Ev c σ H ⟨dst, .load T x, ty, pos, af, gd⟩ (.agg cs) :=
  Ev.loadB hx hb hu hd hs hk
theorem Es.sA {T t : TypeId} {x y : Operand} {vs cs : Array Value} {b k : Nat} {H' : Blocks} (hs : ∀ w, (sizeOf T).run c.P w = .ok k w) (hx : ev σ x = some (.pointer (some ⟨b, 0, none⟩)) := by exact rfl) (hy : ev σ y = some (.agg vs) := by exact rfl)
    (hu : Upd b (.cells cs t (0, 0)) (.cells vs t (0, 0)) H H' := by exact Upd.k) (hv : vs.size = k := by exact szK) (hc : cs.size = k := by exact szK) (h1 : ∀ u ∈ vs.toList, u.oneCell' = true := by exact oneK) :
    Es c σ H ⟨dst, .store T x y, ty, pos, af, gd⟩ H' := Es.storeA hx hy hs hu hv hc h1
end
end Go.Proofs.YtimegpilihfghaaDoor
