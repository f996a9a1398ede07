/-
  The laws that a walk uses most, with what is found by search left out of the text.
-/
import Derived.Test.YtebinlinhmohbaaDoorDig
namespace Go.Proofs.YtebinlinhmohbaaDoor
open Go Go.RowKit

theorem Sub.k {A H : Blocks} (h : Sub A H := by first | exact Sub.all | exact Sub.of_cnt (fun a => by (try dsimp only); simp only [cntA]; omega)) : Sub A H := h
theorem Keeps.k {σ σ' : Slots} (h : Keeps σ σ' := by repeat (first | exact Keeps.nil | refine Keeps.cons rfl ?_)) : ∀ p ∈ σ', look σ p.1 = some p.2 := h.get
theorem Upd.k {b : Nat} {o o' : Obj} {H H' : Blocks} (h : Upd b o o' H H' := by repeat (first | exact .here | apply Upd.there | apply Upd.left)) : Upd b o o' H H' := h
theorem Cut.k {A H H0 : Blocks} (h : Cut A H H0 := by repeat (first | exact .last | exact .here | apply Cut.past | apply Cut.there)) : Cut A H H0 := h
theorem memK {α : Type} {x : α} {l : List α} (h : x ∈ l := by repeat (first | exact List.Mem.head _ | refine List.Mem.tail _ ?_ | refine List.mem_append_right _ ?_ | assumption)) : x ∈ l := h
theorem szK {n k : Nat} (h : n = k := by first | rfl | exact dig_size _ | (rw [arr8_size]; first | exact sha_length _ | exact shaO_length _ | assumption)) : n = k := h
theorem oneK {vs : Array Value} (h : ∀ u ∈ vs.toList, u.oneCell' = true := by first | exact arr8_one _ | exact fun u hu => arr8_one (List.replicate 32 0) u hu | (simp; done) | (simp; exact ⟨rfl, rfl⟩)) : ∀ u ∈ vs.toList, u.oneCell' = true := h
section
variable {c : Cx} {σ : Slots} {H : Blocks} {ty : TypeId} {pos : String} {af : Array Edge} {gd : Option (Nat × Bool)} {dst : Option Nat}
theorem Ev.lB {T : TypeId} {x : Operand} {b : Nat} {cs : Array Value} {t : TypeId} {fr : Nat × Nat} {d : TypeDesc} {k : Nat} (hu : c.P.underlying T = some d) (hs : ∀ w, (sizeOf T).run c.P w = .ok k w)
    (hx : ev σ x = some (.pointer (some ⟨b, 0, none⟩)) := by exact rfl) (hb : (b, Obj.cells cs t fr) ∈ H := by exact memK) (hd : aggB d = true := by exact rfl) (hk : cs.size = k := by exact szK) : Ev c σ H ⟨dst, .load T x, ty, pos, af, gd⟩ (.agg cs) :=
  Ev.loadB hx hb hu hd hs hk
theorem Es.sA {T t : TypeId} {x y : Operand} {vs cs : Array Value} {b k : Nat} {H' : Blocks} (hs : ∀ w, (sizeOf T).run c.P w = .ok k w) (hx : ev σ x = some (.pointer (some ⟨b, 0, none⟩)) := by exact rfl) (hy : ev σ y = some (.agg vs) := by exact rfl)
    (hu : Upd b (.cells cs t (0, 0)) (.cells vs t (0, 0)) H H' := by exact Upd.k) (hv : vs.size = k := by exact szK) (hc : cs.size = k := by exact szK) (h1 : ∀ u ∈ vs.toList, u.oneCell' = true := by exact oneK) :
    Es c σ H ⟨dst, .store T x y, ty, pos, af, gd⟩ H' := Es.storeA hx hy hs hu hv hc h1
end
section
variable {c : Cx} {σ : Slots} {H : Blocks} {Q : Post1} {ops : Array Oper} {l : List Oper} {fuel : Nat} {listed : Array Bool} {ty : TypeId} {pos : String} {af : Array Edge}
theorem JL.mv {d : Nat} {x : Operand} {v : Value} (h : JL c ops ((d, v) :: σ) H l Q) (hx : ev σ x = some v := by exact rfl) (hdn : Nat.blt d c.n = true := by exact rfl) :
    JL c ops σ H ({ dst := some d, op := .move x, type := ty, pos := pos, after := af, guard := none } :: l) Q := JL.val rfl hdn rfl (.none rfl) (Ev.move hx) h
theorem JL.asg {d : Nat} {x : Operand} {v : Value} (h : JL c ops ((d, v) :: σ) H l Q) (hx : ev σ x = some v := by exact rfl) (hdn : Nat.blt d c.n = true := by exact rfl) :
    JL c ops σ H ({ dst := some d, op := .assign x, type := ty, pos := pos, after := af, guard := none } :: l) Q := JL.val rfl hdn rfl (.none rfl) (Ev.assign hx) h
theorem JA.wk {σ' : Slots} {H' : Blocks} {fuel' : Nat} {listed' : Array Bool} (h : JA c ops σ' H' fuel' listed' Q) (hfu : fuel = fuel' := by rfl) (hli : listed = listed' := by kernel_rfl) (hs : ∀ p ∈ σ', look σ p.1 = some p.2 := by exact Keeps.k) (hH : Sub H' H := by exact Sub.k) : JA c ops σ H fuel listed Q := JA.weak hfu hli hs hH h
theorem JA.one {o : Oper} (i : Nat) (h : JO c ops σ H o (wpAnyIn (Fw c.r) 7 c.P .any ops Q fuel (listed.setIfInBounds i true)) Q) (hr : Region.ready .any ops listed = [i] := by kernel_rfl) (ho : ops[i]? = some o := by exact rfl) :
    JA c ops σ H (fuel + 1) listed Q := JA.branch [i] hr rfl (JAll.cons ho h JAll.nil)
theorem JA.tk {o : Oper} (i : Nat) {d : Nat} {v : Value} (hi : ops[i]? = some o) (g : Gd ops σ o.guard true) (e : ∀ w0, Ev { c with w0 := w0 } σ [] o v) (h : JA c ops ((d, v) :: σ) H fuel (listed.setIfInBounds i true) Q)
    (hd : o.dst = some d := by exact rfl) (hdn : Nat.blt d c.n = true := by exact rfl) (hnd : allKept ops = true := by kernel_rfl) (hs : Region.noSelect ops = true := by kernel_rfl) (hf : Region.free .any ops listed i = true := by kernel_rfl) (hr : (Region.ready .any ops listed).contains i = true := by kernel_rfl)
    (hQ : ∀ ch a w, Q (.panic ch) (a.put o.dst v) w → Q (.panic ch) a w := by exact fun _ _ _ h => h) (hab : ∀ w (a : Act), o.about c.P w a.eval = none := by exact fun _ _ => rfl) : JA c ops σ H (fuel + 1) listed Q :=
  JA.takeR i hnd hi hd hdn hs hf hr hQ hab g e h
theorem JA.tkc {o : Oper} (i : Nat) {d : Nat} {v : Value} (hi : ops[i]? = some o) (g : Gd ops σ o.guard true) (e : ∀ w0, Ev { c with w0 := w0 } σ [] o v) (h : JA c ops ((d, v) :: σ) H fuel (listed.setIfInBounds i true) Q)
    (hQ : ∀ ch a w, Q (.panic ch) (a.put o.dst v) w → Q (.panic ch) a w := by exact fun _ _ _ h => absurd h.1 (by simp)) (hd : o.dst = some d := by exact rfl) (hdn : Nat.blt d c.n = true := by exact rfl) (hnd : allKept ops = true := by kernel_rfl) (hs : Region.noSelect ops = true := by kernel_rfl)
    (hf : Region.free .any ops listed i = true := by kernel_rfl) (hr : (Region.ready .any ops listed).contains i = true := by kernel_rfl) (hab : ∀ w (a : Act), o.about c.P w a.eval = none := by exact fun _ _ => rfl) : JA c ops σ H (fuel + 1) listed Q :=
  JA.takeR i hnd hi hd hdn hs hf hr hQ hab g e h
end
end Go.Proofs.YtebinlinhmohbaaDoor
