/-
  Several small texts in one: Row, Open, OpenD.
-/
import Derived.Test.YtjjoenbighmfoaaDoorPackAEx
import Derived.Test.YtjjoenbighmfoaaDoorCards
import Derived.Test.YtjjoenbighmfoaaDoorTie
import Derived.WalkKit
import Derived.ProofKit
import Derived.OpenShut
import Derived.Carry
import Derived.Deep.DeepHandedRow
import Derived.Lib.LaidTab
import Derived.Stop.LaidErr
import Derived.Test.YtjjoenbighmfoaaDoorPackBEx
namespace Go.Proofs.YtjjoenbighmfoaaDoor
open Go Go.RowKit Go.ChangeShapes Go.WideShapes Go.ChangeAt

section
variable {H : Type} {enc : TypeId × Value → H} {P : Program} {W : World} {r : Reach} {b0 : Nat} {t e : TypeId} {v : Value} {d : DataW H} {p : List MemPlace}

end

/-- A call that only laid new blocks: its row's conclusion. -/
theorem post_of_below {H : Type} {enc : TypeId × Value → H} {P : Program} {f : Func} {s : ChangeSpec} {apart fresh handsOn : Bool} {W W' : World} {args : Array Value} {v : Value} {ds gs : List (DataW H)} {before pa pv : List MemPlace}
    (hW : DataW.Whole enc P f.params.toList s.vars apart W args.toList ds gs before)
    (hres : ∀ (b : Nat) (sp : Nat → Bool) (hd : Bool), DataW.TrodAll enc P W' b sp hd f.resultTypes.toList (v.resultList f.resultTypes.size) (s.fn H (ds ++ gs)).results [])
    (hargs : ∀ sp : Nat → Bool, (∀ p ∈ before, sp p.block = true) → DataW.TrodAll enc P W' 0 sp true f.params.toList args.toList (s.fn H (ds ++ gs)).args pa)
    (hvars : ∀ sp : Nat → Bool, (∀ p ∈ before, sp p.block = true) → DataW.TrodVars enc P W' sp s.vars (s.fn H (ds ++ gs)).vars pv)
    (hps : before = pa ++ pv) (hb : Below W.heap.size W W') : s.post enc P f apart fresh handsOn false W args v W' := by
  have hold : ∀ p ∈ before, (fun b => decide (b < W.heap.size)) p.block = true := fun p hp => by simpa using hW.lt p hp
  refine ⟨ds, gs, before, [], pa, pv, hW, hres _ _ _, hargs _ hold, hvars _ hold, World.keptBut_mono (fun p hp => ⟨hp, ?_⟩) (hb.frame (· ∈ before)), fun h => by cases h⟩
  rw [hps, List.mem_append] at hp
  exact Or.inr hp

/-! The tables. -/
theorem own : ownKnob Tryd.prog.godebug = none := by kernel_rfl
theorem gK : Tryd.prog.globalNamed "suffrage/digest.k" = some 1 := by kernel_rfl
theorem gKType : (Tryd.prog.globals[1]?).map (·.type) = some 116 := by kernel_rfl
theorem cellsU32 : Tryd.prog.cellsOf 41 = 1 := by kernel_rfl
theorem cellsA8 : Tryd.prog.cellsOf 110 = 8 := by kernel_rfl
theorem cellsA64 : Tryd.prog.cellsOf 116 = 64 := by kernel_rfl
theorem mem_of_tab {W : World} {name : String} {g : Nat} {l : List UInt32} (h : Lib.TabIs Tryd.prog W name .u32 (l.map fun x => (x.toNat : Int))) (hg : Tryd.prog.globalNamed name = some g) :
    Mem W ⟨g, 0, none⟩ (l.map u32) := by
  intro j v hj
  rw [List.getElem?_map] at hj
  obtain ⟨x, hx, rfl⟩ := Option.map_eq_some_iff.1 hj
  have := h.cell hg j (by simpa using (List.getElem?_eq_some_iff.1 hx).1)
  rw [add_lit, Nat.zero_add, this]
  simp [List.getD_eq_getElem?_getD, hx, u32]
theorem kData {H : Type} : (Rows.laid_suffrage_digest_k : DataW H) = Lib.tabData .u32 (kTab.map fun x => (x.toNat : Int)) := rfl
theorem firstData {H : Type} : (Rows.laid_suffrage_digest_first : DataW H) = Lib.tabData .u32 (st0.l.map fun x => (x.toNat : Int)) := rfl
theorem gF : Tryd.prog.globalNamed "suffrage/digest.first" = some 0 := by kernel_rfl
theorem gFType : (Tryd.prog.globals[0]?).map (·.type) = some 110 := by kernel_rfl
theorem kMem_of {W : World} {rest : List (String × DataW Unit)} (h : laidMet Tryd.prog (("suffrage/digest.k", Rows.laid_suffrage_digest_k) :: rest) W) : KMem 1 W := by
  rw [kData] at h
  exact mem_of_tab (Lib.tabIs_of_head gK gKType Tryd.underlying116 Tryd.underlying41 cellsU32 cellsA64 h) gK
theorem fMem_of {W : World} {rest : List (String × DataW Unit)} {x : String × DataW Unit} (h : laidMet Tryd.prog (x :: ("suffrage/digest.first", Rows.laid_suffrage_digest_first) :: rest) W) : FMem 0 W := by
  have h := laidMet.tail h
  rw [firstData] at h
  exact mem_of_tab (Lib.tabIs_of_head gF gFType Tryd.underlying110 Tryd.underlying41 cellsU32 cellsA8 h) gF

/-- A world for the witness: the settled one, the tables holding what their initialisers lay. -/
noncomputable def lay (w : World) (g : Nat) (row : Array Value) : World :=
  { w with heap := w.heap.modify g fun
      | .cells _ t frozen => .cells row t frozen
      | o => o }
noncomputable def laidWorld (os : Os) (args : Array Value) : World :=
  lay (lay (World.holding Tryd.prog os ⟨#[], args, []⟩) 1 (arr32 kTab)) 0 (arr32 st0.l)
end Go.Proofs.YtjjoenbighmfoaaDoor
namespace Go.Proofs.YtjjoenbighmfoaaDoor
open Go Go.RowKit Go.ChangeShapes Go.WideShapes Go.ChangeAt

section
variable {H : Type} {enc : TypeId × Value → H} {P : Program} {W : World} {t e : TypeId} {fuel : Nat} {cs : List Value} {x : DataW H × List MemPlace}

variable {r : Reach} {b0 : Nat} {v : Value} {d : DataW H} {p : List MemPlace}
end
end Go.Proofs.YtjjoenbighmfoaaDoor
namespace Go.Proofs.YtjjoenbighmfoaaDoor
open Go Go.RowKit Go.ChangeShapes Go.WideShapes Go.ChangeAt
section
variable {H : Type} {enc : TypeId × Value → H} {P : Program} {W : World} {r : Reach} {b0 : Nat} {t e u : TypeId} {v : Value} {d : DataW H} {p : List MemPlace}
end
end Go.Proofs.YtjjoenbighmfoaaDoor
