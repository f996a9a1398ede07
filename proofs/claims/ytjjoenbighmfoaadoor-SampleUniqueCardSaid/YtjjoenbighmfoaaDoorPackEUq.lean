/-
  Several small texts in one: Row, Open.
-/
import Derived.Test.YtjjoenbighmfoaaDoorPackAUq
import Derived.Test.YtjjoenbighmfoaaDoorCards
import Derived.Test.YtjjoenbighmfoaaDoorTie
import Derived.WalkKit
import Derived.ProofKit
import Derived.OpenShut
import Derived.Carry
import Derived.Deep.DeepHandedRow
import Derived.Lib.LaidTab
import Derived.Stop.LaidErr
namespace Go.Proofs.YtjjoenbighmfoaaDoor
open Go Go.RowKit Go.ChangeShapes Go.WideShapes Go.ChangeAt

section
variable {H : Type} {enc : TypeId × Value → H} {P : Program} {W : World} {r : Reach} {b0 : Nat} {t e : TypeId} {v : Value} {d : DataW H} {p : List MemPlace}

end

/-- A call that only laid new blocks: its row's conclusion. -/
theorem post_of_below {H : Type} {enc : TypeId × Value → H} {P : Program} {f : Func} {s : ChangeSpec} {apart fresh handsOn : Bool} {W W' : World} {args : Array Value} {v : Value} {ds gs : List (DataW H)} {before pa pv : List MemPlace}
    (hW : DataW.Whole enc P f.params.toList s.vars apart W args.toList ds gs before)
    (hres : ∀ (b : Nat) (sp : Nat → Bool) (hd : Bool), DataW.TrodAll enc P W' b sp hd f.resultTypes.toList (v.resultList f.resultTypes.size) (s.fn H (ds ++ gs)).results [])
    (hargs : ∀ sp : Nat → Bool, (∀ p ∈ before, sp p.block = true) → DataW.TrodAll enc P W' 0 sp true f.params.toList args.toList (s.fn H (ds ++ gs)).args pa)
    (hvars : ∀ sp : Nat → Bool, (∀ p ∈ before, sp p.block = true) → DataW.TrodVars enc P W' sp s.vars (s.fn H (ds ++ gs)).vars pv)
    (hps : before = pa ++ pv) (hb : Below W.heap.size W W') : s.post enc P f apart fresh handsOn false W args v W' := by
  have hold : ∀ p ∈ before, (fun b => decide (b < W.heap.size)) p.block = true := fun p hp => by simpa using hW.lt p hp
  refine ⟨ds, gs, before, [], pa, pv, hW, hres _ _ _, hargs _ hold, hvars _ hold, World.keptBut_mono (fun p hp => ⟨hp, ?_⟩) (hb.frame (· ∈ before)), fun h => by cases h⟩
  rw [hps, List.mem_append] at hp
  exact Or.inr hp

/-! The tables. -/
theorem own : ownKnob Tryd.prog.godebug = none := by kernel_rfl
theorem laidOut : laidOutB Tryd.prog = true := by kernel_rfl
theorem gK : Tryd.prog.globalNamed "suffrage/digest.k" = some 1 := by kernel_rfl
theorem gKType : (Tryd.prog.globals[1]?).map (·.type) = some 116 := by kernel_rfl
theorem cellsU32 : Tryd.prog.cellsOf 41 = 1 := by kernel_rfl
theorem cellsA8 : Tryd.prog.cellsOf 110 = 8 := by kernel_rfl
theorem cellsA64 : Tryd.prog.cellsOf 116 = 64 := by kernel_rfl
theorem mem_of_tab {W : World} {name : String} {g : Nat} {l : List UInt32} (h : Lib.TabIs Tryd.prog W name .u32 (l.map fun x => (x.toNat : Int))) (hg : Tryd.prog.globalNamed name = some g) :
    Mem W ⟨g, 0, none⟩ (l.map u32) := by
  intro j v hj
  rw [List.getElem?_map] at hj
  obtain ⟨x, hx, rfl⟩ := Option.map_eq_some_iff.1 hj
  have := h.cell hg j (by simpa using (List.getElem?_eq_some_iff.1 hx).1)
  rw [add_lit, Nat.zero_add, this]
  simp [List.getD_eq_getElem?_getD, hx, u32]
theorem kData {H : Type} : (Rows.laid_suffrage_digest_k : DataW H) = Lib.tabData .u32 (kTab.map fun x => (x.toNat : Int)) := rfl
theorem firstData {H : Type} : (Rows.laid_suffrage_digest_first : DataW H) = Lib.tabData .u32 (st0.l.map fun x => (x.toNat : Int)) := rfl
theorem gF : Tryd.prog.globalNamed "suffrage/digest.first" = some 0 := by kernel_rfl
theorem gFType : (Tryd.prog.globals[0]?).map (·.type) = some 110 := by kernel_rfl
theorem kMem_of {W : World} {rest : List (String × DataW Unit)} (h : laidMet Tryd.prog (("suffrage/digest.k", Rows.laid_suffrage_digest_k) :: rest) W) : KMem 1 W := by
  rw [kData] at h
  exact mem_of_tab (Lib.tabIs_of_head gK gKType Tryd.underlying116 Tryd.underlying41 cellsU32 cellsA64 h) gK
theorem fMem_of {W : World} {rest : List (String × DataW Unit)} {x : String × DataW Unit} (h : laidMet Tryd.prog (x :: ("suffrage/digest.first", Rows.laid_suffrage_digest_first) :: rest) W) : FMem 0 W := by
  have h := laidMet.tail h
  rw [firstData] at h
  exact mem_of_tab (Lib.tabIs_of_head gF gFType Tryd.underlying110 Tryd.underlying41 cellsU32 cellsA8 h) gF

/-- A world for the witness: the settled one, the tables holding what their initialisers lay. -/
noncomputable def lay (w : World) (g : Nat) (row : Array Value) : World :=
  { w with heap := w.heap.modify g fun
      | .cells _ t frozen => .cells row t frozen
      | o => o }
noncomputable def laidWorld (os : Os) (args : Array Value) : World :=
  lay (lay (World.holding Tryd.prog os ⟨#[], args, []⟩) 1 (arr32 kTab)) 0 (arr32 st0.l)
end Go.Proofs.YtjjoenbighmfoaaDoor
namespace Go.Proofs.YtjjoenbighmfoaaDoor
open Go Go.RowKit Go.ChangeShapes Go.WideShapes Go.ChangeAt

theorem add_add (a : Addr) (k j : Nat) : (a.add k).add j = a.add (k + j) := by
  unfold Addr.add
  by_cases h0 : k = 0
  · subst h0; simp
  · by_cases h1 : j = 0
    · subst h1; simp
    · have h2 : ¬ k + j = 0 := by omega
      simp [h0, h1, Nat.add_assoc]

/-- A cell of a flattened list. -/
theorem flatMap_get {α : Type} {s : Nat} (hs : 0 < s) (enc : α → List Value) : ∀ (ps : List α), (∀ p ∈ ps, (enc p).length = s) → ∀ (j : Nat) (v : Value), (ps.flatMap enc)[j]? = some v → ∃ p, ps[j / s]? = some p ∧ (enc p)[j % s]? = some v
  | [], _, j, v, h => by simp at h
  | p :: ps, hp, j, v, h => by
    have h1 := hp p (List.mem_cons_self ..)
    rw [List.flatMap_cons] at h
    rcases Nat.lt_or_ge j s with hj | hj
    · rw [List.getElem?_append_left (by omega)] at h
      exact ⟨p, by rw [Nat.div_eq_of_lt hj]; rfl, by rw [Nat.mod_eq_of_lt hj]; exact h⟩
    · rw [List.getElem?_append_right (by omega), h1] at h
      obtain ⟨q, hq, hv⟩ := flatMap_get hs enc ps (fun q hq => hp q (List.mem_cons_of_mem _ hq)) (j - s) v h
      have e1 : j / s = (j - s) / s + 1 := by
        conv => lhs; rw [show j = j - s + s from by omega]
        rw [Nat.add_div_right _ hs]
      have e2 : j % s = (j - s) % s := by
        conv => lhs; rw [show j = j - s + s from by omega]
        rw [Nat.add_mod_right]
      exact ⟨q, by rw [e1]; simpa using hq, by rw [e2]; exact hv⟩

section
variable {H : Type} {enc : TypeId × Value → H} {P : Program} {W : World} {t e : TypeId} {fuel : Nat} {cs : List Value} {x : DataW H × List MemPlace}

theorem open_elems {α : Type} {s : Nat} (hs0 : 0 < s) (en : α → List Value) (Ok : α → Prop) (ht : P.underlying t = some (.slice e)) (hc : P.cellsOf e = s) (hen : ∀ p, Ok p → (en p).length = s)
    (hel : ∀ n ds y, DataW.trod enc P W 0 (fun _ => true) true n e ds = some y → ∃ p, ds = en p ∧ Ok p) (h : DataW.trod enc P W 0 (fun _ => true) true fuel t cs = some x) :
    ∃ (oa : Option Addr) (cap : Nat) (ps : List α), cs = [.slice oa ps.length cap] ∧ Cs W oa ps.length cap (ps.flatMap en) ∧ ∀ p ∈ ps, Ok p := by
  rcases DataW.trod_slice ht h with ⟨rfl, _⟩ | ⟨a, len, cap, elems, rest, n, _, rfl, _, hb, hl, hm, hlen, he, _, _⟩
  · exact ⟨none, 0, [], rfl, cs_nil, by simp⟩
  · have key : ∀ k, k ≤ len → ∃ ps : List α, ps.length = k ∧ ∀ i p, ps[i]? = some p → W.cells? 0 (a.add (i * s)) s = some (en p) ∧ Ok p := by
      intro k
      induction k with
      | zero => intro _; exact ⟨[], rfl, fun i p h => by simp at h⟩
      | succ k ih =>
        intro hk
        obtain ⟨ps, h1, h2⟩ := ih (by omega)
        have hk1 := he k (by omega)
        rw [List.getElem?_eq_getElem (by omega), hc, Option.bind_eq_some_iff] at hk1
        obtain ⟨ds, hds, hy⟩ := hk1
        obtain ⟨p, rfl, hp⟩ := hel _ _ _ hy
        refine ⟨ps ++ [p], by simp [h1], fun i q hq => ?_⟩
        rcases Nat.lt_or_ge i ps.length with hi | hi
        · rw [List.getElem?_append_left hi] at hq; exact h2 i q hq
        · rw [List.getElem?_append_right hi] at hq
          have e : i = k := by
            have := (List.getElem?_eq_some_iff.1 hq).1
            simp at this
            omega
          subst e
          rw [h1, Nat.sub_self] at hq
          obtain rfl := Option.some.inj hq
          exact ⟨hds, hp⟩
    obtain ⟨ps, h1, h2⟩ := key len (Nat.le_refl _)
    subst h1
    have hok : ∀ p ∈ ps, Ok p := fun p hp => by
      obtain ⟨i, hi⟩ := List.getElem?_of_mem hp
      exact (h2 i p hi).2
    refine ⟨some a, cap, ps, rfl, ⟨hl, hm, fun h => (by cases h), fun a' ha => ?_⟩, hok⟩
    obtain rfl := Option.some.inj ha
    intro j v hj
    obtain ⟨p, hp, hv⟩ := flatMap_get hs0 en ps (fun p hp => hen p (hok p hp)) j v hj
    have h3 := (World.cells?_some (h2 _ p hp).1).2.2 (j % s) (Nat.mod_lt _ hs0)
    rw [add_add, Nat.mul_comm, Nat.div_add_mod] at h3
    rw [h3]
    exact hv

variable {r : Reach} {b0 : Nat} {v : Value} {d : DataW H} {p : List MemPlace}
end
end Go.Proofs.YtjjoenbighmfoaaDoor
