/-
  Several small texts in one: Row, Open, OpenD, OpenB.
-/
import Derived.Test.YtopaednfjjjnbaaDoorPackAHd
import Derived.Test.YtopaednfjjjnbaaDoorCards
import Derived.Test.YtopaednfjjjnbaaDoorTie
import Derived.WalkKit
import Derived.ProofKit
import Derived.OpenShut
import Derived.Carry
import Derived.Deep.DeepHandedRow
import Derived.Lib.LaidTab
import Derived.Stop.LaidErr
import Derived.Test.YtopaednfjjjnbaaDoorPackBHd
namespace Go.Proofs.YtopaednfjjjnbaaDoor
open Go Go.RowKit Go.ChangeShapes Go.WideShapes Go.ChangeAt

theorem wf_u8 {n : Int} (h : (Lit.int .u8 n).wf = true) : 0 ≤ n ∧ n < 256 := by
  simp [Lit.wf, IntKind.min, IntKind.max, IntKind.signed, IntKind.bits] at h
  omega
theorem wf_u64 {n : Int} (h : (Lit.int .u64 n).wf = true) : 0 ≤ n ∧ n < 18446744073709551616 := by
  simp [Lit.wf, IntKind.min, IntKind.max, IntKind.signed, IntKind.bits] at h
  omega
theorem wf_i64 {n : Int} (h : (Lit.int .i64 n).wf = true) : -9223372036854775808 ≤ n ∧ n ≤ 9223372036854775807 := by
  simp [Lit.wf, IntKind.min, IntKind.max, IntKind.signed, IntKind.bits] at h
  omega
theorem u8_ex {n : Int} (h : (Lit.int .u8 n).wf = true) : ∃ x : UInt8, n = (x.toNat : Int) := by
  have := wf_u8 h
  exact ⟨UInt8.ofNat n.toNat, by rw [UInt8.toNat_ofNat']; omega⟩
theorem u64_ex {n : Int} (h : (Lit.int .u64 n).wf = true) : ∃ x : UInt64, n = (x.toNat : Int) := by
  have := wf_u64 h
  exact ⟨UInt64.ofNat n.toNat, by rw [UInt64.toNat_ofNat']; omega⟩
section
variable {H : Type} {enc : TypeId × Value → H} {P : Program} {W : World} {r : Reach} {b0 : Nat} {t e : TypeId} {v : Value} {d : DataW H} {p : List MemPlace}

end

/-- A call that only laid new blocks: its row's conclusion. -/
theorem post_of_below {H : Type} {enc : TypeId × Value → H} {P : Program} {f : Func} {s : ChangeSpec} {apart fresh handsOn : Bool} {W W' : World} {args : Array Value} {v : Value} {ds gs : List (DataW H)} {before pa pv : List MemPlace}
    (hW : DataW.Whole enc P f.params.toList s.vars apart W args.toList ds gs before)
    (hres : ∀ (b : Nat) (sp : Nat → Bool) (hd : Bool), DataW.TrodAll enc P W' b sp hd f.resultTypes.toList (v.resultList f.resultTypes.size) (s.fn H (ds ++ gs)).results [])
    (hargs : ∀ sp : Nat → Bool, (∀ p ∈ before, sp p.block = true) → DataW.TrodAll enc P W' 0 sp true f.params.toList args.toList (s.fn H (ds ++ gs)).args pa)
    (hvars : ∀ sp : Nat → Bool, (∀ p ∈ before, sp p.block = true) → DataW.TrodVars enc P W' sp s.vars (s.fn H (ds ++ gs)).vars pv)
    (hps : before = pa ++ pv) (hb : Below W.heap.size W W') : s.post enc P f apart fresh handsOn false W args v W' := by
  have hold : ∀ p ∈ before, (fun b => decide (b < W.heap.size)) p.block = true := fun p hp => by simpa using hW.lt p hp
  refine ⟨ds, gs, before, [], pa, pv, hW, hres _ _ _, hargs _ hold, hvars _ hold, World.keptBut_mono (fun p hp => ⟨hp, ?_⟩) (hb.frame (· ∈ before)), fun h => by cases h⟩
  rw [hps, List.mem_append] at hp
  exact Or.inr hp

/-! The tables. -/
theorem own : ownKnob Tryd.prog.godebug = none := by kernel_rfl
theorem laidOut : laidOutB Tryd.prog = true := by kernel_rfl
theorem gK : Tryd.prog.globalNamed "suffrage/digest.k" = some 1 := by kernel_rfl
theorem gKType : (Tryd.prog.globals[1]?).map (·.type) = some 214 := by kernel_rfl
theorem cellsU8 : Tryd.prog.cellsOf 5 = 1 := by kernel_rfl
theorem cellsU32 : Tryd.prog.cellsOf 102 = 1 := by kernel_rfl
theorem cellsA8 : Tryd.prog.cellsOf 192 = 8 := by kernel_rfl
theorem cellsB32 : Tryd.prog.cellsOf 33 = 32 := by kernel_rfl
theorem cellsA64 : Tryd.prog.cellsOf 214 = 64 := by kernel_rfl
theorem mem_of_tab {W : World} {name : String} {g : Nat} {l : List UInt32} (h : Lib.TabIs Tryd.prog W name .u32 (l.map fun x => (x.toNat : Int))) (hg : Tryd.prog.globalNamed name = some g) :
    Mem W ⟨g, 0, none⟩ (l.map u32) := by
  intro j v hj
  rw [List.getElem?_map] at hj
  obtain ⟨x, hx, rfl⟩ := Option.map_eq_some_iff.1 hj
  have := h.cell hg j (by simpa using (List.getElem?_eq_some_iff.1 hx).1)
  rw [add_lit, Nat.zero_add, this]
  simp [List.getD_eq_getElem?_getD, hx, u32]
theorem kData {H : Type} : (Rows.laid_suffrage_digest_k : DataW H) = Lib.tabData .u32 (kTab.map fun x => (x.toNat : Int)) := rfl
theorem firstData {H : Type} : (Rows.laid_suffrage_digest_first : DataW H) = Lib.tabData .u32 (st0.l.map fun x => (x.toNat : Int)) := rfl
theorem gF : Tryd.prog.globalNamed "suffrage/digest.first" = some 0 := by kernel_rfl
theorem gFType : (Tryd.prog.globals[0]?).map (·.type) = some 192 := by kernel_rfl
theorem kMem_of {W : World} {rest : List (String × DataW Unit)} (h : laidMet Tryd.prog (("suffrage/digest.k", Rows.laid_suffrage_digest_k) :: rest) W) : KMem 1 W := by
  rw [kData] at h
  exact mem_of_tab (Lib.tabIs_of_head gK gKType Tryd.underlying214 Tryd.underlying102 cellsU32 cellsA64 h) gK
theorem fMem_of {W : World} {rest : List (String × DataW Unit)} {x : String × DataW Unit} (h : laidMet Tryd.prog (x :: ("suffrage/digest.first", Rows.laid_suffrage_digest_first) :: rest) W) : FMem 0 W := by
  have h := laidMet.tail h
  rw [firstData] at h
  exact mem_of_tab (Lib.tabIs_of_head gF gFType Tryd.underlying192 Tryd.underlying102 cellsU32 cellsA8 h) gF

/-- A world for the witness: the settled one, the tables holding what their initialisers lay. -/
noncomputable def lay (w : World) (g : Nat) (row : Array Value) : World :=
  { w with heap := w.heap.modify g fun
      | .cells _ t frozen => .cells row t frozen
      | o => o }
noncomputable def laidWorld (os : Os) (args : Array Value) : World :=
  lay (lay (World.holding Tryd.prog os ⟨#[], args, []⟩) 1 (arr32 kTab)) 0 (arr32 st0.l)
end Go.Proofs.YtopaednfjjjnbaaDoor
namespace Go.Proofs.YtopaednfjjjnbaaDoor
open Go Go.RowKit Go.ChangeShapes Go.WideShapes Go.ChangeAt

theorem add_add (a : Addr) (k j : Nat) : (a.add k).add j = a.add (k + j) := by
  unfold Addr.add
  by_cases h0 : k = 0
  · subst h0; simp
  · by_cases h1 : j = 0
    · subst h1; simp
    · have h2 : ¬ k + j = 0 := by omega
      simp [h0, h1, Nat.add_assoc]

/-- A cell of a flattened list. -/
theorem flatMap_get {α : Type} {s : Nat} (hs : 0 < s) (enc : α → List Value) : ∀ (ps : List α), (∀ p ∈ ps, (enc p).length = s) → ∀ (j : Nat) (v : Value), (ps.flatMap enc)[j]? = some v → ∃ p, ps[j / s]? = some p ∧ (enc p)[j % s]? = some v
  | [], _, j, v, h => by simp at h
  | p :: ps, hp, j, v, h => by
    have h1 := hp p (List.mem_cons_self ..)
    rw [List.flatMap_cons] at h
    rcases Nat.lt_or_ge j s with hj | hj
    · rw [List.getElem?_append_left (by omega)] at h
      exact ⟨p, by rw [Nat.div_eq_of_lt hj]; rfl, by rw [Nat.mod_eq_of_lt hj]; exact h⟩
    · rw [List.getElem?_append_right (by omega), h1] at h
      obtain ⟨q, hq, hv⟩ := flatMap_get hs enc ps (fun q hq => hp q (List.mem_cons_of_mem _ hq)) (j - s) v h
      have e1 : j / s = (j - s) / s + 1 := by
        conv => lhs; rw [show j = j - s + s from by omega]
        rw [Nat.add_div_right _ hs]
      have e2 : j % s = (j - s) % s := by
        conv => lhs; rw [show j = j - s + s from by omega]
        rw [Nat.add_mod_right]
      exact ⟨q, by rw [e1]; simpa using hq, by rw [e2]; exact hv⟩

section
variable {H : Type} {enc : TypeId × Value → H} {P : Program} {W : World} {t e : TypeId} {fuel : Nat} {cs : List Value} {x : DataW H × List MemPlace}

theorem open_elems {α : Type} {s : Nat} (hs0 : 0 < s) (en : α → List Value) (Ok : α → Prop) (ht : P.underlying t = some (.slice e)) (hc : P.cellsOf e = s) (hen : ∀ p, Ok p → (en p).length = s)
    (hel : ∀ n ds y, DataW.trod enc P W 0 (fun _ => true) true n e ds = some y → ∃ p, ds = en p ∧ Ok p) (h : DataW.trod enc P W 0 (fun _ => true) true fuel t cs = some x) :
    ∃ (oa : Option Addr) (cap : Nat) (ps : List α), cs = [.slice oa ps.length cap] ∧ Cs W oa ps.length cap (ps.flatMap en) ∧ ∀ p ∈ ps, Ok p := by
  rcases DataW.trod_slice ht h with ⟨rfl, _⟩ | ⟨a, len, cap, elems, rest, n, _, rfl, _, hb, hl, hm, hlen, he, _, _⟩
  · exact ⟨none, 0, [], rfl, cs_nil, by simp⟩
  · have key : ∀ k, k ≤ len → ∃ ps : List α, ps.length = k ∧ ∀ i p, ps[i]? = some p → W.cells? 0 (a.add (i * s)) s = some (en p) ∧ Ok p := by
      intro k
      induction k with
      | zero => intro _; exact ⟨[], rfl, fun i p h => by simp at h⟩
      | succ k ih =>
        intro hk
        obtain ⟨ps, h1, h2⟩ := ih (by omega)
        have hk1 := he k (by omega)
        rw [List.getElem?_eq_getElem (by omega), hc, Option.bind_eq_some_iff] at hk1
        obtain ⟨ds, hds, hy⟩ := hk1
        obtain ⟨p, rfl, hp⟩ := hel _ _ _ hy
        refine ⟨ps ++ [p], by simp [h1], fun i q hq => ?_⟩
        rcases Nat.lt_or_ge i ps.length with hi | hi
        · rw [List.getElem?_append_left hi] at hq; exact h2 i q hq
        · rw [List.getElem?_append_right hi] at hq
          have e : i = k := by
            have := (List.getElem?_eq_some_iff.1 hq).1
            simp at this
            omega
          subst e
          rw [h1, Nat.sub_self] at hq
          obtain rfl := Option.some.inj hq
          exact ⟨hds, hp⟩
    obtain ⟨ps, h1, h2⟩ := key len (Nat.le_refl _)
    subst h1
    have hok : ∀ p ∈ ps, Ok p := fun p hp => by
      obtain ⟨i, hi⟩ := List.getElem?_of_mem hp
      exact (h2 i p hi).2
    refine ⟨some a, cap, ps, rfl, ⟨hl, hm, fun h => (by cases h), fun a' ha => ?_⟩, hok⟩
    obtain rfl := Option.some.inj ha
    intro j v hj
    obtain ⟨p, hp, hv⟩ := flatMap_get hs0 en ps (fun p hp => hen p (hok p hp)) j v hj
    have h3 := (World.cells?_some (h2 _ p hp).1).2.2 (j % s) (Nat.mod_lt _ hs0)
    rw [add_add, Nat.mul_comm, Nat.div_add_mod] at h3
    rw [h3]
    exact hv

theorem trod_bytes (ht : P.underlying t = some (.slice e)) (he : P.underlying e = some (.int .u8)) (hc : P.cellsOf e = 1) (h : DataW.trod enc P W 0 (fun _ => true) true fuel t cs = some x) :
    ∃ (oa : Option Addr) (cap : Nat) (l : List UInt8), cs = [.slice oa l.length cap] ∧ Bs W oa cap l := by
  obtain ⟨oa, cap, l, h1, h2, _⟩ := open_elems (α := UInt8) (s := 1) (by decide) (fun x => [u8 x]) (fun _ => True) ht hc (fun _ _ => rfl) (fun n ds y hy => by
    obtain ⟨z, hz, _, hw⟩ := DataW.trod_int he hy
    obtain ⟨b, rfl⟩ := u8_ex hw
    exact ⟨b, hz, trivial⟩) h
  refine ⟨oa, cap, l, h1, ?_⟩
  have e1 : l.flatMap (fun x => [u8 x]) = l.map u8 := by
    rw [← List.map_eq_flatMap]
  rw [e1] at h2
  exact h2.bs rfl
variable {r : Reach} {b0 : Nat} {v : Value} {d : DataW H} {p : List MemPlace}
end
end Go.Proofs.YtopaednfjjjnbaaDoor
namespace Go.Proofs.YtopaednfjjjnbaaDoor
open Go Go.RowKit Go.ChangeShapes Go.WideShapes Go.ChangeAt
section
variable {H : Type} {enc : TypeId × Value → H} {P : Program} {W : World} {r : Reach} {b0 : Nat} {t e u : TypeId} {v : Value} {d : DataW H} {p : List MemPlace}
theorem trod_dig {fuel : Nat} {cs : List Value} {x : DataW H × List MemPlace} (he : P.underlying e = some (.array 32 u)) (hu : P.underlying u = some (.int .u8)) (hc : P.cellsOf u = 1) (hce : P.cellsOf e = 32)
    (h : DataW.trod enc P W 0 (fun _ => true) true fuel e cs = some x) : ∃ d : Dig, cs = d.1.map u8 := by
  obtain ⟨xs, m, rfl, hx, hlen, hxl, hel⟩ := DataW.trod_array he h
  rw [hce] at hlen
  have each : ∀ i : Nat, i < 32 → ∃ b : UInt8, cs[i]? = some (u8 b) := by
    intro i hi
    have := hel i hi
    rw [hc, Nat.mul_one] at this
    have hxi : xs[i]? = some xs[i] := List.getElem?_eq_getElem (by omega)
    rw [hxi] at this
    obtain ⟨z, hz, _, hw⟩ := DataW.trod_int hu this
    obtain ⟨b, rfl⟩ := u8_ex hw
    refine ⟨b, ?_⟩
    have := congrArg (·[0]?) hz
    simpa [List.getElem?_take, List.getElem?_drop, u8] using this
  refine ⟨⟨cs.map fun c => match c with | .int _ z => UInt8.ofNat z.toNat | _ => 0, by simpa using hlen⟩, ?_⟩
  show cs = List.map u8 (cs.map _)
  rw [List.map_map]
  apply List.ext_getElem?
  intro i
  by_cases hi : i < 32
  · obtain ⟨b, hb⟩ := each i hi
    rw [List.getElem?_map, hb]
    simp [u8]
  · rw [List.getElem?_eq_none (by omega), List.getElem?_eq_none (by simp; omega)]
end
end Go.Proofs.YtopaednfjjjnbaaDoor
namespace Go.Proofs.YtopaednfjjjnbaaDoor
open Go Go.RowKit Go.ChangeShapes Go.WideShapes Go.ChangeAt
set_option maxRecDepth 100000

theorem cellsEnt : Tryd.prog.cellsOf 30 = 2 := by kernel_rfl
theorem cellsBrd : Tryd.prog.cellsOf 24 = 1 := by kernel_rfl
theorem cellsHd : Tryd.prog.cellsOf 38 = 35 := by kernel_rfl
theorem cellsBy : Tryd.prog.cellsOf 28 = 1 := by kernel_rfl
theorem cellsEs : Tryd.prog.cellsOf 22 = 1 := by kernel_rfl
theorem cellsInt : Tryd.prog.cellsOf 3 = 1 := by kernel_rfl
theorem cellsSig : Tryd.prog.cellsOf 36 = 2 := by kernel_rfl
theorem cellsU64 : Tryd.prog.cellsOf 34 = 1 := by kernel_rfl
theorem list1 {α : Type} {l : List α} (h : l.length = 1) : ∃ a, l = [a] := by
  match l, h with
  | [a], _ => exact ⟨a, rfl⟩
theorem list2 {α : Type} {l : List α} (h : l.length = 2) : ∃ a b, l = [a, b] := by
  match l, h with
  | [a, b], _ => exact ⟨a, b, rfl⟩
section
variable {H : Type} {enc : TypeId × Value → H} {W : World} {r : Reach} {b0 : Nat} {v : Value} {d : DataW H} {p : List MemPlace} {fuel : Nat} {cs : List Value} {x : DataW H × List MemPlace}
theorem field_at {P : Program} {t : TypeId} {fs : Array Field} {xs : List (DataW H × List MemPlace)} {n : Nat} (hel : ∀ (i : Nat) (f : Field), fs[i]? = some f → DataW.trod enc P W 0 (fun _ => true) true n f.type ((cs.drop f.offset).take (P.cellsOf f.type)) = xs[i]?)
    (i off s : Nat) (hf : (fs[i]?).map (fun f => (f.type, f.offset)) = some (t, off)) (hc : P.cellsOf t = s) (hx : i < xs.length) : ∃ y, DataW.trod enc P W 0 (fun _ => true) true n t ((cs.drop off).take s) = some y := by
  obtain ⟨f, h1, h2⟩ := Option.map_eq_some_iff.1 hf
  have h3 := hel i f h1
  obtain ⟨rfl, rfl⟩ := Prod.mk.inj h2
  rw [List.getElem?_eq_getElem hx, hc] at h3
  exact ⟨_, h3⟩
theorem trod_entry (h : DataW.trod enc Tryd.prog W 0 (fun _ => true) true fuel 30 cs = some x) : ∃ y : Et, cs = y.cl ∧ Bs W y.o y.cap y.l := by
  obtain ⟨xs, n, rfl, _, hl, hxl, hel⟩ := DataW.trod_struct Tryd.underlying30 h
  rw [cellsEnt] at hl
  obtain ⟨c0, c1, rfl⟩ := list2 hl
  have hx : xs.length = 2 := hxl
  obtain ⟨_, h0⟩ := field_at hel 0 0 1 rfl cellsU8 (by omega)
  obtain ⟨_, h1⟩ := field_at hel 1 1 1 rfl cellsBy (by omega)
  obtain ⟨z, hz, _, hw⟩ := DataW.trod_int Tryd.underlying5 h0
  obtain ⟨b, rfl⟩ := u8_ex hw
  obtain ⟨o, c, l, h4, h5⟩ := trod_bytes Tryd.underlying28 Tryd.underlying5 cellsU8 h1
  have hz' : c0 = .int .u8 (b.toNat : Int) := by simpa using hz
  have h4' : c1 = .slice o l.length c := by simpa using h4
  subst hz' h4'
  exact ⟨⟨b, o, c, l⟩, rfl, h5⟩
theorem open_board (hv : Value.okWide Tryd.prog W r b0 24 v) (h : DataW.Trod enc Tryd.prog W 0 (fun _ => true) true 24 v d p) : ∃ (oa : Option Addr) (cap : Nat) (xs : List Et), v = .agg #[.slice oa xs.length cap] ∧ Bd W oa cap xs := by
  obtain ⟨cs, rfl, _⟩ := okWide_struct Tryd.underlying24 hv
  obtain ⟨fuel, hf⟩ := h
  obtain ⟨xs, n, rfl, _, hl, hxl, hel⟩ := DataW.trod_struct Tryd.underlying24 hf
  rw [cellsBrd] at hl
  have hx : xs.length = 1 := hxl
  obtain ⟨_, h0⟩ := field_at hel 0 0 1 rfl cellsEs (by omega)
  simp only [Value.cells] at h0 hl
  obtain ⟨c0, hc0⟩ := list1 hl
  rw [hc0] at h0
  obtain ⟨oa, cap, ys, h1, h2, h3⟩ := open_elems (α := Et) (s := 2) (by decide) Et.cl (fun y => Bs W y.o y.cap y.l) Tryd.underlying22 cellsEnt (fun _ _ => rfl) (fun n ds y hy => trod_entry hy) h0
  simp at h1
  subst h1
  refine ⟨oa, cap, ys, ?_, ⟨h2, h3⟩⟩
  congr 1
  exact Array.toList_inj.1 hc0
theorem trod_u64 (h : DataW.trod enc Tryd.prog W 0 (fun _ => true) true fuel 34 cs = some x) : ∃ y : UInt64, cs = [u64 y] := by
  obtain ⟨z, hz, _, hw⟩ := DataW.trod_int Tryd.underlying34 h
  obtain ⟨b, rfl⟩ := u64_ex hw
  exact ⟨b, hz⟩
theorem open_head (hv : Value.okWide Tryd.prog W r b0 38 v) (h : DataW.Trod enc Tryd.prog W 0 (fun _ => true) true 38 v d p) : ∃ y : Hd, v = .agg y.cl.toArray ∧ (-9223372036854775808 ≤ y.n ∧ y.n ≤ 9223372036854775807) := by
  obtain ⟨cs, rfl, _⟩ := okWide_struct Tryd.underlying38 hv
  obtain ⟨fuel, hf⟩ := h
  obtain ⟨xs, n, rfl, _, hl, hxl, hel⟩ := DataW.trod_struct Tryd.underlying38 hf
  rw [cellsHd] at hl
  have hx : xs.length = 3 := hxl
  obtain ⟨_, h0⟩ := field_at hel 0 0 1 rfl cellsInt (by omega)
  obtain ⟨_, h1⟩ := field_at hel 1 1 32 rfl cellsB32 (by omega)
  obtain ⟨_, h2⟩ := field_at hel 2 33 2 rfl cellsSig (by omega)
  simp only [Value.cells] at h0 h1 h2 hl
  obtain ⟨z, hz, _, hw⟩ := DataW.trod_int Tryd.underlying3 h0
  obtain ⟨dg, hd⟩ := trod_dig Tryd.underlying33 Tryd.underlying5 cellsU8 cellsB32 h1
  obtain ⟨xs2, n2, _, _, hl2, hxl2, hel2⟩ := DataW.trod_struct Tryd.underlying36 h2
  have hx2 : xs2.length = 2 := hxl2
  rw [cellsSig] at hl2
  obtain ⟨_, h3⟩ := field_at hel2 0 0 1 rfl cellsU64 (by omega)
  obtain ⟨_, h4⟩ := field_at hel2 1 1 1 rfl cellsU64 (by omega)
  obtain ⟨a, ha⟩ := trod_u64 h3
  obtain ⟨b, hb⟩ := trod_u64 h4
  refine ⟨⟨z, dg, a, b⟩, ?_, wf_i64 hw⟩
  congr 1
  apply Array.toList_inj.1
  show cs.toList = Value.int .i64 z :: (dg.1.map u8 ++ [u64 a, u64 b])
  have e1 : cs.toList = cs.toList.take 1 ++ ((cs.toList.drop 1).take 32 ++ (cs.toList.drop 33).take 2) := by
    have q1 := List.take_append_drop 1 cs.toList
    have q2 := List.take_append_drop 32 (cs.toList.drop 1)
    rw [List.drop_drop] at q2
    have q3 : (cs.toList.drop 33).take 2 = cs.toList.drop 33 := List.take_of_length_le (by rw [List.length_drop, hl]; decide)
    rw [q3, q2, q1]
  have e2 : (cs.toList.drop 33).take 2 = [u64 a, u64 b] := by
    obtain ⟨c0, c1, hc⟩ := list2 hl2
    rw [hc] at ha hb ⊢
    simp at ha hb
    rw [ha, hb]
  rw [e1, e2, hd]
  rw [List.drop_zero] at hz
  rw [hz]
  rfl
end
end Go.Proofs.YtopaednfjjjnbaaDoor
