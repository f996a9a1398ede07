/-
  From a row's reading of its arguments: boards, entries, heads.
-/
import Derived.Test.YtopaednfjjjnbaaDoorOpenD
import Derived.Test.YtopaednfjjjnbaaDoorOwn
namespace Go.Proofs.YtopaednfjjjnbaaDoor
open Go Go.RowKit Go.ChangeShapes Go.WideShapes Go.ChangeAt
set_option maxRecDepth 100000

theorem cellsEnt : Tryd.prog.cellsOf 30 = 2 := by kernel_rfl
theorem cellsBrd : Tryd.prog.cellsOf 24 = 1 := by kernel_rfl
theorem cellsHd : Tryd.prog.cellsOf 38 = 35 := by kernel_rfl
theorem cellsBy : Tryd.prog.cellsOf 28 = 1 := by kernel_rfl
theorem cellsEs : Tryd.prog.cellsOf 22 = 1 := by kernel_rfl
theorem cellsInt : Tryd.prog.cellsOf 3 = 1 := by kernel_rfl
theorem cellsSig : Tryd.prog.cellsOf 36 = 2 := by kernel_rfl
theorem cellsU64 : Tryd.prog.cellsOf 34 = 1 := by kernel_rfl
theorem list1 {α : Type} {l : List α} (h : l.length = 1) : ∃ a, l = [a] := by
  match l, h with
  | [a], _ => exact ⟨a, rfl⟩
theorem list2 {α : Type} {l : List α} (h : l.length = 2) : ∃ a b, l = [a, b] := by
  match l, h with
  | [a, b], _ => exact ⟨a, b, rfl⟩
section
variable {H : Type} {enc : TypeId × Value → H} {W : World} {r : Reach} {b0 : Nat} {v : Value} {d : DataW H} {p : List MemPlace} {fuel : Nat} {cs : List Value} {x : DataW H × List MemPlace}
theorem field_at {P : Program} {t : TypeId} {fs : Array Field} {xs : List (DataW H × List MemPlace)} {n : Nat} (hel : ∀ (i : Nat) (f : Field), fs[i]? = some f → DataW.trod enc P W 0 (fun _ => true) true n f.type ((cs.drop f.offset).take (P.cellsOf f.type)) = xs[i]?)
    (i off s : Nat) (hf : (fs[i]?).map (fun f => (f.type, f.offset)) = some (t, off)) (hc : P.cellsOf t = s) (hx : i < xs.length) : ∃ y, DataW.trod enc P W 0 (fun _ => true) true n t ((cs.drop off).take s) = some y := by
  obtain ⟨f, h1, h2⟩ := Option.map_eq_some_iff.1 hf
  have h3 := hel i f h1
  obtain ⟨rfl, rfl⟩ := Prod.mk.inj h2
  rw [List.getElem?_eq_getElem hx, hc] at h3
  exact ⟨_, h3⟩
theorem trod_entry (h : DataW.trod enc Tryd.prog W 0 (fun _ => true) true fuel 30 cs = some x) : ∃ y : Et, cs = y.cl ∧ Bs W y.o y.cap y.l := by
  obtain ⟨xs, n, rfl, _, hl, hxl, hel⟩ := DataW.trod_struct Tryd.underlying30 h
  rw [cellsEnt] at hl
  obtain ⟨c0, c1, rfl⟩ := list2 hl
  have hx : xs.length = 2 := hxl
  obtain ⟨_, h0⟩ := field_at hel 0 0 1 rfl cellsU8 (by omega)
  obtain ⟨_, h1⟩ := field_at hel 1 1 1 rfl cellsBy (by omega)
  obtain ⟨z, hz, _, hw⟩ := DataW.trod_int Tryd.underlying5 h0
  obtain ⟨b, rfl⟩ := u8_ex hw
  obtain ⟨o, c, l, h4, h5⟩ := trod_bytes Tryd.underlying28 Tryd.underlying5 cellsU8 h1
  have hz' : c0 = .int .u8 (b.toNat : Int) := by simpa using hz
  have h4' : c1 = .slice o l.length c := by simpa using h4
  subst hz' h4'
  exact ⟨⟨b, o, c, l⟩, rfl, h5⟩
theorem open_entry (hv : Value.okWide Tryd.prog W r b0 30 v) (h : DataW.Trod enc Tryd.prog W 0 (fun _ => true) true 30 v d p) : ∃ y : Et, v = .agg y.cl.toArray ∧ Bs W y.o y.cap y.l := by
  obtain ⟨cs, rfl, _⟩ := okWide_struct Tryd.underlying30 hv
  obtain ⟨fuel, hf⟩ := h
  obtain ⟨y, hy, hb⟩ := trod_entry hf
  refine ⟨y, ?_, hb⟩
  rw [← hy]
  simp [Value.cells]
theorem open_board (hv : Value.okWide Tryd.prog W r b0 24 v) (h : DataW.Trod enc Tryd.prog W 0 (fun _ => true) true 24 v d p) : ∃ (oa : Option Addr) (cap : Nat) (xs : List Et), v = .agg #[.slice oa xs.length cap] ∧ Bd W oa cap xs := by
  obtain ⟨cs, rfl, _⟩ := okWide_struct Tryd.underlying24 hv
  obtain ⟨fuel, hf⟩ := h
  obtain ⟨xs, n, rfl, _, hl, hxl, hel⟩ := DataW.trod_struct Tryd.underlying24 hf
  rw [cellsBrd] at hl
  have hx : xs.length = 1 := hxl
  obtain ⟨_, h0⟩ := field_at hel 0 0 1 rfl cellsEs (by omega)
  simp only [Value.cells] at h0 hl
  obtain ⟨c0, hc0⟩ := list1 hl
  rw [hc0] at h0
  obtain ⟨oa, cap, ys, h1, h2, h3⟩ := open_elems (α := Et) (s := 2) (by decide) Et.cl (fun y => Bs W y.o y.cap y.l) Tryd.underlying22 cellsEnt (fun _ _ => rfl) (fun n ds y hy => trod_entry hy) h0
  simp at h1
  subst h1
  refine ⟨oa, cap, ys, ?_, ⟨h2, h3⟩⟩
  congr 1
  exact Array.toList_inj.1 hc0
theorem trod_u64 (h : DataW.trod enc Tryd.prog W 0 (fun _ => true) true fuel 34 cs = some x) : ∃ y : UInt64, cs = [u64 y] := by
  obtain ⟨z, hz, _, hw⟩ := DataW.trod_int Tryd.underlying34 h
  obtain ⟨b, rfl⟩ := u64_ex hw
  exact ⟨b, hz⟩
theorem open_head (hv : Value.okWide Tryd.prog W r b0 38 v) (h : DataW.Trod enc Tryd.prog W 0 (fun _ => true) true 38 v d p) : ∃ y : Hd, v = .agg y.cl.toArray ∧ (-9223372036854775808 ≤ y.n ∧ y.n ≤ 9223372036854775807) := by
  obtain ⟨cs, rfl, _⟩ := okWide_struct Tryd.underlying38 hv
  obtain ⟨fuel, hf⟩ := h
  obtain ⟨xs, n, rfl, _, hl, hxl, hel⟩ := DataW.trod_struct Tryd.underlying38 hf
  rw [cellsHd] at hl
  have hx : xs.length = 3 := hxl
  obtain ⟨_, h0⟩ := field_at hel 0 0 1 rfl cellsInt (by omega)
  obtain ⟨_, h1⟩ := field_at hel 1 1 32 rfl cellsB32 (by omega)
  obtain ⟨_, h2⟩ := field_at hel 2 33 2 rfl cellsSig (by omega)
  simp only [Value.cells] at h0 h1 h2 hl
  obtain ⟨z, hz, _, hw⟩ := DataW.trod_int Tryd.underlying3 h0
  obtain ⟨dg, hd⟩ := trod_dig Tryd.underlying33 Tryd.underlying5 cellsU8 cellsB32 h1
  obtain ⟨xs2, n2, _, _, hl2, hxl2, hel2⟩ := DataW.trod_struct Tryd.underlying36 h2
  have hx2 : xs2.length = 2 := hxl2
  rw [cellsSig] at hl2
  obtain ⟨_, h3⟩ := field_at hel2 0 0 1 rfl cellsU64 (by omega)
  obtain ⟨_, h4⟩ := field_at hel2 1 1 1 rfl cellsU64 (by omega)
  obtain ⟨a, ha⟩ := trod_u64 h3
  obtain ⟨b, hb⟩ := trod_u64 h4
  refine ⟨⟨z, dg, a, b⟩, ?_, wf_i64 hw⟩
  congr 1
  apply Array.toList_inj.1
  show cs.toList = Value.int .i64 z :: (dg.1.map u8 ++ [u64 a, u64 b])
  have e1 : cs.toList = cs.toList.take 1 ++ ((cs.toList.drop 1).take 32 ++ (cs.toList.drop 33).take 2) := by
    have q1 := List.take_append_drop 1 cs.toList
    have q2 := List.take_append_drop 32 (cs.toList.drop 1)
    rw [List.drop_drop] at q2
    have q3 : (cs.toList.drop 33).take 2 = cs.toList.drop 33 := List.take_of_length_le (by rw [List.length_drop, hl]; decide)
    rw [q3, q2, q1]
  have e2 : (cs.toList.drop 33).take 2 = [u64 a, u64 b] := by
    obtain ⟨c0, c1, hc⟩ := list2 hl2
    rw [hc] at ha hb ⊢
    simp at ha hb
    rw [ha, hb]
  rw [e1, e2, hd]
  rw [List.drop_zero] at hz
  rw [hz]
  rfl
end
end Go.Proofs.YtopaednfjjjnbaaDoor
