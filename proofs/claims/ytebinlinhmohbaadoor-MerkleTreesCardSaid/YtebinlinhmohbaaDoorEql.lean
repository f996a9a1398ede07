/-
  Equality of arrays of integers, as the program's `==` computes it.
-/
import Derived.Test.YtebinlinhmohbaaDoorShaMem
import Derived.ChangeKeysEq
import Derived.Laws.StructEq
namespace Go.Proofs.YtebinlinhmohbaaDoor
open Go Go.RowKit

section
variable {P : Program}
theorem run_eqItems_ints (w : World) (d : Nat) {e : TypeId} {k : IntKind} (he : P.underlying e = some (.int k)) (xs ys : Array Value) :
    ∀ is : List Nat, (∀ i ∈ is, ∃ a b, xs[i]? = some (.int k a) ∧ ys[i]? = some (.int k b)) →
      ∃ r : Bool, (Op.eqItems (d + 1) e 1 xs ys is).run P w = .ok r w ∧ (r = true ↔ ∀ i ∈ is, xs[i]? = ys[i]?)
  | [], _ => ⟨true, by simp [Op.eqItems], by simp⟩
  | i :: is, h => by
    obtain ⟨a, b, ha, hb⟩ := h i (List.mem_cons_self ..)
    obtain ⟨r, hr, hiff⟩ := run_eqItems_ints w d he xs ys is fun j hj => h j (List.mem_cons_of_mem _ hj)
    have p1 : (part e xs (i * 1)).run P w = .ok (.int k a) w := by simp [part, run_isAgg he, aggB, ha]
    have p2 : (part e ys (i * 1)).run P w = .ok (.int k b) w := by simp [part, run_isAgg he, aggB, hb]
    have p3 := run_equalIn_int (P := P) w d e k k a b he
    simp only [Op.eqItems, Sem.run_bind, p1, p2, p3, Result.andThen_ok]
    by_cases hab : a = b
    · subst hab
      refine ⟨r, by simpa using hr, ?_⟩
      rw [hiff]
      simp [ha, hb]
    · refine ⟨false, by simp [hab], by simp [ha, hb, hab]⟩

theorem eql_ints {α : Type} [DecidableEq α] {T e : TypeId} {n : Nat} {k : IntKind} (f : α → Value) (inj : ∀ a b, f a = f b → a = b) (hf : ∀ a, ∃ z, f a = .int k z) (hT : P.underlying T = some (.array n e))
    (he : P.underlying e = some (.int k)) (hc : P.cellsOf e = 1) (hg : P.eqGuardType P.depth T = false) {l m : List α} (hl : l.length = n) (hm : m.length = n) :
    Bin P .eql T (.agg (l.map f).toArray) (.agg (m.map f).toArray) (.bool (decide (l = m))) := fun x y w => by
  obtain ⟨j, hj⟩ := info_of_underlying he
  obtain ⟨r, hr, hiff⟩ := run_eqItems_ints w 9998 he (l.map f).toArray (m.map f).toArray (List.range n) fun i hi => by
    have hi := List.mem_range.1 hi
    obtain ⟨z, hz⟩ := hf l[i]
    obtain ⟨z', hz'⟩ := hf m[i]
    exact ⟨z, z', by simp [hl, hi, hz], by simp [hm, hi, hz']⟩
  have hrl : r = decide (l = m) := by
    have : r = true ↔ l = m := by
      rw [hiff]
      constructor
      · intro h
        refine List.ext_getElem (hl.trans hm.symm) fun i h1 h2 => ?_
        have := h i (List.mem_range.2 (hl ▸ h1))
        simp [h1, h2] at this
        exact inj _ _ this
      · rintro rfl i _
        rfl
    cases r <;> simp_all
  subst hrl
  have h1 := run_eqGuard_agg (P := P) w .eql T x y (l.map f).toArray (m.map f).toArray hg
  simp only [Sem.run_bind, h1, Result.andThen_ok]
  rw [run_eql_struct, show (10000 : Nat) = 9999 + 1 from rfl, run_equalIn_array w 9999 _ _ hT hj, hc, hr]
  rfl
theorem u32_inj (a b : UInt32) (h : u32 a = u32 b) : a = b := by
  simp only [u32, Value.int.injEq, true_and, Int.ofNat_inj] at h
  exact UInt32.toNat_inj.1 h
theorem u8_inj (a b : UInt8) (h : u8 a = u8 b) : a = b := by
  simp only [u8, Value.int.injEq, true_and, Int.ofNat_inj] at h
  exact UInt8.toNat_inj.1 h
theorem eql_arr32 {T e : TypeId} {n : Nat} (hT : P.underlying T = some (.array n e)) (he : P.underlying e = some (.int .u32)) (hc : P.cellsOf e = 1) (hg : P.eqGuardType P.depth T = false) {l m : List UInt32} (hl : l.length = n) (hm : m.length = n) :
    Bin P .eql T (.agg (arr32 l)) (.agg (arr32 m)) (.bool (decide (l = m))) := eql_ints u32 u32_inj (fun _ => ⟨_, rfl⟩) hT he hc hg hl hm
theorem eql_arr8 {T e : TypeId} {n : Nat} (hT : P.underlying T = some (.array n e)) (he : P.underlying e = some (.int .u8)) (hc : P.cellsOf e = 1) (hg : P.eqGuardType P.depth T = false) {l m : List UInt8} (hl : l.length = n) (hm : m.length = n) :
    Bin P .eql T (.agg (arr8 l)) (.agg (arr8 m)) (.bool (decide (l = m))) := eql_ints u8 u8_inj (fun _ => ⟨_, rfl⟩) hT he hc hg hl hm
end

section
variable {c : Cx} {σ : Slots} {H : Blocks} {ty : TypeId} {pos : String} {af : Array Edge} {gd : Option (Nat × Bool)} {dst : Option Nat}
/-- The text of bytes that the call's own row holds. -/
theorem Ev.strR {s d e : TypeId} {x : Operand} {r : Option Row} {l : List UInt8} (hx : ev σ x = some (Row.v l.length r)) (hs : c.P.underlying s = some (.slice e)) (hd : c.P.underlying d = some .string) (he : c.P.underlying e = some (.int .u8))
    (hr : Row.ok 1 l.length (l.map u8) r) (hm : ∀ p ∈ Row.b e r, p ∈ H) : Ev c σ H ⟨dst, .convert s d x, ty, pos, af, gd⟩ (strOf l) := by
  cases r with
  | none =>
    obtain ⟨h1, h2⟩ := hr
    have : l = [] := by simpa using h2
    subst this
    exact Ev.str hx hs hd he rfl (fun _ => rfl) (fun a ha => by cases ha)
  | some r =>
    obtain ⟨h1, h2, h3, h4, h5⟩ := hr
    refine Ev.str hx hs hd he rfl (fun h => by cases h) fun a ha => ?_
    obtain rfl := Option.some.inj ha
    refine Rds.own (hm _ (List.mem_cons_self ..)) fun j v hj => ?_
    rw [← h5] at hj
    rw [List.getElem?_take] at hj
    split at hj
    · simpa using hj
    · cases hj
end
theorem bytes_beq (l : List UInt8) : ((⟨l.toArray⟩ : ByteArray).toList == (⟨l.toArray⟩ : ByteArray).toList) = true := by simp
end Go.Proofs.YtebinlinhmohbaaDoor
