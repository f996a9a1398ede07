/-
  A slice of slices of bytes, as a call finds it; its fields joined.
-/
import Derived.Test.YtebinlinhmohbaaDoorInt
namespace Go.Proofs.YtebinlinhmohbaaDoor
open Go Go.RowKit

structure Part where
  o : Option Addr
  cap : Nat
  l : List UInt8
def Part.v (p : Part) : Value := .slice p.o p.l.length p.cap
def catLen (ps : List Part) (k : Nat) : Nat := ((ps.take k).flatMap (·.l)).length
theorem catLen_succ (ps : List Part) {k : Nat} {p : Part} (hp : ps[k]? = some p) : catLen ps (k + 1) = catLen ps k + p.l.length := by
  unfold catLen
  rw [List.take_add_one, hp]
  simp
theorem catLen_le (ps : List Part) (k : Nat) : catLen ps k ≤ catLen ps ps.length := by
  unfold catLen
  rw [List.take_of_length_le (Nat.le_refl _)]
  conv => rhs; rw [← List.take_append_drop k ps]
  simp only [List.flatMap_append, List.length_append]
  omega
theorem sub_nil_app {A : Blocks} : Sub A ([] ++ A) := Sub.all
theorem sub_app_nil {A : Blocks} : Sub A (A ++ []) := by rw [List.append_nil]; exact Sub.all

/-- A slice of slices of bytes. -/
structure Ps (w : World) (oa : Option Addr) (cap : Nat) (ps : List Part) : Prop where
  le : ps.length ≤ cap
  top : cap ≤ maxLen
  empty : oa = none → cap = 0
  mem : ∀ a, oa = some a → Mem w a (ps.map Part.v)
  each : ∀ p ∈ ps, Bs w p.o p.cap p.l
theorem Ps.old {w0 w : World} {H : Blocks} {oa : Option Addr} {cap : Nat} {ps : List Part} (hw : Hp w0 H w) (h : Ps w0 oa cap ps) : Ps w oa cap ps :=
  ⟨h.le, h.top, h.empty, fun a ha => Mem.old hw (h.mem a ha), fun p hp => (h.each p hp).old hw⟩
theorem Ps.get_some {w : World} {oa : Option Addr} {cap : Nat} {ps : List Part} (h : Ps w oa cap ps) (hl : 0 < ps.length) : ∃ a, oa = some a := by
  cases oa with
  | some a => exact ⟨a, rfl⟩
  | none =>
    have h1 := h.empty rfl
    have h2 := h.le
    omega
theorem Part.at {ps : List Part} {k : Nat} {p : Part} (hp : ps[k]? = some p) : (ps.map Part.v)[k]? = some (.slice p.o p.l.length p.cap) := by
  rw [List.getElem?_map, hp]; rfl

def fieldB (l : List UInt8) : List UInt8 := be (UInt64.ofNat l.length) 2 ++ l
theorem fieldB_length (l : List UInt8) : (fieldB l).length = 2 + l.length := by simp [fieldB, be_length]
/-- The first k fields, joined. -/
def jn (ps : List Part) (k : Nat) : List UInt8 := (ps.take k).flatMap (fun p => fieldB p.l)
def tot (ps : List Part) (k : Nat) : Nat := (jn ps k).length
theorem jn_succ (ps : List Part) {k : Nat} {p : Part} (hp : ps[k]? = some p) : jn ps (k + 1) = jn ps k ++ fieldB p.l := by
  unfold jn
  rw [List.take_add_one, hp]
  simp
theorem tot_succ (ps : List Part) {k : Nat} {p : Part} (hp : ps[k]? = some p) : tot ps (k + 1) = tot ps k + 2 + p.l.length := by
  unfold tot
  rw [jn_succ ps hp, List.length_append, fieldB_length]
  omega
theorem tot_le (ps : List Part) (k : Nat) : tot ps k ≤ tot ps ps.length := by
  unfold tot jn
  rw [List.take_of_length_le (Nat.le_refl _)]
  conv => rhs; rw [← List.take_append_drop k ps]
  simp only [List.flatMap_append, List.length_append]
  omega
def joinO (ps : List Part) : List UInt8 := if 16384 < tot ps ps.length then [] else jn ps ps.length
theorem joinO_bad {ps : List Part} (h : 16384 < tot ps ps.length) : joinO ps = [] := if_pos h
theorem joinO_ok {ps : List Part} (h : ¬ 16384 < tot ps ps.length) : joinO ps = jn ps ps.length := if_neg h
end Go.Proofs.YtebinlinhmohbaaDoor
