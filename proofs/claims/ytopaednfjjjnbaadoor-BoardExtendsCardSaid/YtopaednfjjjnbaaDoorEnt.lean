/-
  Boards: entries of a kind and bytes, as a call finds them and as it lays them.
-/
import Derived.Test.YtopaednfjjjnbaaDoorShort
import Derived.Test.YtopaednfjjjnbaaDoorPart
namespace Go.Proofs.YtopaednfjjjnbaaDoor
open Go Go.RowKit

abbrev Ent := UInt8 × List UInt8
structure Et where
  k : UInt8
  o : Option Addr
  cap : Nat
  l : List UInt8
def Et.cl (x : Et) : List Value := [u8 x.k, .slice x.o x.l.length x.cap]
def Et.e (x : Et) : Ent := (x.k, x.l)
def ef (xs : List Et) : List Value := xs.flatMap Et.cl
theorem ef_append (a b : List Et) : ef (a ++ b) = ef a ++ ef b := by simp [ef]
theorem ef_length : ∀ xs : List Et, (ef xs).length = xs.length * 2
  | [] => rfl
  | x :: xs => by
    show (x.cl ++ ef xs).length = _
    rw [List.length_append, ef_length xs, List.length_cons]
    show 2 + xs.length * 2 = _
    omega
theorem ef_get : ∀ (xs : List Et) (k : Nat) (x : Et), xs[k]? = some x → ((ef xs).drop (k * 2)).take 2 = x.cl
  | [], k, x, h => by simp at h
  | y :: xs, 0, x, h => by
    simp only [List.getElem?_cons_zero, Option.some.injEq] at h
    subst h
    rfl
  | y :: xs, k + 1, x, h => by
    rw [List.getElem?_cons_succ] at h
    rw [show (k + 1) * 2 = 2 + k * 2 by omega, ← List.drop_drop]
    exact ef_get xs k x h
/-- A board's entries. -/
structure Bd (w : World) (oa : Option Addr) (cap : Nat) (xs : List Et) : Prop where
  cs : Cs w oa xs.length cap (ef xs)
  each : ∀ x ∈ xs, Bs w x.o x.cap x.l
theorem Bd.old {w0 w : World} {H : Blocks} {oa : Option Addr} {cap : Nat} {xs : List Et} (hw : Hp w0 H w) (h : Bd w0 oa cap xs) : Bd w oa cap xs := ⟨h.cs.old hw, fun x hx => (h.each x hx).old hw⟩
theorem Bd.get_some {w : World} {oa : Option Addr} {cap : Nat} {xs : List Et} (h : Bd w oa cap xs) (hl : 0 < xs.length) : ∃ a, oa = some a := h.cs.get_some hl
theorem Bd.at {w : World} {a : Addr} {cap : Nat} {xs : List Et} (h : Bd w (some a) cap xs) {k : Nat} {x : Et} (hk : xs[k]? = some x) : Mem w (a.add (k * 2)) x.cl := by
  have := (h.cs.mem a rfl).cut (k * 2) 2
  rwa [ef_get xs k x hk] at this
theorem Bd.bs {w : World} {oa : Option Addr} {cap : Nat} {xs : List Et} (h : Bd w oa cap xs) {k : Nat} {x : Et} (hk : xs[k]? = some x) : Bs w x.o x.cap x.l := h.each x (List.mem_of_getElem? hk)
theorem Bd.take {w : World} {oa : Option Addr} {cap : Nat} {xs : List Et} (h : Bd w oa cap xs) {k : Nat} (hk : k ≤ xs.length) : Bd w oa cap (xs.take k) := by
  have hl : (xs.take k).length = k := by rw [List.length_take]; omega
  have hc := h.cs.le
  refine ⟨⟨by omega, h.cs.top, h.cs.empty, fun a ha => ?_⟩, fun x hx => h.each x (List.mem_of_mem_take hx)⟩
  have := (h.cs.mem a ha).cut 0 (k * 2)
  rw [List.drop_zero, show a.add 0 = a from by simp [Addr.add]] at this
  have e : (ef xs).take (k * 2) = ef (xs.take k) := by
    have h1 : ef xs = ef (xs.take k) ++ ef (xs.drop k) := by rw [← ef_append, List.take_append_drop]
    rw [h1, List.take_left' (by rw [ef_length, hl])]
  rwa [e] at this
def okE (x : Ent) : Bool := decide (1 ≤ x.1.toNat) && (decide (x.1.toNat ≤ 13) && decide (x.2.length ≤ 8000))
theorem okE_len {x : Ent} (h : okE x = true) : x.2.length ≤ 8000 := by
  simp only [okE, Bool.and_eq_true, decide_eq_true_eq] at h
  exact h.2.2
/-- A valid board. -/
def okB (xs : List Ent) : Prop := xs.length ≤ 1024 ∧ ∀ x ∈ xs, okE x = true
instance (xs : List Ent) : Decidable (okB xs) := inferInstanceAs (Decidable (_ ∧ _))
def leafE (x : Ent) : Dig := ⟨sha (0 :: x.1 :: x.2), sha_length _⟩
def leavesE (xs : List Ent) : List Dig := xs.map leafE

/-! ### Boards of the call's own -/
structure OE where
  k : UInt8
  q : Option Row
  l : List UInt8
def OE.cl (x : OE) : List Value := [u8 x.k, Row.v x.l.length x.q]
def OE.e (x : OE) : Ent := (x.k, x.l)
def OE.ok (x : OE) : Prop := Row.ok 1 x.l.length (x.l.map u8) x.q
def oef (xs : List OE) : List Value := xs.flatMap OE.cl
def oeD (t : TypeId) (xs : List OE) : Blocks := xs.flatMap fun x => Row.b t x.q
theorem oef_append (a b : List OE) : oef (a ++ b) = oef a ++ oef b := by simp [oef]
theorem oeD_append (t : TypeId) (a b : List OE) : oeD t (a ++ b) = oeD t a ++ oeD t b := by simp [oeD]
theorem oef_length : ∀ xs : List OE, (oef xs).length = xs.length * 2
  | [] => rfl
  | x :: xs => by
    show (x.cl ++ oef xs).length = _
    rw [List.length_append, oef_length xs, List.length_cons]
    show 2 + xs.length * 2 = _
    omega
def OE.et (x : OE) : Et := match x.q with
  | none => ⟨x.k, none, 0, x.l⟩
  | some r => ⟨x.k, some ⟨r.g, 0, none⟩, r.cap, x.l⟩
theorem OE.et_cl {x : OE} (h : x.ok) : x.et.cl = x.cl := by
  obtain ⟨k, q, l⟩ := x
  cases q with
  | none =>
    have h0 : l.length = 0 := h.1
    show [u8 k, Value.slice none l.length 0] = [u8 k, .slice none 0 0]
    rw [h0]
  | some r => rfl
theorem OE.et_e (x : OE) : x.et.e = x.e := by
  obtain ⟨k, q, l⟩ := x
  cases q <;> rfl
theorem own_ef : ∀ {os : List OE}, (∀ x ∈ os, x.ok) → ef (os.map OE.et) = oef os
  | [], _ => rfl
  | x :: os, h => by
    show x.et.cl ++ ef (os.map OE.et) = x.cl ++ oef os
    rw [OE.et_cl (h x (List.mem_cons_self ..)), own_ef fun y hy => h y (List.mem_cons_of_mem _ hy)]
theorem own_bs {t : TypeId} {x : OE} (h : x.ok) {w0 : World} {H : Blocks} (w : World) (hw : Hp w0 H w) (hm : ∀ p ∈ Row.b t x.q, p ∈ H) : Bs w x.et.o x.et.cap x.et.l := by
  obtain ⟨k, q, l⟩ := x
  obtain ⟨oa, cap, e1, _, hC⟩ := Row.vw (e := t) h
  have hc := hC w hw hm
  cases q with
  | none =>
    obtain ⟨h1, h2⟩ := h
    have h1' : l.length = 0 := h1
    have : l = [] := List.eq_nil_of_length_eq_zero h1'
    subst this
    exact bs_nil
  | some r =>
    rw [Row.v] at e1
    injection e1 with e1 _ e2
    subst e1 e2
    exact hc.bs rfl
theorem own_bd {e t : TypeId} {os : List OE} {r : Option Row} (h : Row.ok 2 os.length (oef os) r) (ho : ∀ x ∈ os, x.ok) :
    ∃ (oa : Option Addr) (cap : Nat) (xs : List Et), xs = os.map OE.et ∧ Row.v os.length r = .slice oa xs.length cap ∧ xs.map Et.e = os.map OE.e ∧ ∀ {w0 : World} {H : Blocks} (w : World), Hp w0 H w → (∀ p ∈ Row.b e r ++ oeD t os, p ∈ H) → Bd w oa cap xs := by
  obtain ⟨oa, cap, e1, _, hC⟩ := Row.vw (e := e) h
  have hl : (os.map OE.et).length = os.length := List.length_map ..
  refine ⟨oa, cap, os.map OE.et, rfl, by rw [hl]; exact e1, by rw [List.map_map]; exact List.map_congr_left fun x _ => OE.et_e x, fun {w0 H} w hw hm => ⟨?_, fun x hx => ?_⟩⟩
  · rw [own_ef ho, hl]
    exact hC w hw fun p hp => hm p (List.mem_append_left _ hp)
  · obtain ⟨y, hy, rfl⟩ := List.mem_map.1 hx
    exact own_bs (t := t) (ho y hy) w hw fun p hp => hm p (List.mem_append_right _ (List.mem_flatMap.2 ⟨y, hy, hp⟩))
section
variable {c : Cx} {σ : Slots} {H : Blocks} {ty : TypeId} {pos : String} {af : Array Edge} {gd : Option (Nat × Bool)} {dst : Option Nat}
/-- The address of a field, wherever the struct lies. -/
theorem Ev.fldA {T : TypeId} {x : Operand} {a : Addr} {i : Nat} (off : Nat) (hx : ev σ x = some (.pointer (some a))) (h : ∀ a w, (Instr.fieldAt T (.pointer (some a)) i).run c.P w = .ok (.pointer (some (a.add off))) w) :
    Ev c σ H ⟨dst, .fieldAddr T x i, ty, pos, af, gd⟩ (.pointer (some (a.add off))) := fun A w hf _ => by
  have e : execOp A.eval ⟨dst, .fieldAddr T x i, ty, pos, af, gd⟩ = (do pure (Next.value (← Instr.fieldAt T (A.eval x) i))) := rfl
  rw [e, hf.ev hx]
  simp only [Sem.run_bind, h, Result.andThen_ok, Sem.run_pure]
end
end Go.Proofs.YtopaednfjjjnbaaDoor
