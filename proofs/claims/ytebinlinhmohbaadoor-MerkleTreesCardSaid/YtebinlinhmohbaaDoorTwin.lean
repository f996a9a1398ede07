/-
  Blocks kept in whatever order, by counting; slices of cells, wherever they lie; scopes; calls of a closure; numbers out of bytes.
-/
import Derived.Test.YtebinlinhmohbaaDoorSeq
import Derived.Test.YtebinlinhmohbaaDoorPart
import Derived.Scope
namespace Go.Proofs.YtebinlinhmohbaaDoor
open Go Go.RowKit

open Classical in
noncomputable def one (x a : Nat × Obj) : Nat := if x = a then 1 else 0
noncomputable def cnt (a : Nat × Obj) : Blocks → Nat
  | [] => 0
  | x :: H => one x a + cnt a H
theorem cnt_nil (a : Nat × Obj) : cnt a [] = 0 := rfl
theorem cnt_cons (a x : Nat × Obj) (H : Blocks) : cnt a (x :: H) = one x a + cnt a H := rfl
theorem cnt_append (a : Nat × Obj) (A B : Blocks) : cnt a (A ++ B) = cnt a A + cnt a B := by
  induction A with
  | nil => simp [cnt_nil]
  | cons x A ih => simp only [List.cons_append, cnt_cons, ih]; omega
theorem cntA : (∀ a, cnt a [] = 0) ∧ (∀ a x H, cnt a (x :: H) = one x a + cnt a H) ∧ (∀ a A B, cnt a (A ++ B) = cnt a A + cnt a B) ∧
    (∀ e, Row.b e none = []) ∧ (∀ e r, Row.b e (some r) = [(r.g, Obj.cells r.cs e (0, 0))]) ∧ (∀ l : Blocks, [] ++ l = l) ∧ (∀ l : Blocks, l ++ [] = l) ∧
    (∀ (x : Nat × Obj) (l m : Blocks), (x :: l) ++ m = x :: (l ++ m)) ∧ (∀ l m : Blocks, List.append l m = l ++ m) :=
  ⟨cnt_nil, cnt_cons, cnt_append, fun _ => rfl, fun _ _ => rfl, fun _ => rfl, List.append_nil, fun _ _ _ => rfl, fun _ _ => rfl⟩
theorem one_self (x : Nat × Obj) : one x x = 1 := by simp [one]
theorem mem_of_cnt {x : Nat × Obj} : ∀ {H : Blocks}, 0 < cnt x H → ∃ H1, Pick x H H1 ∧ ∀ a, cnt a H = one x a + cnt a H1
  | [], h => by simp [cnt_nil] at h
  | y :: H, h => by
    by_cases e : y = x
    · subst e; exact ⟨H, .here, fun a => rfl⟩
    · have h0 : one y x = 0 := by simp [one, e]
      rw [cnt_cons, h0, Nat.zero_add] at h
      obtain ⟨H1, h1, h2⟩ := mem_of_cnt h
      exact ⟨y :: H1, .there h1, fun a => by rw [cnt_cons, cnt_cons, h2 a]; omega⟩
theorem Sub.of_cnt {A : Blocks} : ∀ {H : Blocks}, (∀ a, cnt a A ≤ cnt a H) → Sub A H := by
  induction A with
  | nil => exact fun _ => .nil
  | cons x A ih =>
    intro H h
    have hx := h x
    rw [cnt_cons, one_self] at hx
    obtain ⟨H1, h1, h2⟩ := mem_of_cnt (x := x) (H := H) (by omega)
    refine .cons h1 (ih fun a => ?_)
    have := h a
    rw [cnt_cons, h2 a] at this
    omega

/-! ### Slices of cells -/
structure Cs (w : World) (oa : Option Addr) (n cap : Nat) (xs : List Value) : Prop where
  le : n ≤ cap
  top : cap ≤ maxLen
  empty : oa = none → cap = 0
  mem : ∀ a, oa = some a → Mem w a xs
theorem Cs.old {w0 w : World} {H : Blocks} {oa : Option Addr} {n cap : Nat} {xs : List Value} (hw : Hp w0 H w) (h : Cs w0 oa n cap xs) : Cs w oa n cap xs :=
  ⟨h.le, h.top, h.empty, fun a ha => (h.mem a ha).old hw⟩
theorem Cs.get_some {w : World} {oa : Option Addr} {n cap : Nat} {xs : List Value} (h : Cs w oa n cap xs) (hl : 0 < n) : ∃ a, oa = some a := by
  cases oa with
  | some a => exact ⟨a, rfl⟩
  | none =>
    have h1 := h.empty rfl
    have h2 := h.le
    omega
theorem cs_nil {w : World} : Cs w none 0 0 [] := { le := Nat.le_refl _, top := by decide, empty := fun _ => rfl, mem := fun a ha => by cases ha }
theorem sub3_0 {a : Option Addr} {h m s : Nat} : sub3 a 0 h m s = .slice a h m := by
  have e : (fun x : Addr => x.add 0) = id := by funext x; simp [Addr.add]
  unfold sub3
  simp [e]
theorem Cs.take {α : Type} {f : α → Value} {w : World} {oa : Option Addr} {n cap : Nat} {l : List α} (h : Cs w oa n cap (l.map f)) {k : Nat} (hk : k ≤ n) : Cs w oa k cap ((l.take k).map f) :=
  ⟨Nat.le_trans hk h.le, h.top, h.empty, fun a ha => by
    have := (h.mem a ha).cut 0 k
    rwa [List.drop_zero, show a.add 0 = a from by simp [Addr.add], ← List.map_take] at this⟩
theorem cs_block {w0 w : World} {H : Blocks} {b n : Nat} {t : TypeId} {fr : Nat × Nat} {xs : List Value} (hw : Hp w0 H w) (hm : (b, Obj.cells xs.toArray t fr) ∈ H) (hn : n ≤ 1000000) : Cs w (some ⟨b, 0, none⟩) n n xs :=
  ⟨Nat.le_refl _, Nat.le_trans hn (by decide), fun h => (by cases h), fun a ha => by
    cases ha
    exact Mem.own hw hm fun j v hj => by simpa using hj⟩
theorem Bs.cs {w : World} {oa : Option Addr} {cap : Nat} {l : List UInt8} (h : Bs w oa cap l) : Cs w oa l.length cap (l.map u8) := ⟨h.le, h.top, h.empty, h.mem⟩
theorem Cs.bs {w : World} {oa : Option Addr} {n cap : Nat} {l : List UInt8} (h : Cs w oa n cap (l.map u8)) (hn : n = l.length) : Bs w oa cap l := ⟨hn ▸ h.le, h.top, h.empty, h.mem⟩
/-- The call's own row as a slice. -/
theorem Row.vw {e : TypeId} {s n : Nat} {xs : List Value} {r : Option Row} (h : Row.ok s n xs r) :
    ∃ oa cap, Row.v n r = .slice oa n cap ∧ (oa = none → n = 0) ∧ ∀ {w0 : World} {H : Blocks} (w : World), Hp w0 H w → (∀ p ∈ Row.b e r, p ∈ H) → Cs w oa n cap xs := by
  cases r with
  | none =>
    obtain ⟨rfl, rfl⟩ := h
    exact ⟨none, 0, rfl, fun _ => rfl, fun _ _ _ => cs_nil⟩
  | some r =>
    refine ⟨some ⟨r.g, 0, none⟩, r.cap, rfl, fun h => (by cases h), fun w hw hm => ⟨h.2.1, h.2.2.1, fun h => (by cases h), fun a ha => ?_⟩⟩
    cases ha
    refine Mem.own hw (hm _ (List.mem_cons_self ..)) fun j v hj => ?_
    rw [← h.2.2.2.2, List.getElem?_take] at hj
    split at hj
    · simpa using hj
    · cases hj
theorem Row.setAt {α : Type} {f : α → Value} {l : List α} {n k : Nat} {r : Row} (x : α) (h : Row.ok 1 n (l.map f) (some r)) (_hk : k < n) : Row.ok 1 n ((l.set k x).map f) (some { r with cs := r.cs.setIfInBounds k (f x) }) := by
  obtain ⟨h1, h2, h3, h4, h5⟩ := h
  refine ⟨by simpa using h1, h2, h3, by simpa using h4, ?_⟩
  simp only [Array.toList_setIfInBounds]
  rw [List.take_set, h5, List.map_set]
theorem Row.len {s n : Nat} {xs : List Value} {r : Option Row} (h : Row.ok s n xs r) : xs.length = n * s := by
  cases r with
  | none => obtain ⟨rfl, rfl⟩ := h; simp
  | some r => exact h.1
theorem Row.ok0 {s : Nat} : Row.ok s 0 [] none := ⟨rfl, rfl⟩

section
variable {c : Cx} {σ : Slots} {H : Blocks} {Q : Post1} {ty : TypeId} {pos : String} {af : Array Edge} {gd : Option (Nat × Bool)} {dst : Option Nat}
/-- 'append(s, t...)', t the call's own row. -/
theorem Eg.appendR {x y : Operand} {t e : TypeId} {s bytes n m : Nat} {z : Value} {r r1 : Option Row} {xs news : List Value} {H0 : Blocks} {v v1 : Value}
    (hx : ev σ x = some v) (hv : v = Row.v n r) (hy : ev σ y = some v1) (hv1 : v1 = Row.v m r1) (hcut : Cut (Row.b e r) H H0)
    (ht : c.P.underlying t = some (.slice e)) (hi : (c.P.info? e).map (fun i => (i.zero, i.size, i.bytes)) = some (some z, s, bytes)) (hzs : z.cells.size = s) (hs0 : 0 < s) (hb1 : 0 < bytes)
    (hr : Row.ok s n xs r) (hr1 : Row.ok s m news r1) (hm : ∀ p ∈ Row.b e r1, p ∈ H) (h1 : ∀ u ∈ news, u.oneCell' = true)
    (hb : (n + m) * bytes ≤ 140737488355328) :
    Eg c σ H ⟨dst, .call { callee := .builtin .append, args := #[x, y], argTypes := #[t, t] }, ty, pos, af, gd⟩
      (fun v H' => ∃ r', v = Row.v (n + m) r' ∧ H' = H0 ++ Row.b e r' ∧ Row.ok s (n + m) (xs ++ news) r' ∧ (r' = none ↔ r = none ∧ m = 0)) := by
  obtain ⟨oa, cap, e1, h0, hc⟩ := Row.vw (e := e) hr1
  subst hv1
  rw [e1] at hy
  exact Eg.append hx hv hy hcut ht hi hzs hs0 hb1 hr (Row.len hr1) (fun a ha w hw => (hc w hw hm).mem a ha) h0 h1 hb
/-- The same, t read from wherever. -/
theorem Eg.appendC {x y : Operand} {t e : TypeId} {s bytes n m cp : Nat} {z : Value} {r : Option Row} {xs news : List Value} {oa : Option Addr} {H0 : Blocks} {v : Value}
    (hx : ev σ x = some v) (hv : v = Row.v n r) (hy : ev σ y = some (.slice oa m cp)) (hcut : Cut (Row.b e r) H H0)
    (ht : c.P.underlying t = some (.slice e)) (hi : (c.P.info? e).map (fun i => (i.zero, i.size, i.bytes)) = some (some z, s, bytes)) (hzs : z.cells.size = s) (hs0 : 0 < s) (hb1 : 0 < bytes)
    (hr : Row.ok s n xs r) (hc : Cs c.w0 oa m cp news) (hl : news.length = m * s) (h1 : ∀ u ∈ news, u.oneCell' = true)
    (hb : (n + m) * bytes ≤ 140737488355328) :
    Eg c σ H ⟨dst, .call { callee := .builtin .append, args := #[x, y], argTypes := #[t, t] }, ty, pos, af, gd⟩
      (fun v H' => ∃ r', v = Row.v (n + m) r' ∧ H' = H0 ++ Row.b e r' ∧ Row.ok s (n + m) (xs ++ news) r' ∧ (r' = none ↔ r = none ∧ m = 0)) :=
  Eg.append hx hv hy hcut ht hi hzs hs0 hb1 hr hl (fun a ha => Rds.old (hc.mem a ha)) (fun h => by have := hc.empty h; have := hc.le; omega) h1 hb

theorem Ev.makeFuncP {f : FuncId} {xs ys : List Operand} {vs us : List Value} (hx : evs σ xs = some vs) (hy : evs σ ys = some us) : Ev c σ H ⟨dst, .makeFunc (.func f) xs.toArray ys.toArray, ty, pos, af, gd⟩ (.func (.func f) vs.toArray us.toArray) := fun A w hf _ => by
  have e : execOp A.eval ⟨dst, .makeFunc (.func f) xs.toArray ys.toArray, ty, pos, af, gd⟩ = (do pure (Next.value (← Instr.makeFunc (.func f) (xs.toArray.map A.eval) (ys.toArray.map A.eval)))) := rfl
  rw [e]
  have h1 := hf.evs hx
  have h2 := hf.evs hy
  simp [Instr.makeFunc, h1, h2]
/-- The call of a closure. -/
theorem JL.callClo {ops : Array Oper} {l : List Oper} {d g : Nat} {f : Operand} {pre post : List Value} {xs : List Operand} {ats : Array TypeId} {vs : List Value} {Y : Value → Blocks → Prop}
    (hdn : Nat.blt d c.n = true) (hg : Gd ops σ gd true) (hf : ev σ f = some (.func (.func g) pre.toArray post.toArray)) (hx : evs σ xs = some vs)
    (hent : ∀ args w, (callFunc g args).run c.P w = .ok (.enter g args) w)
    (hc : ∀ w, Hp c.w0 H w → Calls c.P g (pre ++ vs ++ post).toArray w (Ret w Y))
    (h : ∀ v H', Y v H' → JL c ops ((d, v) :: σ) (H' ++ H) l Q) :
    JL c ops σ H ({ dst := some d, op := .call { callee := .value f, args := xs.toArray, argTypes := ats }, type := ty, pos := pos, after := af, guard := gd } :: l) Q := fun a w hfr hw => by
  have e1 := hfr.ev hf
  have e2 := hfr.evs hx
  refine wpListIn_execC (hg.wanted hfr) rfl (f := g) (args := (pre ++ vs ++ post).toArray) (w' := w) ?_ (Ret.lift hw (hc w hw)) ?_
  · have key : execOp a.eval { dst := some d, op := .call { callee := .value f, args := xs.toArray, argTypes := ats }, type := ty, pos := pos, after := af, guard := gd } =
        (do let d ← resolve a.eval { callee := .value f, args := xs.toArray, argTypes := ats } ty; invoke d.target d.args) := rfl
    rw [key]
    simp only [resolve, e1, List.map_toArray, e2, Deferred.ofValue, Sem.run_bind, Sem.run_pure, Result.andThen_ok, invoke]
    have := hent (pre ++ vs ++ post).toArray w
    simpa using this
  · rintro e w'' ⟨v, H', rfl, h1, H1, rfl, h2⟩
    exact ⟨v, rfl, h v H1 h2 _ _ (hfr.put (Nat.le_of_ble_eq_true hdn) _) h1⟩

theorem JL.callCloV {ops : Array Oper} {l : List Oper} {d g : Nat} {f : Operand} {pre post : List Value} {xs : List Operand} {ats : Array TypeId} {vs : List Value} {v : Value}
    (hdn : Nat.blt d c.n = true) (hg : Gd ops σ gd true) (hf : ev σ f = some (.func (.func g) pre.toArray post.toArray)) (hx : evs σ xs = some vs)
    (hent : ∀ args w, (callFunc g args).run c.P w = .ok (.enter g args) w)
    (hc : ∀ w, Hp c.w0 H w → Calls c.P g (pre ++ vs ++ post).toArray w (Ret w fun v' _ => v' = v))
    (h : JL c ops ((d, v) :: σ) H l Q) :
    JL c ops σ H ({ dst := some d, op := .call { callee := .value f, args := xs.toArray, argTypes := ats }, type := ty, pos := pos, after := af, guard := gd } :: l) Q :=
  JL.callClo hdn hg hf hx hent hc fun v' H' e => by
    subst e
    exact fun a w hf hw => h a w hf ⟨hw.below, fun x hx => hw.blk x (List.mem_append_right _ hx), (List.pairwise_append.1 hw.apart).2.1, hw.mono⟩
theorem Ev.idxS0 {T e : TypeId} {x y : Operand} {ik : IntKind} {g len cap k : Nat} {i : Int} (hx : ev σ x = some (.slice (some ⟨g, 0, none⟩) len cap)) (hy : ev σ y = some (.int ik i)) (hu : c.P.underlying T = some (.slice e)) (hs : ∀ w, (sizeOf e).run c.P w = .ok 1 w)
    (hi : i = (k : Int)) (hk : k < len) : Ev c σ H ⟨dst, .indexAddr T x y, ty, pos, af, gd⟩ (.pointer (some ⟨g, k, none⟩)) := by
  have h := Ev.idxS1 (c := c) (σ := σ) (H := H) (ty := ty) (pos := pos) (af := af) (gd := gd) (dst := dst) hx hy hu hs hi hk
  rwa [add_lit, Nat.zero_add] at h
theorem Row.rd {α : Type} {f : α → Value} {l : List α} {n k : Nat} {r : Row} {e : TypeId} {x : α} (h : Row.ok 1 n (l.map f) (some r)) (hm : (r.g, Obj.cells r.cs e (0, 0)) ∈ H) (hk : l[k]? = some x) : Rd c H ⟨r.g, k, none⟩ (f x) := by
  refine Rd.own hm ?_
  have h1 : (l.map f)[k]? = some (f x) := by rw [List.getElem?_map, hk]; rfl
  rw [← h.2.2.2.2, List.getElem?_take] at h1
  split at h1
  · simpa using h1
  · cases h1
/-- 'make([]T, n)'. -/
theorem En.makeN {T e : TypeId} {x y : Operand} {k : IntKind} {n bytes : Nat} {z : Value} (hx : ev σ x = some (.int k (n : Int))) (hy : ev σ y = some (.int k (n : Int))) (hT : c.P.underlying T = some (.slice e))
    (hi : (c.P.info? e).map (fun i => (i.zero, i.size, i.bytes)) = some (some z, 1, bytes)) (hz : z.cells = #[z]) (hn : n ≤ 1000000) (hb : bytes ≤ 1000) :
    En c σ H ⟨dst, .makeSlice T x y, ty, pos, af, gd⟩ (fun b => .slice (some ⟨b, 0, none⟩) n n) (.cells (List.replicate n z).toArray e (0, 0)) := fun A w hf _ => by
  obtain ⟨i, hi', hz', hsize, hby⟩ := info_parts hi
  have e0 : execOp A.eval ⟨dst, .makeSlice T x y, ty, pos, af, gd⟩ = (do pure (Next.value (← Instr.makeSlice T (A.eval x) (A.eval y)))) := rfl
  rw [e0, hf.ev hx, hf.ev hy]
  have hnb : n * bytes ≤ 1000000 * 1000 := Nat.mul_le_mul hn hb
  have hcast : ((n : Int) * (bytes : Int)) = ((n * bytes : Nat) : Int) := by simp
  have h := run_makeSlice (P := c.P) w T e i z hT hi' hz' k k (n : Int) (n : Int) (by omega) (by omega) (by rw [hsize]; omega) (by rw [hby]; first | (rw [hcast]; omega) | (rw [Int.mul_comm, hcast]; omega)) (by omega)
  have hc : madeCells z.cells ((n : Int).toNat * i.size) = (List.replicate n z).toArray := by
    rw [hsize, madeCells_one hz]
    simp
  rw [hc] at h
  simp [h]

theorem JQ.scN (h : JQ c σ H Q .normal) : JQ c σ H (Exit.noGoto Q) .normal := h
theorem JQ.scR (h : JQ c σ H Q .ret) : JQ c σ H (Exit.noGoto Q) .ret := h
theorem JQ.scE {id : Nat} (h : JQ c σ H Q (.exit id)) : JQ c σ H (Exit.noGoto Q) (.exit id) := h
end
theorem JC.scope {P : Program} {n : Nat} {ds : List Deferred} {w0 : World} {σ : Slots} {H : Blocks} {Q : Post1} {x : Code} (h : JC ⟨P, none, n, ds, w0⟩ σ H x (Exit.noGoto Q)) : JC ⟨P, none, n, ds, w0⟩ σ H (.scope x) Q :=
  fun a w hf hw => (wpIn_wide (n := 7)).2 (wp_scope_straight ((wpIn_wide (n := 7)).1 (h a w hf hw)))

theorem conv_u32_i64 {P : Program} {s d : TypeId} {x : UInt32} (hs : P.underlying s = some (.int .u32)) (hd : P.underlying d = some (.int .i64)) : Conv1 P s d (u32 x) (.int .i64 (x.toNat : Int)) := fun w => by
  have h := conv_int (k0 := .u32) (n := (x.toNat : Int)) hs hd w
  have := x.toNat_lt
  rw [IntWalk.i64_in _ (by omega)] at h
  exact h
theorem Mem.atMap {α : Type} {f : α → Value} {w : World} {a : Addr} {l : List α} (h : Mem w a (l.map f)) {k : Nat} {x : α} (hk : l[k]? = some x) : w.cell? (a.add k) = some (f x) := h k _ (by rw [List.getElem?_map, hk]; rfl)
theorem get_some {α : Type} {l : List α} {k : Nat} (hk : k < l.length) : ∃ x, l[k]? = some x := ⟨l[k], List.getElem?_eq_getElem hk⟩
theorem eq_upto {α : Type} {a b : List α} (hl : a.length = b.length) (h : ∀ j, j < a.length → a[j]? = b[j]?) : a = b := by
  apply List.ext_getElem? 
  intro j
  rcases Nat.lt_or_ge j a.length with h1 | h1
  · exact h j h1
  · rw [List.getElem?_eq_none h1, List.getElem?_eq_none (by omega)]
theorem all_succ {p : Nat → Prop} {k : Nat} (h : ∀ j, j < k → p j) (hk : p k) : ∀ j, j < k + 1 → p j := fun j hj => by
  rcases Nat.lt_or_ge j k with h1 | h1
  · exact h j h1
  · obtain rfl : j = k := by omega
    exact hk

/-! ### Numbers out of bytes -/
def numB (l : List UInt8) : UInt64 := l.foldl (fun n b => n * 256 + b.toUInt64) 0
theorem numB_succ (l : List UInt8) {k : Nat} (hk : k < l.length) : numB (l.take (k + 1)) = numB (l.take k) * 256 + (l.getD k 0).toUInt64 := by
  unfold numB
  rw [List.take_add_one, List.getElem?_eq_getElem hk, List.foldl_append]
  simp only [Option.toList_some, List.foldl_cons, List.foldl_nil, List.getD_eq_getElem?_getD, List.getElem?_eq_getElem hk, Option.getD_some]
theorem shl8_or (n : UInt64) (b : UInt8) : n <<< UInt64.ofNat 8 ||| b.toUInt64 = n * 256 + b.toUInt64 := by
  apply UInt64.toNat_inj.1
  rw [UInt64.toNat_or, UInt64.toNat_shiftLeft, UInt64.toNat_add, UInt64.toNat_mul, UInt8.toNat_toUInt64]
  have e : (UInt64.ofNat 8).toNat % 64 = 8 := rfl
  have h256 : (256 : UInt64).toNat = 256 := rfl
  rw [e, Nat.shiftLeft_eq, h256]
  have hb := b.toNat_lt
  have h1 : n.toNat * 2 ^ 8 % 2 ^ 64 = (n.toNat % 2 ^ 56) * 2 ^ 8 := by omega
  have h2 := Nat.shiftLeft_add_eq_or_of_lt (show b.toNat < 2 ^ 8 by omega) (n.toNat % 2 ^ 56)
  rw [Nat.shiftLeft_eq] at h2
  rw [h1, ← h2]
  omega
/-- Try k of draw i. -/
def tryD (s : List UInt8) (i : UInt32) (k : Nat) : UInt64 := numB ((sha (s ++ be i.toUInt64 4 ++ be (UInt64.ofNat k) 4)).take 8)
/-- A try is small enough. -/
def small (m x : UInt64) : Prop := x.toNat + 18446744073709551616 % m.toNat < 18446744073709551616
instance (m x : UInt64) : Decidable (small m x) := inferInstanceAs (Decidable (_ < _))
def drawn (s : List UInt8) (i : UInt32) (m : UInt64) : Option UInt64 := (((List.range 16).map (tryD s i)).find? (fun x => decide (small m x))).map (· % m)
theorem drawn_none {s : List UInt8} {i : UInt32} {m : UInt64} (h : ∀ j, j < 16 → ¬ small m (tryD s i j)) : drawn s i m = none := by
  unfold drawn
  rw [List.find?_eq_none.2]
  · rfl
  · intro x hx
    obtain ⟨j, hj, rfl⟩ := List.mem_map.1 hx
    simpa using h j (List.mem_range.1 hj)
theorem drawn_some {s : List UInt8} {i : UInt32} {m : UInt64} {k : Nat} (hk : k < 16) (h : ∀ j, j < k → ¬ small m (tryD s i j)) (h1 : small m (tryD s i k)) : drawn s i m = some (tryD s i k % m) := by
  have key : ((List.range 16).map (tryD s i)).find? (fun x => decide (small m x)) = some (tryD s i k) := by
    have e : List.range 16 = List.range k ++ (List.range (16 - k)).map (k + ·) := by
      rw [← List.range_add]; congr 1; omega
    rw [e, List.map_append, List.find?_append, List.find?_eq_none.2]
    · obtain ⟨n, hn⟩ : ∃ n, 16 - k = n + 1 := ⟨16 - k - 1, by omega⟩
      rw [hn, List.range_succ_eq_map]
      simp [h1]
    · intro x hx
      obtain ⟨j, hj, rfl⟩ := List.mem_map.1 hx
      simpa using h j (List.mem_range.1 hj)
  unfold drawn
  rw [key]; rfl
def drawnV (s : List UInt8) (i : UInt32) (m : UInt64) : UInt64 := (drawn s i m).getD 0
def drawnE (s : List UInt8) (i : UInt32) (m : UInt64) : Int := if (drawn s i m).isSome then 0 else 6
/-- The two ways in which 2^64's remainder is come by. -/
theorem rest_ref {m : UInt64} (h1 : 1 ≤ m.toNat) (h2 : m.toNat ≤ 4294967296) : ((18446744073709551615 % m + 1) % m).toNat = 18446744073709551616 % m.toNat := by
  have e : (18446744073709551615 : UInt64).toNat = 18446744073709551615 := rfl
  have hlt := Nat.mod_lt 18446744073709551615 (show 0 < m.toNat by omega)
  rw [UInt64.toNat_mod, UInt64.toNat_add, UInt64.toNat_mod, e]
  show (18446744073709551615 % m.toNat + 1) % 18446744073709551616 % m.toNat = _
  rw [Nat.mod_eq_of_lt (show 18446744073709551615 % m.toNat + 1 < 18446744073709551616 by omega), Nat.mod_add_mod]
theorem rest_prog {m : UInt64} (h1 : 1 ≤ m.toNat) (h2 : m.toNat ≤ 4294967296) : ((0 - m) % m).toNat = 18446744073709551616 % m.toNat := by
  rw [UInt64.toNat_mod, UInt64.toNat_sub]
  show (18446744073709551616 - m.toNat + 0) % 18446744073709551616 % m.toNat = _
  rw [Nat.add_zero, Nat.mod_eq_of_lt (show 18446744073709551616 - m.toNat < 18446744073709551616 by omega)]
  exact (Nat.mod_eq_sub_mod (by omega)).symm
theorem rest_lt {m : UInt64} (h1 : 1 ≤ m.toNat) : 18446744073709551616 % m.toNat < m.toNat := Nat.mod_lt _ (by omega)
theorem small_ref {m x : UInt64} (h1 : 1 ≤ m.toNat) (h2 : m.toNat ≤ 4294967296) : (x.toNat : Int) ≤ ((18446744073709551615 - (18446744073709551615 % m + 1) % m : UInt64).toNat : Int) ↔ small m x := by
  have e := rest_ref h1 h2
  have hl := rest_lt h1
  rw [UInt64.toNat_sub, e]
  show (x.toNat : Int) ≤ (((18446744073709551616 - 18446744073709551616 % m.toNat + 18446744073709551615) % 18446744073709551616 : Nat) : Int) ↔ x.toNat + _ < 18446744073709551616
  omega
theorem neg_toNat {r : UInt64} (h : 0 < r.toNat) : (0 - r).toNat = 18446744073709551616 - r.toNat := by
  rw [UInt64.toNat_sub]
  have := r.toNat_lt
  show (18446744073709551616 - r.toNat + 0) % 18446744073709551616 = _
  omega
end Go.Proofs.YtebinlinhmohbaaDoor
