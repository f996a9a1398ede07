/-
  Several small texts in one: Wp, Reg, Ops, Sha, ShaMem, Range, Seq, Eql, More, Int, Part, Twin.
-/
import Derived.WalkKit
import Derived.CallsIn
import Derived.TacticsIn
import Derived.RangeFuncNested
import Derived.Deep.Quiet
import Derived.Still
import Derived.OrdersIn
import Derived.StillTail
import Derived.Lib.AppendZeros
import Derived.Lib.SliceRun
import Derived.Lib.AppendZerosOnto
import Derived.KernelRfl
import Derived.ChangeKeysEq
import Derived.Laws.StructEq
import Derived.Laws.MakeOwn
import Derived.Scope
namespace Go.Proofs.YtjjoenbighmfoaaDoor
open Go Go.RowKit

/-- Every function, every depth; inside the round 'r' of a range over a function, or outside ('none'). -/
def Fw (r : Option Nat) : Fence := { fn := fun _ => True, depth := none, alive := false, round := r }

theorem callsW {P : Program} {f : FuncId} {args : Array Value} {w : World} {R : Ending → World → Prop} (h : Calls P f args w R) (r : Option Nat) (n : Nat) :
    CallsIn (Fw r) n P f args w R := by
  cases r with
  | none => exact callsIn_wide.2 h
  | some l => exact CallsIn.inRound l (callsIn_wide.2 h)

/-! ### Frames -/
abbrev Slots := List (Nat × Value)
abbrev Blocks := List (Nat × Obj)

def look : Slots → Nat → Option Value
  | [], _ => none
  | (d, v) :: σ, t => bif Nat.beq d t then some v else look σ t

def ev (σ : Slots) : Operand → Option Value
  | .tmp t => look σ t
  | .const v => some v
  | .global g => some (.pointer (some ⟨g, 0, none⟩))
  | .func f => some (.func (.func f) #[] #[])

def evs (σ : Slots) : List Operand → Option (List Value)
  | [] => some []
  | x :: xs => match ev σ x, evs σ xs with
    | some v, some vs => some (v :: vs)
    | _, _ => none

structure Fr (n : Nat) (ds : List Deferred) (σ : Slots) (a : Act) : Prop where
  size : a.tmps.size = n
  defers : a.defers = ds
  get : ∀ t v, look σ t = some v → a.tmps[t]? = some v

theorem look_cons (d : Nat) (v : Value) (σ : Slots) (t : Nat) : look ((d, v) :: σ) t = if d = t then some v else look σ t := by
  simp only [look]
  by_cases h : d = t
  · subst h; simp [Nat.beq_refl]
  · rw [if_neg h]
    have : Nat.beq d t = false := by
      cases hb : Nat.beq d t
      · rfl
      · exact absurd (Nat.eq_of_beq_eq_true hb) h
    rw [this]; rfl

theorem Fr.put {n : Nat} {ds : List Deferred} {σ : Slots} {a : Act} (h : Fr n ds σ a) {d : Nat} (hd : d < n) (v : Value) : Fr n ds ((d, v) :: σ) (a.put (some d) v) := by
  refine ⟨by simp [Act.put, h.size], h.defers, ?_⟩
  intro t u hu
  rw [look_cons] at hu
  by_cases e : d = t
  · subst e
    rw [if_pos rfl] at hu
    cases hu
    simp [Act.put, h.size, hd]
  · rw [if_neg e] at hu
    simp only [Act.put, Array.getElem?_setIfInBounds, if_neg e]
    exact h.get t u hu

theorem Fr.ev {n : Nat} {ds : List Deferred} {σ : Slots} {a : Act} (h : Fr n ds σ a) {x : Operand} {v : Value} (hx : ev σ x = some v) : a.eval x = v := by
  cases x with
  | tmp t =>
    have := h.get t v hx
    simp [Act.eval, Array.getD_eq_getD_getElem?, this]
  | const u => simp only [YtjjoenbighmfoaaDoor.ev, Option.some.injEq] at hx; exact hx
  | global g => simp only [YtjjoenbighmfoaaDoor.ev, Option.some.injEq] at hx; exact hx
  | func f => simp only [YtjjoenbighmfoaaDoor.ev, Option.some.injEq] at hx; exact hx

theorem Fr.evs {n : Nat} {ds : List Deferred} {σ : Slots} {a : Act} (h : Fr n ds σ a) : ∀ {xs : List Operand} {vs : List Value}, evs σ xs = some vs → xs.map a.eval = vs
  | [], vs, hx => by simp only [YtjjoenbighmfoaaDoor.evs, Option.some.injEq] at hx; subst hx; rfl
  | x :: xs, vs, hx => by
    simp only [YtjjoenbighmfoaaDoor.evs] at hx
    split at hx
    · rename_i v us h1 h2
      simp only [Option.some.injEq] at hx
      subst hx
      simp only [List.map_cons, h.ev h1, h.evs h2]
    · cases hx

/-- Forgetting slots: each that is kept reads as before. -/
theorem Fr.weaken {n : Nat} {ds : List Deferred} {σ σ' : Slots} {a : Act} (h : Fr n ds σ a) (hs : ∀ p ∈ σ', look σ p.1 = some p.2) : Fr n ds σ' a := by
  refine ⟨h.size, h.defers, ?_⟩
  intro t v hv
  refine h.get t v ?_
  clear h
  induction σ' with
  | nil => cases hv
  | cons p σ' ih =>
    rw [look_cons p.1 p.2] at hv
    by_cases e : p.1 = t
    · rw [if_pos e] at hv; cases hv
      have := hs p (by simp)
      rw [e] at this; exact this
    · rw [if_neg e] at hv
      exact ih (fun q hq => hs q (by simp [hq])) hv

/-- Slots that are kept, one by one. -/
inductive Keeps (σ : Slots) : Slots → Prop
  | nil : Keeps σ []
  | cons {d : Nat} {v : Value} {σ' : Slots} (h : look σ d = some v) (hs : Keeps σ σ') : Keeps σ ((d, v) :: σ')
theorem Keeps.get {σ σ' : Slots} (h : Keeps σ σ') : ∀ p ∈ σ', look σ p.1 = some p.2 := by
  induction h with
  | nil => simp
  | cons h _ ih =>
    intro p hp
    rcases List.mem_cons.1 hp with rfl | hp
    · exact h
    · exact ih p hp

/-! ### Memory -/
/-- What was there when the call began ('w0') is as it was; and these blocks, the call's own, hold this. -/
structure Hp (w0 : World) (H : Blocks) (w : World) : Prop where
  below : Below w0.heap.size w0 w
  blk : ∀ x ∈ H, w0.heap.size ≤ x.1 ∧ w.heap[x.1]? = some x.2
  apart : H.Pairwise (fun x y => x.1 ≠ y.1)
  mono : w0.drawn ≤ w.drawn

theorem Hp.start (w : World) : Hp w [] w := ⟨Below.refl _ _, by simp, .nil, Nat.le_refl _⟩

theorem Hp.drew {w0 w : World} {H : Blocks} (h : Hp w0 H w) : Hp w0 H { w with drawn := w.drawn + 1 } :=
  ⟨h.below.trans ⟨rfl, rfl, rfl, Nat.le_refl _, fun _ _ => rfl⟩, h.blk, h.apart, Nat.le_succ_of_le h.mono⟩

theorem Hp.lt {w0 w : World} {H : Blocks} (h : Hp w0 H w) {x : Nat × Obj} (hx : x ∈ H) : x.1 < w.heap.size :=
  (Array.getElem?_eq_some_iff.1 (h.blk x hx).2).1

theorem Hp.get {w0 w : World} {H : Blocks} (h : Hp w0 H w) {b : Nat} {o : Obj} (hx : (b, o) ∈ H) : w.heap[b]? = some o := (h.blk _ hx).2

theorem Hp.alloc {w0 w : World} {H : Blocks} (h : Hp w0 H w) (o : Obj) : Hp w0 ((w.heap.size, o) :: H) (w.alloc o) := by
  refine ⟨h.below.alloc h.below.size o, ?_, ?_, h.mono⟩
  · intro x hx
    rcases List.mem_cons.1 hx with rfl | hx
    · exact ⟨h.below.size, heap_alloc_new w o⟩
    · have := h.lt hx
      exact ⟨(h.blk x hx).1, by rw [Below.heap_alloc w o x.1 this]; exact (h.blk x hx).2⟩
  · exact .cons (fun y hy => by have := h.lt hy; simp; omega) h.apart

/-- 'x' taken out of H leaves H'. -/
inductive Pick (x : Nat × Obj) : Blocks → Blocks → Prop
  | here {H : Blocks} : Pick x (x :: H) H
  | there {y : Nat × Obj} {H H' : Blocks} (h : Pick x H H') : Pick x (y :: H) (y :: H')

theorem Pick.mem {x : Nat × Obj} {H H' : Blocks} (h : Pick x H H') : ∀ y, y ∈ H ↔ y = x ∨ y ∈ H' := by
  induction h with
  | here => intro y; simp
  | there _ ih =>
    intro y
    simp only [List.mem_cons, ih y]
    constructor
    · rintro (e | e | e) <;> simp [e]
    · rintro (e | e | e) <;> simp [e]

theorem Pick.apart {x : Nat × Obj} {H H' : Blocks} (h : Pick x H H') (hp : H.Pairwise (fun x y => x.1 ≠ y.1)) : (∀ y ∈ H', x.1 ≠ y.1) ∧ H'.Pairwise (fun x y => x.1 ≠ y.1) := by
  induction h with
  | here => exact List.pairwise_cons.1 hp
  | there h ih =>
    obtain ⟨h1, h2⟩ := List.pairwise_cons.1 hp
    obtain ⟨i1, i2⟩ := ih h2
    refine ⟨fun z hz => ?_, .cons (fun z hz => h1 z ((h.mem z).2 (.inr hz))) i2⟩
    rcases List.mem_cons.1 hz with rfl | hz
    · exact fun e => h1 _ ((h.mem _).2 (.inl rfl)) e.symm
    · exact i1 z hz

/-- Some of the blocks, in whatever order. -/
inductive Sub : Blocks → Blocks → Prop
  | nil {H : Blocks} : Sub [] H
  | cons {x : Nat × Obj} {A H H1 : Blocks} (h : Pick x H H1) (hs : Sub A H1) : Sub (x :: A) H
  | all {H : Blocks} : Sub H H

theorem Sub.dropHead {x : Nat × Obj} {A : Blocks} : Sub A ([x] ++ A) := by
  have : ∀ (A H : Blocks), (∀ y, y ∈ A → y ∈ H) → True := fun _ _ _ => trivial
  clear this
  suffices h : ∀ (x : Nat × Obj) (A : Blocks), Sub A (x :: A) from h x A
  intro x A
  induction A generalizing x with
  | nil => exact .nil
  | cons y A ih => exact .cons (.there .here) (ih x)

theorem Sub.mem {A H : Blocks} (h : Sub A H) : ∀ x ∈ A, x ∈ H := by
  induction h with
  | nil => simp
  | all => exact fun _ h => h
  | cons h _ ih =>
    intro x hx
    rcases List.mem_cons.1 hx with rfl | hx
    · exact (h.mem _).2 (.inl rfl)
    · exact (h.mem _).2 (.inr (ih x hx))

theorem Sub.apart {A H : Blocks} (h : Sub A H) (hp : H.Pairwise (fun x y => x.1 ≠ y.1)) : A.Pairwise (fun x y => x.1 ≠ y.1) := by
  induction h with
  | nil => exact .nil
  | all => exact hp
  | cons h hs ih =>
    obtain ⟨h1, h2⟩ := h.apart hp
    exact .cons (fun y hy => h1 y (hs.mem y hy)) (ih h2)

theorem Hp.sub {w0 w : World} {H H' : Blocks} (h : Hp w0 H w) (hs : Sub H' H) : Hp w0 H' w :=
  ⟨h.below, fun x hx => h.blk x (hs.mem x hx), hs.apart h.apart, h.mono⟩

theorem Hp.perm {w0 w : World} {H H' : Blocks} (h : Hp w0 H w) (hp : H.Perm H') : Hp w0 H' w :=
  ⟨h.below, fun x hx => h.blk x (hp.mem_iff.2 hx), (hp.pairwise_iff (fun e => Ne.symm e)).1 h.apart, h.mono⟩

/-- Block b's content o is written over by o'. -/
inductive Upd (b : Nat) (o o' : Obj) : Blocks → Blocks → Prop
  | here {H : Blocks} : Upd b o o' ((b, o) :: H) ((b, o') :: H)
  | there {x : Nat × Obj} {H H' : Blocks} (h : Upd b o o' H H') : Upd b o o' (x :: H) (x :: H')

theorem Upd.mem {b : Nat} {o o' : Obj} {H H' : Blocks} (h : Upd b o o' H H') : (b, o) ∈ H := by
  induction h with
  | here => simp
  | there _ ih => simp [ih]

theorem Upd.keys {b : Nat} {o o' : Obj} {H H' : Blocks} (h : Upd b o o' H H') : H'.map (·.1) = H.map (·.1) := by
  induction h with
  | here => rfl
  | there _ ih => simp [ih]

theorem pairwise_keys {H H' : Blocks} (hk : H'.map (·.1) = H.map (·.1)) (h : H.Pairwise (fun x y => x.1 ≠ y.1)) : H'.Pairwise (fun x y => x.1 ≠ y.1) := by
  have h1 : (H.map (·.1)).Pairwise (fun a b => a ≠ b) := List.pairwise_map.2 h
  rw [← hk] at h1
  exact List.pairwise_map.1 h1

theorem Upd.spec {b : Nat} {o o' : Obj} {H H' : Blocks} (h : Upd b o o' H H') (hs : H.Pairwise (fun x y => x.1 ≠ y.1)) : ∀ x ∈ H', (x = (b, o')) ∨ (x ∈ H ∧ x.1 ≠ b) := by
  induction h with
  | @here H =>
    intro x hx
    rcases List.mem_cons.1 hx with rfl | hx
    · exact .inl rfl
    · have := (List.pairwise_cons.1 hs).1 x hx
      exact .inr ⟨by simp [hx], fun e => this e.symm⟩
  | @there y H H' hu ih =>
    intro x hx
    obtain ⟨h1, h2⟩ := List.pairwise_cons.1 hs
    rcases List.mem_cons.1 hx with rfl | hx
    · have := h1 _ hu.mem
      exact .inr ⟨by simp, this⟩
    · rcases ih h2 x hx with e | ⟨e1, e2⟩
      · exact .inl e
      · exact .inr ⟨by simp [e1], e2⟩

/-- A block of the call's own is written over. -/
theorem Hp.upd {w0 w w' : World} {H H' : Blocks} {b : Nat} {o o' : Obj} (h : Hp w0 H w) (hu : Upd b o o' H H')
    (hw : w' = { w with heap := w.heap.setIfInBounds b o' }) : Hp w0 H' w' := by
  subst hw
  have hb := h.blk _ hu.mem
  have hlt : b < w.heap.size := h.lt hu.mem
  refine ⟨h.below.trans ⟨rfl, rfl, rfl, by simp, fun k hk => ?_⟩, ?_, pairwise_keys hu.keys h.apart, h.mono⟩
  · simp only [Array.getElem?_setIfInBounds]
    rw [if_neg (by have := hb.1; simp at this; omega)]
  · intro x hx
    rcases hu.spec h.apart x hx with rfl | ⟨e1, e2⟩
    · exact ⟨hb.1, by simp [hlt]⟩
    · refine ⟨(h.blk x e1).1, ?_⟩
      simp only [Array.getElem?_setIfInBounds]
      rw [if_neg (by omega)]
      exact (h.blk x e1).2

/-- What a call leaves that only makes blocks of its own. -/
theorem Hp.call {w0 w w' : World} {H H' : Blocks} (h : Hp w0 H w) (h' : Hp w H' w') : Hp w0 (H' ++ H) w' := by
  refine ⟨h.below.trans (h'.below.mono h.below.size), ?_, ?_, Nat.le_trans h.mono h'.mono⟩
  · intro x hx
    rcases List.mem_append.1 hx with hx | hx
    · exact ⟨Nat.le_trans h.below.size (h'.blk x hx).1, (h'.blk x hx).2⟩
    · exact ⟨(h.blk x hx).1, by rw [h'.below.block _ (h.lt hx)]; exact (h.blk x hx).2⟩
  · rw [List.pairwise_append]
    refine ⟨h'.apart, h.apart, fun x hx y hy => ?_⟩
    have := (h'.blk x hx).1
    have := h.lt hy
    intro e
    omega

/-! ### The judgements -/
structure Cx where
  P : Program
  r : Option Nat
  n : Nat
  ds : List Deferred
  w0 : World

abbrev Post1 := Exit → Act → World → Prop

def J (c : Cx) (σ : Slots) (H : Blocks) (G : Act → World → Prop) : Prop := ∀ a w, Fr c.n c.ds σ a → Hp c.w0 H w → G a w
def JC (c : Cx) (σ : Slots) (H : Blocks) (x : Code) (Q : Post1) : Prop := ∀ a w, Fr c.n c.ds σ a → Hp c.w0 H w → x.wpIn (Fw c.r) 7 c.P Q a w
def JL (c : Cx) (ops : Array Oper) (σ : Slots) (H : Blocks) (l : List Oper) (Q : Post1) : Prop := ∀ a w, Fr c.n c.ds σ a → Hp c.w0 H w → wpListIn (Fw c.r) 7 c.P ops Q l a w
def JQ (c : Cx) (σ : Slots) (H : Blocks) (Q : Post1) (e : Exit) : Prop := ∀ a w, Fr c.n c.ds σ a → Hp c.w0 H w → Q e a w
/-- A region that draws its order and only reads. -/
def JW (c : Cx) (ops : Array Oper) (σ : Slots) (H : Blocks) (l : List Oper) (Q : Act → Prop) : Prop := ∀ a, Fr c.n c.ds σ a → wpQuiet c.P ops (Hp c.w0 H) Q l a

/-- Code, as what follows. -/
abbrev next (c : Cx) (y : Code) (Q : Post1) : Act → World → Prop := fun a w => y.wpIn (Fw c.r) 7 c.P Q a w

section
variable {c : Cx} {σ : Slots} {H : Blocks} {Q : Post1}

theorem JC.seq {x y : Code} (h : JC c σ H x (Exit.then (next c y Q) Q)) : JC c σ H (.seq x y) Q := fun a w hf hw => wpIn_seq (h a w hf hw)
theorem JC.skip (h : JQ c σ H Q .normal) : JC c σ H .skip Q := fun a w hf hw => wpIn_skip (h a w hf hw)
theorem JC.ret (h : JQ c σ H Q .ret) : JC c σ H .ret Q := fun a w hf hw => wpIn_ret (h a w hf hw)
theorem JC.exit {id : Nat} (h : JQ c σ H Q (.exit id)) : JC c σ H (.exit id) Q := fun a w hf hw => wpIn_exit (h a w hf hw)
theorem JC.label {id : Nat} (h : JQ c σ H Q .normal) : JC c σ H (.label id) Q := fun a w hf hw => wpIn_label (h a w hf hw)
theorem JC.block {id : Nat} {x : Code} (h : JC c σ H x (Exit.inBlock id Q)) : JC c σ H (.block id x) Q := fun a w hf hw => wpIn_block (h a w hf hw)
theorem JC.condT {x : Operand} {y z : Code} (hx : ev σ x = some (.bool true)) (h : JC c σ H y Q) : JC c σ H (.cond x y z) Q := fun a w hf hw => wpIn_cond_true (hf.ev hx) (h a w hf hw)
theorem JC.condF {x : Operand} {y z : Code} (hx : ev σ x = some (.bool false)) (h : JC c σ H z Q) : JC c σ H (.cond x y z) Q := fun a w hf hw => wpIn_cond_false (hf.ev hx) (h a w hf hw)
theorem JC.cond {x : Operand} {y z : Code} {b : Bool} (hx : ev σ x = some (.bool b)) (h1 : b = true → JC c σ H y Q) (h2 : b = false → JC c σ H z Q) : JC c σ H (.cond x y z) Q := by
  cases b
  · exact JC.condF hx (h2 rfl)
  · exact JC.condT hx (h1 rfl)
theorem JC.region {id : Nat} {l : List Oper} (h : JL c l.toArray σ H l Q) : JC c σ H (.region id l.toArray false) Q := fun a w hf hw => wpIn_region_lit (h a w hf hw)

theorem JQ.thenN {y : Code} {Q' : Post1} (h : JC c σ H y Q') : JQ c σ H (Exit.then (next c y Q') Q) .normal := h
theorem JQ.thenE {G : Act → World → Prop} {id : Nat} (h : JQ c σ H Q (.exit id)) : JQ c σ H (Exit.then G Q) (.exit id) := h
theorem JQ.thenR {G : Act → World → Prop} (h : JQ c σ H Q .ret) : JQ c σ H (Exit.then G Q) .ret := h
theorem JQ.blockN {id : Nat} (h : JQ c σ H Q .normal) : JQ c σ H (Exit.inBlock id Q) .normal := h
theorem JQ.blockR {id : Nat} (h : JQ c σ H Q .ret) : JQ c σ H (Exit.inBlock id Q) .ret := h
theorem JQ.blockE {id : Nat} (h : JQ c σ H Q .normal) : JQ c σ H (Exit.inBlock id Q) (.exit id) := fun a w hf hw => by
  show Exit.inBlock id Q (.exit id) a w
  simp only [Exit.inBlock, if_true]; exact h a w hf hw
theorem JQ.blockO {id id' : Nat} (hne : Nat.beq id' id = false) (h : JQ c σ H Q (.exit id')) : JQ c σ H (Exit.inBlock id Q) (.exit id') := fun a w hf hw => by
  have hne : ¬ id' = id := fun e => by subst e; rw [Nat.beq_refl] at hne; cases hne
  show Exit.inBlock id Q (.exit id') a w
  simp only [Exit.inBlock, if_neg hne]; exact h a w hf hw

theorem JL.nil {ops : Array Oper} (h : JQ c σ H Q .normal) : JL c ops σ H [] Q := h

theorem JC.weaken {σ' : Slots} {H' : Blocks} {x : Code} (hs : ∀ p ∈ σ', look σ p.1 = some p.2) (hH : Sub H' H) (h : JC c σ' H' x Q) : JC c σ H x Q :=
  fun a w hf hw => h a w (hf.weaken hs) (hw.sub hH)

/-- The loop: 'x' tells where it stands. -/
theorem JC.loop {x : Code} {X : Type} (σI : X → Slots) (HI : X → Blocks) (Inv : X → Prop) (μ : X → Nat) (x0 : X)
    (hs : ∀ p ∈ σI x0, look σ p.1 = some p.2) (hH : Sub (HI x0) H) (h0 : Inv x0)
    (round : ∀ x1, Inv x1 → JC c (σI x1) (HI x1) x (Exit.then (fun a w => ∃ x', Inv x' ∧ μ x' < μ x1 ∧ Fr c.n c.ds (σI x') a ∧ Hp c.w0 (HI x') w) Q)) : JC c σ H (.loop x) Q := by
  intro a w hf hw
  let M : Act → World → Nat → Prop := fun a w k => ∃ x, μ x = k ∧ Inv x ∧ Fr c.n c.ds (σI x) a ∧ Hp c.w0 (HI x) w
  have least : ∀ a w, (∃ k, M a w k) → ∃ k, M a w k ∧ ∀ j, M a w j → k ≤ j := by
    rintro a w ⟨k, hk⟩
    induction k using Nat.strongRecOn with
    | _ k ih =>
      by_cases h : ∃ j, M a w j ∧ j < k
      · obtain ⟨j, hj, hlt⟩ := h
        exact ih j hlt hj
      · refine ⟨k, hk, fun j hj => ?_⟩
        rcases Nat.lt_or_ge j k with hlt | hge
        · exact absurd ⟨j, hj, hlt⟩ h
        · exact hge
  classical
  let lo : Act → World → Nat := fun a w => if h : ∃ k, M a w k then Classical.choose (least a w h) else 0
  have lo1 : ∀ a w, (∃ k, M a w k) → M a w (lo a w) ∧ ∀ j, M a w j → lo a w ≤ j := by
    intro a w h
    simp only [lo, dif_pos h]
    exact Classical.choose_spec (least a w h)
  refine wpIn_loop (fun a w => ∃ k, M a w k) lo ⟨_, x0, rfl, h0, hf.weaken hs, hw.sub hH⟩ ?_
  rintro a w hex
  obtain ⟨x1, hx, hi, hf1, hw1⟩ := (lo1 a w hex).1
  refine wpIn_mono (round x1 hi a w hf1 hw1) ?_
  intro e a' w' hq
  cases e with
  | normal =>
    obtain ⟨x', hi', hlt, hf', hw'⟩ := hq
    have hM : M a' w' (μ x') := ⟨x', rfl, hi', hf', hw'⟩
    refine ⟨⟨_, hM⟩, ?_⟩
    have : lo a' w' ≤ μ x' := (lo1 a' w' ⟨_, hM⟩).2 _ hM
    omega
  | _ => exact hq

/-- The round's end. -/
theorem JQ.loopN {X : Type} {σI : X → Slots} {HI : X → Blocks} {Inv : X → Prop} {μ : X → Nat} {k : Nat} (x' : X)
    (hs : ∀ p ∈ σI x', look σ p.1 = some p.2) (hH : Sub (HI x') H) (hi : Inv x') (hlt : μ x' < k) :
    JQ c σ H (Exit.then (fun a w => ∃ x', Inv x' ∧ μ x' < k ∧ Fr c.n c.ds (σI x') a ∧ Hp c.w0 (HI x') w) Q) .normal :=
  fun _ _ hf hw => ⟨x', hi, hlt, hf.weaken hs, hw.sub hH⟩

/-! ### Operations -/
/-- Whether an operation is carried out. -/
inductive Gd (ops : Array Oper) (σ : Slots) (g : Option (Nat × Bool)) : Bool → Prop
  | none (h : g = Option.none) : Gd ops σ g true
  | some {j d : Nat} {b want : Bool} (h : g = Option.some (j, want)) (hd : (ops[j]?).bind (·.dst) = Option.some d) (hb : look σ d = Option.some (.bool b)) : Gd ops σ g (b == want)

theorem Gd.yes {ops : Array Oper} {σ : Slots} {g : Option (Nat × Bool)} {j d : Nat} {b : Bool} (h : g = Option.some (j, b)) (hd : (ops[j]?).bind (·.dst) = Option.some d) (hb : look σ d = Option.some (.bool b)) : Gd ops σ g true := by
  have := Gd.some h hd hb
  rwa [beq_self_eq_true] at this
theorem Gd.noT {ops : Array Oper} {σ : Slots} {g : Option (Nat × Bool)} {j d : Nat} (h : g = Option.some (j, true)) (hd : (ops[j]?).bind (·.dst) = Option.some d) (hb : look σ d = Option.some (.bool false)) : Gd ops σ g false := Gd.some h hd hb
theorem Gd.noF {ops : Array Oper} {σ : Slots} {g : Option (Nat × Bool)} {j d : Nat} (h : g = Option.some (j, false)) (hd : (ops[j]?).bind (·.dst) = Option.some d) (hb : look σ d = Option.some (.bool true)) : Gd ops σ g false := Gd.some h hd hb

theorem Gd.wanted {ops : Array Oper} {n : Nat} {ds : List Deferred} {a : Act} {o : Oper} {b : Bool} (h : Gd ops σ o.guard b) (hf : Fr n ds σ a) : Region.wanted o (yielded ops a.tmps) = b := by
  cases h with
  | none h => simp [Region.wanted, h]
  | some h hd hb =>
    have := hf.get _ _ hb
    simp [Region.wanted, h, yielded, hd, this]

/-- A value, the world as it was. -/
def Ev (c : Cx) (σ : Slots) (H : Blocks) (o : Oper) (v : Value) : Prop := ∀ a w, Fr c.n c.ds σ a → Hp c.w0 H w → (execOp a.eval o).run c.P w = .ok (.value v) w
/-- A new block. -/
def En (c : Cx) (σ : Slots) (H : Blocks) (o : Oper) (v : Nat → Value) (O : Obj) : Prop := ∀ a w, Fr c.n c.ds σ a → Hp c.w0 H w → (execOp a.eval o).run c.P w = .ok (.value (v w.heap.size)) (w.alloc O)
/-- Nothing handed back; memory of the call's own written. -/
def Es (c : Cx) (σ : Slots) (H : Blocks) (o : Oper) (H' : Blocks) : Prop := ∀ a w, Fr c.n c.ds σ a → Hp c.w0 H w → ∃ w', (execOp a.eval o).run c.P w = .ok .skip w' ∧ Hp c.w0 H' w'
/-- In general: some value, some blocks. -/
def Eg (c : Cx) (σ : Slots) (H : Blocks) (o : Oper) (Y : Value → Blocks → Prop) : Prop := ∀ a w, Fr c.n c.ds σ a → Hp c.w0 H w → ∃ v H' w', (execOp a.eval o).run c.P w = .ok (.value v) w' ∧ Hp c.w0 H' w' ∧ Y v H'

/-- No operation of a deferred call. -/
def notDefer (o : Oper) : Bool := match o.op with | .defer _ => false | _ => true

theorem notDefer_ne {o : Oper} (h : notDefer o = true) : ∀ c, o.op ≠ .defer c := by
  intro c e; simp [notDefer, e] at h

theorem wpListIn_exec {r : Option Nat} {P : Program} {ops : Array Oper} {o : Oper} {l : List Oper} {a : Act} {w w' : World} {v : Value} {Q : Post1}
    (hw : Region.wanted o (yielded ops a.tmps) = true) (hnd : notDefer o = true)
    (he : (execOp a.eval o).run P w = .ok (.value v) w') (h : wpListIn (Fw r) 7 P ops Q l (a.put o.dst v) w') : wpListIn (Fw r) 7 P ops Q (o :: l) a w := by
  unfold wpListIn
  rw [if_pos hw]
  refine ⟨fun _ _ => trivial, ?_⟩
  rw [Oper.semAt_eq _ _ _ (notDefer_ne hnd), he]
  exact h

theorem wpListIn_execS {r : Option Nat} {P : Program} {ops : Array Oper} {o : Oper} {l : List Oper} {a : Act} {w w' : World} {Q : Post1}
    (hw : Region.wanted o (yielded ops a.tmps) = true) (hnd : notDefer o = true)
    (he : (execOp a.eval o).run P w = .ok .skip w') (h : wpListIn (Fw r) 7 P ops Q l (a.put o.dst undef) w') : wpListIn (Fw r) 7 P ops Q (o :: l) a w := by
  unfold wpListIn
  rw [if_pos hw]
  refine ⟨fun _ _ => trivial, ?_⟩
  rw [Oper.semAt_eq _ _ _ (notDefer_ne hnd), he]
  exact h

theorem wpListIn_execC {r : Option Nat} {P : Program} {ops : Array Oper} {o : Oper} {l : List Oper} {a : Act} {w w' : World} {f : FuncId} {args : Array Value} {Q : Post1} {R : Ending → World → Prop}
    (hw : Region.wanted o (yielded ops a.tmps) = true) (hnd : notDefer o = true)
    (he : (execOp a.eval o).run P w = .ok (.enter f args) w') (hc : Calls P f args w' R)
    (h : ∀ e w'', R e w'' → ∃ v, e = .returned v ∧ wpListIn (Fw r) 7 P ops Q l (a.put o.dst v) w'') : wpListIn (Fw r) 7 P ops Q (o :: l) a w := by
  unfold wpListIn
  rw [if_pos hw]
  refine ⟨fun _ _ => trivial, ?_⟩
  rw [Oper.semAt_eq _ _ _ (notDefer_ne hnd), he]
  refine ⟨fun h => by simp [Fw] at h, ?_⟩
  refine (callsW hc r _).mono ?_
  intro e w'' hR
  obtain ⟨v, rfl, h'⟩ := h e w'' hR
  exact h'

variable {ops : Array Oper} {l : List Oper} {o : Oper}

theorem JL.val {d : Nat} {v : Value} (hd : o.dst = some d) (hdn : Nat.blt d c.n = true) (hnd : notDefer o = true) (g : Gd ops σ o.guard true) (e : Ev c σ H o v)
    (h : JL c ops ((d, v) :: σ) H l Q) : JL c ops σ H (o :: l) Q := fun a w hf hw =>
  wpListIn_exec (g.wanted hf) hnd (e a w hf hw) (h _ _ (by rw [hd]; exact hf.put (Nat.le_of_ble_eq_true hdn) v) hw)

theorem JL.new {d : Nat} {v : Nat → Value} {O : Obj} (hd : o.dst = some d) (hdn : Nat.blt d c.n = true) (hnd : notDefer o = true) (g : Gd ops σ o.guard true) (e : En c σ H o v O)
    (h : ∀ b, c.w0.heap.size ≤ b → JL c ops ((d, v b) :: σ) ((b, O) :: H) l Q) : JL c ops σ H (o :: l) Q := fun a w hf hw =>
  wpListIn_exec (g.wanted hf) hnd (e a w hf hw) (h w.heap.size hw.below.size _ _ (by rw [hd]; exact hf.put (Nat.le_of_ble_eq_true hdn) _) (hw.alloc O))

theorem JL.sto {H' : Blocks} (hd : o.dst = none) (hnd : notDefer o = true) (g : Gd ops σ o.guard true) (e : Es c σ H o H') (h : JL c ops σ H' l Q) : JL c ops σ H (o :: l) Q := fun a w hf hw => by
  obtain ⟨w', e1, e2⟩ := e a w hf hw
  exact wpListIn_execS (g.wanted hf) hnd e1 (h _ _ (by rw [hd]; exact hf) e2)

theorem JL.gen {d : Nat} {Y : Value → Blocks → Prop} (hd : o.dst = some d) (hdn : Nat.blt d c.n = true) (hnd : notDefer o = true) (g : Gd ops σ o.guard true) (e : Eg c σ H o Y)
    (h : ∀ v H', Y v H' → JL c ops ((d, v) :: σ) H' l Q) : JL c ops σ H (o :: l) Q := fun a w hf hw => by
  obtain ⟨v, H', w', e1, e2, e3⟩ := e a w hf hw
  exact wpListIn_exec (g.wanted hf) hnd e1 (h v H' e3 _ _ (by rw [hd]; exact hf.put (Nat.le_of_ble_eq_true hdn) _) e2)

theorem JL.skip {d : Nat} (hd : o.dst = some d) (hdn : Nat.blt d c.n = true) (g : Gd ops σ o.guard false) (h : JL c ops ((d, undef) :: σ) H l Q) : JL c ops σ H (o :: l) Q := fun a w hf hw => by
  unfold wpListIn
  rw [if_neg (by rw [g.wanted hf]; simp)]
  exact ⟨fun _ _ => trivial, h _ _ (by rw [hd]; exact hf.put (Nat.le_of_ble_eq_true hdn) _) hw⟩

/-- What a call comes to: it returns v, and leaves these blocks, as seen from w0. -/
def Ret (w0 : World) (Y : Value → Blocks → Prop) : Ending → World → Prop := fun e w' => ∃ v H', e = .returned v ∧ Hp w0 H' w' ∧ Y v H'

theorem JL.call {d f : Nat} {xs : List Operand} {ats : Array TypeId} {ty : TypeId} {pos : String} {af : Array Edge} {gd : Option (Nat × Bool)} {vs : List Value} {Y : Value → Blocks → Prop}
    (hdn : Nat.blt d c.n = true) (g : Gd ops σ gd true) (hx : evs σ xs = some vs)
    (hent : ∀ args w, (callFunc f args).run c.P w = .ok (.enter f args) w)
    (hc : ∀ w, Hp c.w0 H w → Calls c.P f vs.toArray w (Ret c.w0 Y))
    (h : ∀ v H', Y v H' → JL c ops ((d, v) :: σ) H' l Q) :
    JL c ops σ H ({ dst := some d, op := .call { callee := .value (.func f), args := xs.toArray, argTypes := ats }, type := ty, pos := pos, after := af, guard := gd } :: l) Q := fun a w hf hw => by
  refine wpListIn_execC (g.wanted hf) rfl (f := f) (args := vs.toArray) (w' := w) ?_ (hc w hw) ?_
  · have : execOp a.eval { dst := some d, op := .call { callee := .value (.func f), args := xs.toArray, argTypes := ats }, type := ty, pos := pos, after := af, guard := gd } = callFunc f (#[] ++ xs.toArray.map a.eval ++ #[]) := rfl
    rw [this, hent]
    have h2 := hf.evs hx
    simp [h2]
  · rintro e w'' ⟨v, H', rfl, h1, h2⟩
    exact ⟨v, rfl, h v H' h2 _ _ (hf.put (Nat.le_of_ble_eq_true hdn) _) h1⟩

/-- A contract that speaks of the world in which the call is made, carried to the caller's. -/
theorem Ret.lift {P : Program} {w0 w : World} {f : FuncId} {args : Array Value} {Y : Value → Blocks → Prop} (hw : Hp w0 H w) (h : Calls P f args w (Ret w Y)) :
    Calls P f args w (Ret w0 fun v H' => ∃ H1, H' = H1 ++ H ∧ Y v H1) :=
  h.mono fun _ _ ⟨v, H', he, h1, h2⟩ => ⟨v, H' ++ H, he, hw.call h1, H', rfl, h2⟩

theorem Ret.mono {P : Program} {w0 w : World} {f : FuncId} {args : Array Value} {Y Y' : Value → Blocks → Prop} (h : Calls P f args w (Ret w0 Y)) (hy : ∀ v H', Y v H' → Y' v H') :
    Calls P f args w (Ret w0 Y') := h.mono fun _ _ ⟨v, H', he, h1, h2⟩ => ⟨v, H', he, h1, hy v H' h2⟩

/-- The call, by a contract that only makes blocks. -/
theorem JL.callN {d f : Nat} {xs : List Operand} {ats : Array TypeId} {ty : TypeId} {pos : String} {af : Array Edge} {gd : Option (Nat × Bool)} {vs : List Value} {Y : Value → Blocks → Prop}
    (hdn : Nat.blt d c.n = true) (g : Gd ops σ gd true) (hx : evs σ xs = some vs)
    (hent : ∀ args w, (callFunc f args).run c.P w = .ok (.enter f args) w)
    (hc : ∀ w, Hp c.w0 H w → Calls c.P f vs.toArray w (Ret w Y))
    (h : ∀ v H', Y v H' → JL c ops ((d, v) :: σ) (H' ++ H) l Q) :
    JL c ops σ H ({ dst := some d, op := .call { callee := .value (.func f), args := xs.toArray, argTypes := ats }, type := ty, pos := pos, after := af, guard := gd } :: l) Q :=
  JL.call hdn g hx hent (fun w hw => Ret.lift hw (hc w hw)) (fun v H' ⟨H1, e, hy⟩ => by subst e; exact h v H1 hy)

/-- The call, of a function whose blocks nobody sees any more: its value alone. -/
theorem JL.callV {d f : Nat} {xs : List Operand} {ats : Array TypeId} {ty : TypeId} {pos : String} {af : Array Edge} {gd : Option (Nat × Bool)} {vs : List Value} {v : Value}
    (hdn : Nat.blt d c.n = true) (g : Gd ops σ gd true) (hx : evs σ xs = some vs)
    (hent : ∀ args w, (callFunc f args).run c.P w = .ok (.enter f args) w)
    (hc : ∀ w, Hp c.w0 H w → Calls c.P f vs.toArray w (Ret w fun v' _ => v' = v))
    (h : JL c ops ((d, v) :: σ) H l Q) :
    JL c ops σ H ({ dst := some d, op := .call { callee := .value (.func f), args := xs.toArray, argTypes := ats }, type := ty, pos := pos, after := af, guard := gd } :: l) Q :=
  JL.callN hdn g hx hent hc fun v' H' e => by
    subst e
    exact fun a w hf hw => h a w hf ⟨hw.below, fun x hx => hw.blk x (List.mem_append_right _ hx), (List.pairwise_append.1 hw.apart).2.1, hw.mono⟩

theorem look_over {σ : Slots} {d : Nat} {v : Value} (h : look σ d = some v) : ∀ t u, look ((d, v) :: σ) t = some u → look σ t = some u := by
  intro t u hu
  rw [look_cons] at hu
  by_cases e : d = t
  · subst e; rw [if_pos rfl] at hu; rw [h]; exact hu
  · rw [if_neg e] at hu; exact hu
theorem Fr.over {n : Nat} {ds : List Deferred} {a : Act} {d : Nat} {v : Value} (h : look σ d = some v) (hf : Fr n ds σ a) : Fr n ds ((d, v) :: σ) a :=
  ⟨hf.size, hf.defers, fun t u hu => hf.get t u (look_over h t u hu)⟩
theorem JL.split {d : Nat} {b : Bool} (h : look σ d = some (.bool b)) (h1 : b = true → JL c ops ((d, .bool true) :: σ) H l Q) (h2 : b = false → JL c ops ((d, .bool false) :: σ) H l Q) : JL c ops σ H l Q := by
  cases b
  · exact fun a w hf hw => h2 rfl a w (hf.over h) hw
  · exact fun a w hf hw => h1 rfl a w (hf.over h) hw
theorem JL.know {d : Nat} {b b' : Bool} (h : look σ d = some (.bool b')) (hb : b' = b) (h1 : JL c ops ((d, .bool b) :: σ) H l Q) : JL c ops σ H l Q := by
  subst hb; exact fun a w hf hw => h1 a w (hf.over h) hw
theorem JW.split {G : Act → Prop} {d : Nat} {b : Bool} (h : look σ d = some (.bool b)) (h1 : b = true → JW c ops ((d, .bool true) :: σ) H l G) (h2 : b = false → JW c ops ((d, .bool false) :: σ) H l G) : JW c ops σ H l G := by
  cases b
  · exact fun a hf => h2 rfl a (hf.over h)
  · exact fun a hf => h1 rfl a (hf.over h)
theorem JW.know {G : Act → Prop} {d : Nat} {b b' : Bool} (h : look σ d = some (.bool b')) (hb : b' = b) (h1 : JW c ops ((d, .bool b) :: σ) H l G) : JW c ops σ H l G := by
  subst hb; exact fun a hf => h1 a (hf.over h)
theorem JC.knowF {x : Operand} {y z : Code} {b : Bool} (hx : ev σ x = some (.bool b)) (hb : b = false) (h : JC c σ H z Q) : JC c σ H (.cond x y z) Q := by subst hb; exact JC.condF hx h
/-- The value of a slot, or a block's content, said otherwise. -/
theorem JL.re {d : Nat} {v v' : Value} (h : look σ d = some v) (hv : v = v') (h1 : JL c ops ((d, v') :: σ) H l Q) : JL c ops σ H l Q := by
  subst hv; exact fun a w hf hw => h1 a w (hf.over h) hw
theorem JW.re {G : Act → Prop} {d : Nat} {v v' : Value} (h : look σ d = some v) (hv : v = v') (h1 : JW c ops ((d, v') :: σ) H l G) : JW c ops σ H l G := by
  subst hv; exact fun a hf => h1 a (hf.over h)
theorem JC.re {d : Nat} {x : Code} {v v' : Value} (h : look σ d = some v) (hv : v = v') (h1 : JC c ((d, v') :: σ) H x Q) : JC c σ H x Q := by
  subst hv; exact fun a w hf hw => h1 a w (hf.over h) hw
theorem JQ.re {d : Nat} {e : Exit} {v v' : Value} (h : look σ d = some v) (hv : v = v') (h1 : JQ c ((d, v') :: σ) H Q e) : JQ c σ H Q e := by
  subst hv; exact fun a w hf hw => h1 a w (hf.over h) hw
theorem Upd.same {b : Nat} {o : Obj} {H H' : Blocks} (hu : Upd b o o H H') : H' = H := by
  induction hu with
  | here => rfl
  | there _ ih => rw [ih]
theorem JL.reH {b : Nat} {o o' : Obj} {H' : Blocks} (hu : Upd b o o' H H') (ho : o = o') (h1 : JL c ops σ H' l Q) : JL c ops σ H l Q := by
  subst ho; rw [hu.same] at h1; exact h1
theorem JC.reH {b : Nat} {o o' : Obj} {H' : Blocks} {x : Code} (hu : Upd b o o' H H') (ho : o = o') (h1 : JC c σ H' x Q) : JC c σ H x Q := by
  subst ho; rw [hu.same] at h1; exact h1
theorem JQ.reH {b : Nat} {o o' : Obj} {H' : Blocks} {e : Exit} (hu : Upd b o o' H H') (ho : o = o') (h1 : JQ c σ H' Q e) : JQ c σ H Q e := by
  subst ho; rw [hu.same] at h1; exact h1

/-! ### The function's entry and its end -/
def slots0 : Nat → List Value → Slots
  | _, [] => []
  | k, v :: vs => (k, v) :: slots0 (k + 1) vs

theorem look_slots0 : ∀ (vs : List Value) (k t : Nat) (v : Value), look (slots0 k vs) t = some v → k ≤ t ∧ vs[t - k]? = some v
  | [], _, _, _, h => by cases h
  | u :: vs, k, t, v, h => by
    rw [slots0, look_cons] at h
    by_cases e : k = t
    · rw [if_pos e] at h; cases h; subst e; simp
    · rw [if_neg e] at h
      obtain ⟨h1, h2⟩ := look_slots0 vs (k + 1) t v h
      have e2 : t - k = (t - (k + 1)) + 1 := by omega
      exact ⟨by omega, by rw [e2, List.getElem?_cons_succ]; exact h2⟩

theorem enter {P : Program} {f : FuncId} {fn : Func} {x : Code} {vs : List Value} {w : World} {R : Ending → World → Prop} {n : Nat}
    (hf : P.funcs[f]? = some fn) (hb : fn.body = some x) (hn : fn.ntmps = n) (hle : Nat.ble vs.length n = true)
    (h : JC ⟨P, none, n, [], w⟩ (slots0 0 vs) [] x (bodyPost P fn R)) : Calls P f vs.toArray w R := by
  refine calls_of_wp hf hb ?_
  refine (wpIn_wide (n := 7)).1 ?_
  refine h _ w ⟨?_, rfl, ?_⟩ (Hp.start w)
  · have := Nat.le_of_ble_eq_true hle
    simp [hn]; omega
  · intro t v hv
    obtain ⟨_, h2⟩ := look_slots0 vs 0 t v hv
    have hlt : t < vs.length := (List.getElem?_eq_some_iff.1 h2).1
    rw [Array.getElem?_append_left (by simpa using hlt)]
    simpa using h2

/-- The same for a function that writes its caller's blocks (a closure): seen from the caller's start. -/
theorem enterAt {P : Program} {f : FuncId} {fn : Func} {x : Code} {vs : List Value} {w0 w : World} {H : Blocks} {R : Ending → World → Prop} {n : Nat}
    (hf : P.funcs[f]? = some fn) (hb : fn.body = some x) (hn : fn.ntmps = n) (hle : Nat.ble vs.length n = true) (hw : Hp w0 H w)
    (h : JC ⟨P, none, n, [], w0⟩ (slots0 0 vs) H x (bodyPost P fn R)) : Calls P f vs.toArray w R := by
  refine calls_of_wp hf hb ?_
  refine (wpIn_wide (n := 7)).1 ?_
  refine h _ w ⟨?_, rfl, ?_⟩ hw
  · have := Nat.le_of_ble_eq_true hle
    simp [hn]; omega
  · intro t v hv
    obtain ⟨_, h2⟩ := look_slots0 vs 0 t v hv
    have hlt : t < vs.length := (List.getElem?_eq_some_iff.1 h2).1
    rw [Array.getElem?_append_left (by simpa using hlt)]
    simpa using h2

def aggB (d : TypeDesc) : Bool := match d with | .struct _ | .array _ _ => true | _ => false

/-- What one result variable reads as. -/
inductive Rv (P : Program) (σ : Slots) (H : Blocks) : ResultVar → Value → Prop
  | tmp {t : Tmp} {v : Value} (h : look σ t = some v) : Rv P σ H (.tmp t) v
  | agg {p : Tmp} {ty t : TypeId} {b : Nat} {cs : Array Value} {fr : Nat × Nat} {d : TypeDesc} (h : look σ p = some (.pointer (some ⟨b, 0, none⟩))) (hb : (b, Obj.cells cs t fr) ∈ H)
      (hu : P.underlying ty = some d) (hd : aggB d = true) {k : Nat} (hs : ∀ w, (sizeOf ty).run P w = .ok k w) (hk : cs.size = k) : Rv P σ H (.cell p ty) (.agg cs)
  | one {p : Tmp} {ty t : TypeId} {b : Nat} {v : Value} {fr : Nat × Nat} {d : TypeDesc} (h : look σ p = some (.pointer (some ⟨b, 0, none⟩))) (hb : (b, Obj.cells #[v] t fr) ∈ H)
      (hu : P.underlying ty = some d) (hd : aggB d = false) : Rv P σ H (.cell p ty) v

def rvSem (tmps : Array Value) : ResultVar → Sem Value
  | .tmp t => pure (tmps.getD t undef)
  | .cell a t => do loadVar t (← asAddr (tmps.getD a undef))

theorem results_eq (fn : Func) (tmps : Array Value) : results fn tmps = (do
  let vs ← fn.results.mapM (rvSem tmps)
  pure (if h : vs.size = 1 then vs[0] else .tuple vs)) := rfl

theorem run_isAgg {P : Program} {ty : TypeId} {d : TypeDesc} {w : World} (hu : P.underlying ty = some d) : (isAgg ty).run P w = .ok (aggB d) w := by
  cases d <;> simp [isAgg, run_underlying hu, aggB]

theorem run_loadVar_one {P : Program} {ty : TypeId} {d : TypeDesc} {w : World} {a : Addr} {v : Value} (hu : P.underlying ty = some d) (hd : aggB d = false)
    (hc : w.cell? a = some v) : (loadVar ty a).run P w = .ok v w := by
  simp only [loadVar, Sem.run_bind, run_isAgg hu, hd, Result.andThen_ok]
  simp [run_load, hc]

theorem info_of_size {P : Program} {ty : TypeId} {k : Nat} {w : World} (h : (sizeOf ty).run P w = .ok k w) : (P.info? ty).map (·.size) = some k := by
  cases hi : P.info? ty with
  | none => simp [sizeOf, typeInfo, hi] at h
  | some i => simp [sizeOf, typeInfo, hi] at h; simp [h]

theorem run_loadVar_rowB {P : Program} {w : World} {g : Nat} {t ty : TypeId} {cs : Array Value} {fr : Nat × Nat} {d : TypeDesc} (hg : w.heap[g]? = some (.cells cs t fr))
    (hu : P.underlying ty = some d) (hd : aggB d = true) (hi : (P.info? ty).map (·.size) = some cs.size) : (loadVar ty ⟨g, 0, none⟩).run P w = .ok (.agg cs) w := by
  cases d with
  | struct fs => exact run_loadVar_row w g t ty cs fr _ hg hu rfl hi
  | array n e => exact run_loadVar_row w g t ty cs fr _ hg hu rfl hi
  | _ => simp [aggB] at hd

theorem Rv.run {P : Program} {r : ResultVar} {v : Value} {a : Act} {w : World} {n : Nat} {ds : List Deferred} {w0 : World} (h : Rv P σ H r v) (hf : Fr n ds σ a) (hw : Hp w0 H w) : (rvSem a.tmps r).run P w = .ok v w := by
  cases h with
  | tmp h =>
    have := hf.get _ _ h
    simp [rvSem, Array.getD_eq_getD_getElem?, this]
  | agg h hb hu hd hs hk =>
    have := hf.get _ _ h
    simp only [rvSem, Array.getD_eq_getD_getElem?, this, Option.getD_some]
    simp only [Sem.run_bind]
    have e : ∀ b, (asAddr (.pointer (some b))).run P w = .ok b w := fun b => by simp [asAddr]
    rw [e]
    exact run_loadVar_rowB (hw.get hb) hu hd (by rw [info_of_size (hs w), hk])
  | one h hb hu hd =>
    have := hf.get _ _ h
    simp only [rvSem, Array.getD_eq_getD_getElem?, this, Option.getD_some]
    simp only [Sem.run_bind]
    have e : ∀ b, (asAddr (.pointer (some b))).run P w = .ok b w := fun b => by simp [asAddr]
    rw [e]
    refine run_loadVar_one hu hd ?_
    simp [World.cell?, hw.get hb]

/-- The end of a function with one result. -/
theorem JQ.end1 {P : Program} {fn : Func} {w0 : World} {n : Nat} {r : Option Nat} {H' : Blocks} {Y : Value → Blocks → Prop} {r1 : ResultVar} {v : Value} {e : Exit} (he : e = .ret ∨ e = .normal)
    (hr : fn.results = #[r1]) (h1 : Rv P σ H r1 v) (hs : Sub H' H) (hY : Y v H') :
    JQ ⟨P, r, n, [], w0⟩ σ H (bodyPost P fn (Ret w0 Y)) e := fun a w hf hw => by
  have : a.defers = [] ∧ ∃ v, (results fn a.tmps).run P w = .ok v w ∧ Ret w0 Y (.returned v) w := by
    refine ⟨hf.defers, v, ?_, v, H', rfl, hw.sub hs, hY⟩
    rw [results_eq, hr]
    simp [Rv.run h1 hf hw]
  rcases he with rfl | rfl <;> exact this

theorem JQ.end0 {P : Program} {fn : Func} {w0 : World} {n : Nat} {r : Option Nat} {H' : Blocks} {Y : Value → Blocks → Prop} {e : Exit} (he : e = .ret ∨ e = .normal)
    (hr : fn.results = #[]) (hs : Sub H' H) (hY : Y (.tuple #[]) H') :
    JQ ⟨P, r, n, [], w0⟩ σ H (bodyPost P fn (Ret w0 Y)) e := fun a w hf hw => by
  have : a.defers = [] ∧ ∃ v, (results fn a.tmps).run P w = .ok v w ∧ Ret w0 Y (.returned v) w := by
    refine ⟨hf.defers, .tuple #[], ?_, _, H', rfl, hw.sub hs, hY⟩
    rw [results_eq, hr]
    simp
  rcases he with rfl | rfl <;> exact this

theorem JQ.end2 {P : Program} {fn : Func} {w0 : World} {n : Nat} {r : Option Nat} {H' : Blocks} {Y : Value → Blocks → Prop} {r1 r2 : ResultVar} {v1 v2 : Value} {e : Exit} (he : e = .ret ∨ e = .normal)
    (hr : fn.results = #[r1, r2]) (h1 : Rv P σ H r1 v1) (h2 : Rv P σ H r2 v2) (hs : Sub H' H) (hY : Y (.tuple #[v1, v2]) H') :
    JQ ⟨P, r, n, [], w0⟩ σ H (bodyPost P fn (Ret w0 Y)) e := fun a w hf hw => by
  have : a.defers = [] ∧ ∃ v, (results fn a.tmps).run P w = .ok v w ∧ Ret w0 Y (.returned v) w := by
    refine ⟨hf.defers, .tuple #[v1, v2], ?_, _, H', rfl, hw.sub hs, hY⟩
    rw [results_eq, hr]
    simp [Rv.run h1 hf hw, Rv.run h2 hf hw]
  rcases he with rfl | rfl <;> exact this

theorem JQ.end3 {P : Program} {fn : Func} {w0 : World} {n : Nat} {r : Option Nat} {H' : Blocks} {Y : Value → Blocks → Prop} {r1 r2 r3 : ResultVar} {v1 v2 v3 : Value} {e : Exit} (he : e = .ret ∨ e = .normal)
    (hr : fn.results = #[r1, r2, r3]) (h1 : Rv P σ H r1 v1) (h2 : Rv P σ H r2 v2) (h3 : Rv P σ H r3 v3) (hs : Sub H' H) (hY : Y (.tuple #[v1, v2, v3]) H') :
    JQ ⟨P, r, n, [], w0⟩ σ H (bodyPost P fn (Ret w0 Y)) e := fun a w hf hw => by
  have : a.defers = [] ∧ ∃ v, (results fn a.tmps).run P w = .ok v w ∧ Ret w0 Y (.returned v) w := by
    refine ⟨hf.defers, .tuple #[v1, v2, v3], ?_, _, H', rfl, hw.sub hs, hY⟩
    rw [results_eq, hr]
    simp [Rv.run h1 hf hw, Rv.run h2 hf hw, Rv.run h3 hf hw]
  rcases he with rfl | rfl <;> exact this

/-! ### A region that draws its order and only reads -/
theorem JW.nil {G : Act → Prop} (h : ∀ a, Fr c.n c.ds σ a → G a) : JW c ops σ H [] G := h
theorem JW.nilQ (h : JQ c σ H Q .normal) : JW c ops σ H [] (fun a' => ∀ w', Hp c.w0 H w' → Q .normal a' w') := fun a hf w hw => h a w hf hw

theorem JW.val {G : Act → Prop} {d : Nat} {v : Value} (hd : o.dst = some d) (hdn : Nat.blt d c.n = true) (g : Gd ops σ o.guard true) (e : Ev c σ H o v)
    (h : JW c ops ((d, v) :: σ) H l G) : JW c ops σ H (o :: l) G := fun a hf => by
  unfold wpQuiet
  rw [if_pos (g.wanted hf)]
  refine ⟨v, fun w hw => ?_, h _ (by rw [hd]; exact hf.put (Nat.le_of_ble_eq_true hdn) v)⟩
  unfold Oper.quietAt
  rw [e a w hf hw]
  exact ⟨rfl, rfl⟩

theorem JW.skip {G : Act → Prop} {d : Nat} (hd : o.dst = some d) (hdn : Nat.blt d c.n = true) (g : Gd ops σ o.guard false)
    (h : JW c ops ((d, undef) :: σ) H l G) : JW c ops σ H (o :: l) G := fun a hf => by
  unfold wpQuiet
  rw [if_neg (by rw [g.wanted hf]; simp)]
  exact h _ (by rw [hd]; exact hf.put (Nat.le_of_ble_eq_true hdn) _)

theorem JW.call {G : Act → Prop} {d f : Nat} {xs : List Operand} {ats : Array TypeId} {ty : TypeId} {pos : String} {af : Array Edge} {gd : Option (Nat × Bool)} {vs : List Value} {v : Value}
    (hdn : Nat.blt d c.n = true) (g : Gd ops σ gd true) (hx : evs σ xs = some vs)
    (hent : ∀ args w, (callFunc f args).run c.P w = .ok (.enter f args) w)
    (hc : ∀ w, Hp c.w0 H w → Calls c.P f vs.toArray w (Ret w fun v' _ => v' = v))
    (h : JW c ops ((d, v) :: σ) H l G) :
    JW c ops σ H ({ dst := some d, op := .call { callee := .value (.func f), args := xs.toArray, argTypes := ats }, type := ty, pos := pos, after := af, guard := gd } :: l) G := fun a hf => by
  unfold wpQuiet
  rw [if_pos (g.wanted hf)]
  refine ⟨v, fun w hw => ?_, h _ (hf.put (Nat.le_of_ble_eq_true hdn) v)⟩
  unfold Oper.quietAt
  have e1 : execOp a.eval { dst := some d, op := .call { callee := .value (.func f), args := xs.toArray, argTypes := ats }, type := ty, pos := pos, after := af, guard := gd } = callFunc f (#[] ++ xs.toArray.map a.eval ++ #[]) := rfl
  have h2 := hf.evs hx
  rw [e1, hent]
  refine ⟨rfl, ?_⟩
  simp only [List.map_toArray, h2, Array.empty_append, Array.append_empty]
  exact (Ret.lift hw (hc w hw)).mono fun e w' ⟨v', H', he, h1, H1, e2, hv⟩ => by
    subst hv
    subst e2
    exact ⟨he, h1.below, fun x hx => h1.blk x (List.mem_append_right _ hx), (List.pairwise_append.1 h1.apart).2.1, h1.mono⟩
end
end Go.Proofs.YtjjoenbighmfoaaDoor
namespace Go.Proofs.YtjjoenbighmfoaaDoor
open Go Go.RowKit

section
variable {P : Program} {ops : Array Oper} {md : Region.Mode} {C : World → Prop}

def allKept (ops : Array Oper) : Bool := ops.all notDefer
theorem allKept_spec (h : allKept ops = true) {i : Nat} {o : Oper} (hi : ops[i]? = some o) : notDefer o = true := by
  unfold allKept at h
  rw [Array.all_eq_true] at h
  obtain ⟨hlt, rfl⟩ := Array.getElem?_eq_some_iff.1 hi
  exact h i hlt

theorem wpIn_of_quiet {r : Option Nat} {o : Oper} {a : Act} {K : Act → Prop} {K' : Act → World → Prop} {Q' : Post1} {w : World} (hnd : notDefer o = true) (hw : C w) (h : ∀ a w', C w' → K a → K' a w') (hh : o.quiet P a C K) :
    o.wpIn (Fw r) 7 P a w K' Q' := by
  obtain ⟨v, h1, h2⟩ := hh
  have h3 := h1 w hw
  refine ⟨fun _ _ => trivial, ?_⟩
  rw [Oper.semAt_eq _ _ _ (notDefer_ne hnd)]
  unfold Oper.quietAt at h3
  generalize (execOp a.eval o).run P w = x at *
  cases x with
  | ok n w' =>
    cases n <;> simp only [Oper.quietUpon] at h3 <;> simp only [Oper.uponIn]
    case value u =>
      obtain ⟨e1, e2⟩ := h3
      rw [e1, e2]; exact h _ _ hw h2
    case skip =>
      obtain ⟨e1, e2⟩ := h3
      rw [e1, ← e2]; exact h _ _ hw h2
    case enter f args =>
      obtain ⟨e1, hc⟩ := h3
      rw [e1]
      refine ⟨fun h => by simp [Fw] at h, (callsW hc r _).mono ?_⟩
      rintro e w'' ⟨he, hw''⟩
      subst he
      exact h _ _ hw'' h2
  | halt x w' => simp only [Oper.quietUpon] at h3

theorem wpOpIn_of_qOp {r : Option Nat} {i : Nat} {a : Act} {K : Act → Prop} {K' : Act → World → Prop} {Q' : Post1} {w : World} (hnd : allKept ops = true) (hC : C w) (h : ∀ a w', C w' → K a → K' a w') (hh : qOp P ops C i K a) :
    wpOpIn (Fw r) 7 P ops Q' i K' a w := by
  unfold qOp at hh
  unfold wpOpIn
  split
  · rename_i ho; simp only [ho] at hh; exact h _ _ hC hh
  · rename_i o ho
    simp only [ho] at hh
    split
    · rename_i hw; simp only [hw, if_true] at hh; exact wpIn_of_quiet (allKept_spec hnd ho) hC h hh
    · rename_i hw; simp only [hw] at hh; exact ⟨fun _ _ => trivial, h _ _ hC hh⟩

theorem wpAnyIn_of_quiet {r : Option Nat} {Q : Act → Prop} {Q' : Post1} (hnd : allKept ops = true) (hQ : ∀ a w, C w → Q a → Q' .normal a w) : ∀ (fuel : Nat) (listed : Array Bool) (a : Act) (w : World), C w →
    wpAnyQ P md ops C Q fuel listed a → wpAnyIn (Fw r) 7 P md ops Q' fuel listed a w
  | 0, _, _, _, hw, h => ⟨h.1, hQ _ _ hw h.2⟩
  | fuel + 1, _, _, _, hw, h => ⟨fun h0 => hQ _ _ hw (h.1 h0), fun i hi => wpOpIn_of_qOp hnd hw (fun a' w' hw' => wpAnyIn_of_quiet hnd hQ fuel _ a' w' hw') (h.2 i hi)⟩

/-! the head and the tail (after Derived/StillTail.lean, over a class of worlds and inside a fence) -/
def wpAnyLQ (P : Program) (md : Region.Mode) (ops : Array Oper) (C : World → Prop) (n : Nat) (L : Array Bool → Act → Prop) : Nat → Array Bool → Act → Prop
  | 0, listed, a => L listed a
  | f + 1, listed, a =>
    Region.ready md ops listed ≠ [] ∧ ∀ i ∈ Region.ready md ops listed, i < n ∧ qOp P ops C i (wpAnyLQ P md ops C n L f (listed.setIfInBounds i true)) a

theorem wpAnyIn_of_head {r : Option Nat} {n g : Nat} {L : Array Bool → Act → Prop} {Q' : Post1} (hnd : allKept ops = true) (hL : ∀ listed a w, C w → L listed a → wpAnyIn (Fw r) 7 P md ops Q' g listed a w) :
    ∀ (f : Nat) (listed : Array Bool) (a : Act) (w : World), C w → wpAnyLQ P md ops C n L f listed a → wpAnyIn (Fw r) 7 P md ops Q' (f + g) listed a w
  | 0, listed, a, w, hw, h => by rw [Nat.zero_add]; exact hL _ _ _ hw h
  | f + 1, listed, a, w, hw, h => by
    rw [show f + 1 + g = (f + g) + 1 by omega]
    exact ⟨fun h0 => absurd h0 h.1, fun i hi => wpOpIn_of_qOp hnd hw (fun a' w' hw' h' => wpAnyIn_of_head hnd hL f _ a' w' hw' h') (h.2 i hi).2⟩

theorem wpAnyLQ_first {n i : Nat} {oi : Oper} {v : Value} {L : Array Bool → Act → Prop} (hi : ops[i]? = some oi) (hsel : ∀ (j : Nat) (o : Oper) cs b, ops[j]? = some o → o.op ≠ .select cs b)
    (hs : Region.sinkB md ops n = true) (hc : Region.chainB md ops n = true) (hn : n < ops.size) (hin : i < n)
    (hdone : ∀ listed a, L listed a → ∀ j ∈ Region.ready md ops listed, n ≤ j) :
    ∀ (f : Nat) (listed : Array Bool) (a : Act), HeadInv md ops n listed →
      (∀ j oj, ops[j]? = some oj → j ≠ i → listed.getD j true = false → (∀ e ∈ oj.after, Region.binds md e = true → e.on ≠ i) → oi.apart ops oj = true) →
      i ∈ Region.ready md ops listed → YieldsIn P ops C oi v a →
      wpAnyLQ P md ops C n L f (listed.setIfInBounds i true) (a.put oi.dst v) → wpAnyLQ P md ops C n L (f + 1) listed a := by
  intro f
  induction f with
  | zero =>
    intro listed a inv _ hr hy H
    have hun := (mem_ready.1 hr).1
    refine ⟨fun h => (by rw [h] at hr; cases hr), fun j hj => ?_⟩
    have hjn : j < n := by
      rcases Nat.lt_or_ge j n with h | h
      · exact h
      · exact absurd hj (tail_waits hs hc hn inv _ i rfl hin hun j h)
    refine ⟨hjn, ?_⟩
    by_cases hji : j = i
    · subst hji; exact hy.qOp hi H
    · have := hdone _ _ H j (ready_mono hj hji)
      omega
  | succ f ih =>
    intro listed a inv hfree hr hy H
    have hun := (mem_ready.1 hr).1
    refine ⟨fun h => (by rw [h] at hr; cases hr), fun j hj => ?_⟩
    have hjn : j < n := by
      rcases Nat.lt_or_ge j n with h | h
      · exact h
      · exact absurd hj (tail_waits hs hc hn inv _ i rfl hin hun j h)
    refine ⟨hjn, ?_⟩
    by_cases hji : j = i
    · subst hji; exact hy.qOp hi H
    · have h1 := (H.2 j (ready_mono hj hji)).2
      obtain ⟨hjun, oj, hoj, hall⟩ := mem_ready.1 hj
      have hnot : ∀ e ∈ oj.after, Region.binds md e = true → e.on ≠ i := fun e he hb heq => by
        have h1 := hall e he hb
        rw [heq, getD_both hun] at h1
        cases h1
      have h2 := qOp_put hoj (hfree j oj hoj hji hjun hnot) (fun cs b => hsel i oi cs b hi) (fun cs b => hsel j oj cs b hoj) hy h1
      have hfree' : ∀ k ok, ops[k]? = some ok → k ≠ i → (listed.setIfInBounds j true).getD k true = false →
          (∀ e ∈ ok.after, Region.binds md e = true → e.on ≠ i) → oi.apart ops ok = true := fun k ok hk hki hun hno => by
        refine hfree k ok hk hki ?_ hno
        by_cases hjk : j = k
        · subst hjk; exact hjun
        · rw [getD_set_ne true hjk] at hun; exact hun
      refine qOp_mono (fun a' h3 => ih (listed.setIfInBounds j true) a' (inv.set hj hjn) hfree' (ready_mono hr (Ne.symm hji)) h3.1 ?_) h2
      rw [Array.setIfInBounds_comm _ _ hji]
      exact h3.2

theorem wpAnyIn_of_seq {r : Option Nat} {Q' : Post1} : ∀ (l : List Oper) (k : Nat) (listed : Array Bool) (a : Act) (w : World), (∀ j, l[j]? = ops[k + j]?) →
    Region.seqB md ops l.length k listed = true → wpListIn (Fw r) 7 P ops Q' l a w → wpAnyIn (Fw r) 7 P md ops Q' l.length listed a w
  | [], _, _, _, _, _, hB, h => ⟨by simpa [Region.seqB] using hB, h⟩
  | o :: l, k, listed, a, w, hl, hB, h => by
    have h0 : ops[k]? = some o := by simpa using (hl 0).symm
    simp only [List.length_cons, Region.seqB, Bool.and_eq_true, decide_eq_true_eq] at hB
    refine ⟨fun h1 => (by rw [hB.1] at h1; cases h1), fun i hi => ?_⟩
    rw [hB.1] at hi
    have hik : i = k := by simpa using hi
    subst hik
    have hw : wpOpIn (Fw r) 7 P ops Q' i (wpListIn (Fw r) 7 P ops Q' l) a w := by unfold wpOpIn; simp only [h0]; exact h
    exact wpOpIn_mono (fun a' w' h' => wpAnyIn_of_seq l (i + 1) _ a' w' (fun j => by have := hl (j + 1); simpa [Nat.add_assoc, Nat.add_comm 1 j] using this) hB.2 h') hw

theorem wpAnyLQ_lex {n g : Nat} {Lq : Act → Prop} (hsel : Region.noSelect ops = true) (hs : Region.sinkB md ops n = true) (hc : Region.chainB md ops n = true) (hn : n < ops.size) :
    ∀ (l : List Oper) (k : Nat) (listed : Array Bool) (a : Act), (∀ j, j < l.length → l[j]? = ops[k + j]?) → k + l.length = n → HeadInv md ops n listed →
    Region.lexHead md ops g l.length k listed = true → wpQuiet P ops C Lq l a →
    wpAnyLQ P md ops C n (fun listed' a' => Region.seqB md ops g n listed' = true ∧ Lq a') l.length listed a
  | [], k, listed, a, _, hk, _, hB, h => by
    have : k = n := by simpa using hk
    subst this
    exact ⟨by simpa [Region.lexHead] using hB, h⟩
  | o :: l, k, listed, a, hl, hk, inv, hB, h => by
    have h0 : ops[k]? = some o := by simpa using (hl 0 (by simp)).symm
    simp only [List.length_cons, Region.lexHead, Bool.and_eq_true] at hB
    obtain ⟨⟨hr, hf⟩, hB'⟩ := hB
    have hkn : k < n := by simp only [List.length_cons] at hk; omega
    have hr' : k ∈ Region.ready md ops listed := by simpa using hr
    have hst : qOp P ops C k (wpQuiet P ops C Lq l) a := by unfold qOp; simp only [h0]; exact h
    obtain ⟨v, hy, hK⟩ := yieldsIn_of_qOp h0 hst
    exact wpAnyLQ_first h0 (Region.noSelect_spec hsel) hs hc hn hkn (fun listed' a' hL => seqB_ready hL.1) l.length listed a inv (Region.free_spec h0 hf) hr' hy
      (wpAnyLQ_lex hsel hs hc hn l (k + 1) _ _ (fun j hj => by have := hl (j + 1) (by simp; omega); simpa [Nat.add_assoc, Nat.add_comm 1 j] using this) (by simp only [List.length_cons] at hk; omega) (inv.set hr' hkn) hB' hK)
end

section
variable {c : Cx} {σ : Slots} {H : Blocks} {Q : Post1}
/-- All operations only read. -/
theorem JC.regionQ {id : Nat} {l : List Oper} (hm : c.P.follows .mixedOrders = true) (hB : (allKept l.toArray && Region.lexB .any l.toArray) = true)
    (h : JW c l.toArray σ H l (fun a' => ∀ w', Hp c.w0 H w' → Q .normal a' w')) : JC c σ H (.region id l.toArray true) Q := fun a w hf hw => by
  simp only [Bool.and_eq_true, Region.lexB] at hB
  refine wpIn_region_any hm (wpAnyIn_of_quiet (C := Hp c.w0 H) (Q := fun a' => ∀ w', Hp c.w0 H w' → Q .normal a' w') hB.1 (fun _ w' hw' h => h w' hw') _ _ _ _ hw.drew ?_)
  have := wpAnyQ_lex (C := Hp c.w0 H) (md := .any) hB.2.1 l 0 (Array.replicate l.toArray.size false) a (by simp) (by simpa using hB.2.2) (h a hf)
  simpa using this

/-- All but the last few only read; these come one behind the other, behind all others. -/
theorem JC.regionT (n : Nat) {id : Nat} {l l1 l2 : List Oper} (hm : c.P.follows .mixedOrders = true) (hB : (allKept l.toArray && Region.lexTailB .any l.toArray n) = true) (hl : l = l1 ++ l2) (hn1 : l1.length = n)
    (h : JW c l.toArray σ H l1 (fun a' => ∀ w', Hp c.w0 H w' → wpListIn (Fw c.r) 7 c.P l.toArray Q l2 a' w')) : JC c σ H (.region id l.toArray true) Q := fun a w hf hw => by
  simp only [Bool.and_eq_true] at hB
  obtain ⟨hnd, hB⟩ := hB
  simp only [Region.lexTailB, Bool.and_eq_true, decide_eq_true_eq] at hB
  obtain ⟨⟨⟨⟨hsel, hn⟩, hs⟩, hc⟩, hlex⟩ := hB
  subst hn1
  have htl : l2.length = l.toArray.size - l1.length := by subst hl; simp
  have inv0 : HeadInv .any l.toArray l1.length (Array.replicate l.toArray.size false) :=
    ⟨by simp, fun j oj _ hl => (by rw [getD_replicate_false] at hl; cases hl), fun t _ ht => getD_in (by simpa using ht) (getD_replicate_false _ _)⟩
  have hH := wpAnyLQ_lex (md := .any) (C := Hp c.w0 H) (g := l.toArray.size - l1.length) hsel hs hc hn l1 0 _ a (fun j hj => by
    subst hl; simp [List.getElem?_append_left hj]) (by simp) inv0 hlex (h a hf)
  refine wpIn_region_any hm ?_
  have := wpAnyIn_of_head (r := c.r) (Q' := Q) (g := l.toArray.size - l1.length) hnd (fun listed a' w' hw' hL => by
    have := wpAnyIn_of_seq (md := .any) (r := c.r) (Q' := Q) l2 l1.length listed a' w' (fun j => by subst hl; simp [List.getElem?_append_right]) (by rw [htl]; exact hL.1) (hL.2 w' hw')
    rwa [htl] at this) _ _ _ { w with drawn := w.drawn + 1 } hw.drew hH
  rw [show l1.length + (l.toArray.size - l1.length) = l.toArray.size by simp only [List.size_toArray] at hn ⊢; omega] at this
  exact this

/-- From the head to the tail. -/
theorem JW.tail {ops : Array Oper} {l2 : List Oper} (h : JL c ops σ H l2 Q) : JW c ops σ H [] (fun a' => ∀ w', Hp c.w0 H w' → wpListIn (Fw c.r) 7 c.P ops Q l2 a' w') := fun a hf w hw => h a w hf hw

/-! ### Whatever order: one operation at a time -/
def JO (c : Cx) (ops : Array Oper) (σ : Slots) (H : Blocks) (o : Oper) (K : Act → World → Prop) (Q : Post1) : Prop := ∀ a w, Fr c.n c.ds σ a → Hp c.w0 H w →
  if Region.wanted o (yielded ops a.tmps) then o.wpIn (Fw c.r) 7 c.P a w K Q else (∀ f, o.about c.P w a.eval = some f → (Fw c.r).fn f) ∧ K (a.put o.dst undef) w
def JA (c : Cx) (ops : Array Oper) (σ : Slots) (H : Blocks) (fuel : Nat) (listed : Array Bool) (Q : Post1) : Prop := ∀ a w, Fr c.n c.ds σ a → Hp c.w0 H w → wpAnyIn (Fw c.r) 7 c.P .any ops Q fuel listed a w
def JAll (c : Cx) (ops : Array Oper) (σ : Slots) (H : Blocks) (fuel : Nat) (listed : Array Bool) (Q : Post1) (rs : List Nat) : Prop := ∀ a w, Fr c.n c.ds σ a → Hp c.w0 H w → ∀ i ∈ rs, wpOpIn (Fw c.r) 7 c.P ops Q i (wpAnyIn (Fw c.r) 7 c.P .any ops Q fuel (listed.setIfInBounds i true)) a w
variable {ops : Array Oper} {K : Act → World → Prop} {o : Oper} {fuel : Nat} {listed : Array Bool}

theorem JC.regionA {id : Nat} {l : List Oper} (hm : c.P.follows .mixedOrders = true) (h : JA c l.toArray σ H l.length (Array.replicate l.length false) Q) : JC c σ H (.region id l.toArray true) Q := fun a w hf hw =>
  wpIn_region_any hm (by simpa using h a _ hf hw.drew)
theorem JAll.nil : JAll c ops σ H fuel listed Q [] := fun _ _ _ _ _ h => by cases h
theorem JAll.cons {i : Nat} {rs : List Nat} (ho : ops[i]? = some o) (h1 : JO c ops σ H o (wpAnyIn (Fw c.r) 7 c.P .any ops Q fuel (listed.setIfInBounds i true)) Q) (hs : JAll c ops σ H fuel listed Q rs) : JAll c ops σ H fuel listed Q (i :: rs) := fun a w hf hw j hj => by
  rcases List.mem_cons.1 hj with rfl | hj
  · unfold wpOpIn; rw [ho]; exact h1 a w hf hw
  · exact hs a w hf hw j hj
theorem JA.branch (rs : List Nat) (hr : Region.ready .any ops listed = rs) (hne : rs.isEmpty = false) (h : JAll c ops σ H fuel listed Q rs) : JA c ops σ H (fuel + 1) listed Q := fun a w hf hw =>
  wpAnyIn_all hr (by intro e; rw [e] at hne; cases hne) (h a w hf hw)
theorem JA.done (hr : Region.ready .any ops listed = []) (h : JQ c σ H Q .normal) : JA c ops σ H fuel listed Q := fun a w hf hw => wpAnyIn_done hr (h a w hf hw) _
/-- An operation that looks at no memory may be taken first. -/
theorem JA.take (i : Nat) {d : Nat} {v : Value} (hro : c.r = none) (hi : ops[i]? = some o) (hd : o.dst = some d) (hdn : Nat.blt d c.n = true) (hs : Region.noSelect ops = true) (hf : Region.free .any ops listed i = true) (hr : (Region.ready .any ops listed).contains i = true)
    (hQ : ∀ ch a w, Q (.panic ch) (a.put o.dst v) w → Q (.panic ch) a w) (hab : ∀ w (a : Act), o.about c.P w a.eval = none)
    (g : Gd ops σ o.guard true) (e : ∀ w0, Ev { c with w0 := w0 } σ [] o v) (h : JA c ops ((d, v) :: σ) H fuel (listed.setIfInBounds i true) Q) : JA c ops σ H (fuel + 1) listed Q := fun a w hf1 hw =>
  wpAnyIn_take (i := i) (v := v) (by simpa [Fw] using hro) hi hs hf hr hQ ⟨.inl ⟨g.wanted hf1, fun w' => e w' a w' hf1 (Hp.start w')⟩, fun w' => hab w' a⟩
    (h _ _ (by rw [hd]; exact hf1.put (Nat.le_of_ble_eq_true hdn) v) hw)

theorem JO.val {d : Nat} {v : Value} (hd : o.dst = some d) (hdn : Nat.blt d c.n = true) (hnd : notDefer o = true) (g : Gd ops σ o.guard true) (e : Ev c σ H o v)
    (h : J c ((d, v) :: σ) H K) : JO c ops σ H o K Q := fun a w hf hw => by
  rw [if_pos (g.wanted hf)]
  refine ⟨fun _ _ => trivial, ?_⟩
  rw [Oper.semAt_eq _ _ _ (notDefer_ne hnd), e a w hf hw]
  exact h _ _ (by rw [hd]; exact hf.put (Nat.le_of_ble_eq_true hdn) v) hw
theorem JO.new {d : Nat} {v : Nat → Value} {O : Obj} (hd : o.dst = some d) (hdn : Nat.blt d c.n = true) (hnd : notDefer o = true) (g : Gd ops σ o.guard true) (e : En c σ H o v O)
    (h : ∀ b, c.w0.heap.size ≤ b → J c ((d, v b) :: σ) ((b, O) :: H) K) : JO c ops σ H o K Q := fun a w hf hw => by
  rw [if_pos (g.wanted hf)]
  refine ⟨fun _ _ => trivial, ?_⟩
  rw [Oper.semAt_eq _ _ _ (notDefer_ne hnd), e a w hf hw]
  exact h w.heap.size hw.below.size _ _ (by rw [hd]; exact hf.put (Nat.le_of_ble_eq_true hdn) _) (hw.alloc O)
theorem JO.sto {H' : Blocks} (hd : o.dst = none) (hnd : notDefer o = true) (g : Gd ops σ o.guard true) (e : Es c σ H o H') (h : J c σ H' K) : JO c ops σ H o K Q := fun a w hf hw => by
  obtain ⟨w', e1, e2⟩ := e a w hf hw
  rw [if_pos (g.wanted hf)]
  refine ⟨fun _ _ => trivial, ?_⟩
  rw [Oper.semAt_eq _ _ _ (notDefer_ne hnd), e1]
  exact h _ _ (by rw [hd]; exact hf) e2
theorem JO.gen {d : Nat} {Y : Value → Blocks → Prop} (hd : o.dst = some d) (hdn : Nat.blt d c.n = true) (hnd : notDefer o = true) (g : Gd ops σ o.guard true) (e : Eg c σ H o Y)
    (h : ∀ v H', Y v H' → J c ((d, v) :: σ) H' K) : JO c ops σ H o K Q := fun a w hf hw => by
  obtain ⟨v, H', w', e1, e2, e3⟩ := e a w hf hw
  rw [if_pos (g.wanted hf)]
  refine ⟨fun _ _ => trivial, ?_⟩
  rw [Oper.semAt_eq _ _ _ (notDefer_ne hnd), e1]
  exact h v H' e3 _ _ (by rw [hd]; exact hf.put (Nat.le_of_ble_eq_true hdn) _) e2
theorem JO.callN {d f : Nat} {xs : List Operand} {ats : Array TypeId} {ty : TypeId} {pos : String} {af : Array Edge} {gd : Option (Nat × Bool)} {vs : List Value} {Y : Value → Blocks → Prop}
    (hdn : Nat.blt d c.n = true) (g : Gd ops σ gd true) (hx : evs σ xs = some vs)
    (hent : ∀ args w, (callFunc f args).run c.P w = .ok (.enter f args) w)
    (hc : ∀ w, Hp c.w0 H w → Calls c.P f vs.toArray w (Ret w Y))
    (h : ∀ v H', Y v H' → J c ((d, v) :: σ) (H' ++ H) K) :
    JO c ops σ H { dst := some d, op := .call { callee := .value (.func f), args := xs.toArray, argTypes := ats }, type := ty, pos := pos, after := af, guard := gd } K Q := fun a w hf hw => by
  rw [if_pos (g.wanted hf)]
  refine ⟨fun _ _ => trivial, ?_⟩
  have e1 : execOp a.eval { dst := some d, op := .call { callee := .value (.func f), args := xs.toArray, argTypes := ats }, type := ty, pos := pos, after := af, guard := gd } = callFunc f (#[] ++ xs.toArray.map a.eval ++ #[]) := rfl
  have h2 := hf.evs hx
  rw [Oper.semAt_eq _ _ _ (notDefer_ne rfl), e1, hent]
  simp only [List.map_toArray, h2, Array.empty_append, Array.append_empty]
  refine ⟨fun h => by simp [Fw] at h, (callsW (Ret.lift hw (hc w hw)) c.r _).mono ?_⟩
  rintro e w'' ⟨v, H', rfl, h3, H1, rfl, hy⟩
  exact h v H1 hy _ _ (hf.put (Nat.le_of_ble_eq_true hdn) _) h3
theorem JO.callV {d f : Nat} {xs : List Operand} {ats : Array TypeId} {ty : TypeId} {pos : String} {af : Array Edge} {gd : Option (Nat × Bool)} {vs : List Value} {v : Value}
    (hdn : Nat.blt d c.n = true) (g : Gd ops σ gd true) (hx : evs σ xs = some vs)
    (hent : ∀ args w, (callFunc f args).run c.P w = .ok (.enter f args) w)
    (hc : ∀ w, Hp c.w0 H w → Calls c.P f vs.toArray w (Ret w fun v' _ => v' = v))
    (h : J c ((d, v) :: σ) H K) :
    JO c ops σ H { dst := some d, op := .call { callee := .value (.func f), args := xs.toArray, argTypes := ats }, type := ty, pos := pos, after := af, guard := gd } K Q :=
  JO.callN hdn g hx hent hc fun v' H' e => by
    subst e
    exact fun a w hf hw => h a w hf ⟨hw.below, fun x hx => hw.blk x (List.mem_append_right _ hx), (List.pairwise_append.1 hw.apart).2.1, hw.mono⟩

/-- Cut: what is known behind a piece of code, whichever way led there. -/
theorem JC.cut {x : Code} {X : Type} (σI : X → Slots) (HI : X → Blocks) (h : JC c σ H x (fun e a w => e = .normal ∧ ∃ x, Fr c.n c.ds (σI x) a ∧ Hp c.w0 (HI x) w)) (h2 : ∀ x, JQ c (σI x) (HI x) Q .normal) : JC c σ H x Q := fun a w hf hw =>
  wpIn_mono (h a w hf hw) fun e a' w' ⟨he, x, h3, h4⟩ => by subst he; exact h2 x a' w' h3 h4
theorem JQ.cutN {X : Type} {σI : X → Slots} {HI : X → Blocks} (x : X) (hs : ∀ p ∈ σI x, look σ p.1 = some p.2) (hH : Sub (HI x) H) : JQ c σ H (fun e a w => e = .normal ∧ ∃ x, Fr c.n c.ds (σI x) a ∧ Hp c.w0 (HI x) w) .normal :=
  fun _ _ hf hw => ⟨rfl, x, hf.weaken hs, hw.sub hH⟩
end
end Go.Proofs.YtjjoenbighmfoaaDoor
namespace Go.Proofs.YtjjoenbighmfoaaDoor
open Go Go.RowKit

def u8 (x : UInt8) : Value := .int .u8 x.toNat
def u32 (x : UInt32) : Value := .int .u32 x.toNat
def u64 (x : UInt64) : Value := .int .u64 x.toNat
def i64 (x : Int) : Value := .int .i64 x

/-! ### Binary operations -/
def Bin (P : Program) (op : BinOp) (T : TypeId) (a b v : Value) : Prop := ∀ (x y : Operand) (w : World), (do eqGuard op T x y a b; binOp op T a b : Sem Value).run P w = .ok v w

theorem eqGuard_int {P : Program} {op : BinOp} {T : TypeId} {x y : Operand} {k k' : IntKind} {a b : Int} {w : World} : (eqGuard op T x y (.int k a) (.int k' b)).run P w = .ok () w := by
  unfold eqGuard; split <;> simp

theorem Bin.int {P : Program} {op : BinOp} {T : TypeId} {k k' : IntKind} {a b : Int} {v : Value} (h : ∀ w, (binOp op T (.int k a) (.int k' b)).run P w = .ok v w) : Bin P op T (.int k a) (.int k' b) v := fun x y w => by
  simp only [Sem.run_bind, eqGuard_int, Result.andThen_ok, h]

section
variable {P : Program} {T : TypeId}
theorem add_i64 {a b : Int} (h : -9223372036854775808 ≤ a + b ∧ a + b ≤ 9223372036854775807) : Bin P .add T (.int .i64 a) (.int .i64 b) (.int .i64 (a + b)) :=
  Bin.int fun w => by simp [binOp, Op.intArith, IntWalk.i64_in _ h]
theorem sub_i64 {a b : Int} (h : -9223372036854775808 ≤ a - b ∧ a - b ≤ 9223372036854775807) : Bin P .sub T (.int .i64 a) (.int .i64 b) (.int .i64 (a - b)) :=
  Bin.int fun w => by simp [binOp, Op.intArith, IntWalk.i64_in _ h]
theorem mul_i64 {a b : Int} (h : -9223372036854775808 ≤ a * b ∧ a * b ≤ 9223372036854775807) : Bin P .mul T (.int .i64 a) (.int .i64 b) (.int .i64 (a * b)) :=
  Bin.int fun w => by simp [binOp, Op.intArith, IntWalk.i64_in _ h]
theorem rem_i64 {a b : Int} (h : 0 ≤ a ∧ 1 ≤ b) : Bin P .rem T (.int .i64 a) (.int .i64 b) (.int .i64 (a % b)) :=
  Bin.int fun w => by
    have : ¬ b = 0 := by omega
    simp [binOp, Op.intDiv, this, IntWalk.rem_in _ _ h.1]
theorem lss_int {k : IntKind} {a b : Int} : Bin P .lss T (.int k a) (.int k b) (.bool (decide (a < b))) := Bin.int fun w => by simp [binOp, Op.intCmp]
theorem leq_int {k : IntKind} {a b : Int} : Bin P .leq T (.int k a) (.int k b) (.bool (decide (a ≤ b))) := Bin.int fun w => by simp [binOp, Op.intCmp]
theorem gtr_int {k : IntKind} {a b : Int} : Bin P .gtr T (.int k a) (.int k b) (.bool (decide (b < a))) := Bin.int fun w => by simp [binOp, Op.intCmp]
theorem geq_int {k : IntKind} {a b : Int} : Bin P .geq T (.int k a) (.int k b) (.bool (decide (b ≤ a))) := Bin.int fun w => by simp [binOp, Op.intCmp]
theorem eql_int {k : IntKind} {a b : Int} : Bin P .eql T (.int k a) (.int k b) (.bool (decide (a = b))) := Bin.int fun w => by
  simp only [binOp, Op.intCmp]; simp; rfl
theorem neq_int {k : IntKind} {a b : Int} : Bin P .neq T (.int k a) (.int k b) (.bool (decide (a ≠ b))) := Bin.int fun w => by
  simp only [binOp, Op.intCmp]; simp; rfl

theorem ofInt_u32 (x : UInt32) : BitVec.ofInt IntKind.u32.bits (x.toNat : Int) = x.toBitVec := by
  apply BitVec.eq_of_toNat_eq
  show (BitVec.ofInt 32 (x.toNat : Int)).toNat = x.toNat
  rw [BitVec.toNat_ofInt]
  have := x.toNat_lt
  simp; omega
theorem ofInt_u64 (x : UInt64) : BitVec.ofInt IntKind.u64.bits (x.toNat : Int) = x.toBitVec := by
  apply BitVec.eq_of_toNat_eq
  show (BitVec.ofInt 64 (x.toNat : Int)).toNat = x.toNat
  rw [BitVec.toNat_ofInt]
  have := x.toNat_lt
  simp; omega
theorem wrap_u32n (n : Nat) (h : n < 4294967296) : IntKind.u32.wrap (n : Int) = n := IntWalk.u32_in _ (by omega)
theorem wrap_u64n (n : Nat) (h : n < 18446744073709551616) : IntKind.u64.wrap (n : Int) = n := IntWalk.u64_in _ (by omega)

theorem and_u32 {x y : UInt32} : Bin P .and T (u32 x) (u32 y) (u32 (x &&& y)) := Bin.int fun w => by
  simp only [binOp, Op.intBits, ofInt_u32, u32]
  have := (x &&& y).toNat_lt
  exact congrArg (fun n => Result.ok (Value.int IntKind.u32 n) w) (wrap_u32n _ this)
theorem or_u32 {x y : UInt32} : Bin P .or T (u32 x) (u32 y) (u32 (x ||| y)) := Bin.int fun w => by
  simp only [binOp, Op.intBits, ofInt_u32, u32]
  have := (x ||| y).toNat_lt
  exact congrArg (fun n => Result.ok (Value.int IntKind.u32 n) w) (wrap_u32n _ this)
theorem xor_u32 {x y : UInt32} : Bin P .xor T (u32 x) (u32 y) (u32 (x ^^^ y)) := Bin.int fun w => by
  simp only [binOp, Op.intBits, ofInt_u32, u32]
  have := (x ^^^ y).toNat_lt
  exact congrArg (fun n => Result.ok (Value.int IntKind.u32 n) w) (wrap_u32n _ this)
theorem add_u32 {x y : UInt32} : Bin P .add T (u32 x) (u32 y) (u32 (x + y)) := Bin.int fun w => by
  simp only [binOp, Op.intArith, u32]
  have h : IntKind.u32.wrap ((x.toNat : Int) + y.toNat) = ((x + y).toNat : Int) := by
    rw [IntKind.wrap_u32', UInt32.toNat_add]; omega
  simp [h]
theorem shl_u32 {x : UInt32} {k : IntKind} {n : Nat} (hn : n < 32) : Bin P .shl T (u32 x) (.int k (n : Int)) (u32 (x <<< UInt32.ofNat n)) := Bin.int fun w => by
  have h : IntKind.u32.wrap ((x.toNat : Int) * 2 ^ n) = ((x <<< UInt32.ofNat n).toNat : Int) := by
    rw [IntKind.wrap_u32', UInt32.toNat_shiftLeft]
    have : (UInt32.ofNat n).toNat % 32 = n := by
      rw [UInt32.toNat_ofNat']; omega
    rw [this, Nat.shiftLeft_eq]
    have : ((2 : Int) ^ n) = ((2 ^ n : Nat) : Int) := by simp
    rw [this]
    have : ((x.toNat : Int) * ((2 ^ n : Nat) : Int)) = ((x.toNat * 2 ^ n : Nat) : Int) := by simp
    rw [this]
    omega
  have hm : min n 32 = n := by omega
  have hneg : ¬ ((n : Int) < 0) := by omega
  simp only [binOp, Op.shift, u32, if_neg hneg, Int.toNat_natCast]
  show Sem.run P (pure _) w = _
  rw [show min n IntKind.u32.bits = n from hm]
  rw [h]; rfl
theorem shr_u32 {x : UInt32} {k : IntKind} {n : Nat} (hn : n < 32) : Bin P .shr T (u32 x) (.int k (n : Int)) (u32 (x >>> UInt32.ofNat n)) := Bin.int fun w => by
  have h : (x.toNat : Int).fdiv (2 ^ n) = ((x >>> UInt32.ofNat n).toNat : Int) := by
    rw [UInt32.toNat_shiftRight]
    have : (UInt32.ofNat n).toNat % 32 = n := by
      rw [UInt32.toNat_ofNat']; omega
    rw [this, Nat.shiftRight_eq_div_pow]
    have e : ((2 : Int) ^ n) = ((2 ^ n : Nat) : Int) := by simp
    rw [e, Int.fdiv_eq_ediv_of_nonneg _ (Int.natCast_nonneg _)]
    rfl
  have hm : min n 32 = n := by omega
  have hneg : ¬ ((n : Int) < 0) := by omega
  simp only [binOp, Op.shift, u32, if_neg hneg, Int.toNat_natCast]
  show Sem.run P (pure _) w = _
  rw [show min n IntKind.u32.bits = n from hm]
  rw [h]; rfl
theorem shr_u64 {x : UInt64} {k : IntKind} {n : Nat} (hn : n < 64) : Bin P .shr T (u64 x) (.int k (n : Int)) (u64 (x >>> UInt64.ofNat n)) := Bin.int fun w => by
  have h : (x.toNat : Int).fdiv (2 ^ n) = ((x >>> UInt64.ofNat n).toNat : Int) := by
    rw [UInt64.toNat_shiftRight]
    have : (UInt64.ofNat n).toNat % 64 = n := by
      rw [UInt64.toNat_ofNat']; omega
    rw [this, Nat.shiftRight_eq_div_pow]
    have e : ((2 : Int) ^ n) = ((2 ^ n : Nat) : Int) := by simp
    rw [e, Int.fdiv_eq_ediv_of_nonneg _ (Int.natCast_nonneg _)]
    rfl
  have hm : min n 64 = n := by omega
  have hneg : ¬ ((n : Int) < 0) := by omega
  simp only [binOp, Op.shift, u64, if_neg hneg, Int.toNat_natCast]
  show Sem.run P (pure _) w = _
  rw [show min n IntKind.u64.bits = n from hm]
  rw [h]; rfl
theorem mul_u64 {x y : UInt64} : Bin P .mul T (u64 x) (u64 y) (u64 (x * y)) := Bin.int fun w => by
  simp only [binOp, Op.intArith, u64]
  have h : IntKind.u64.wrap ((x.toNat : Int) * y.toNat) = ((x * y).toNat : Int) := by
    rw [IntKind.wrap_u64, UInt64.toNat_mul]
    have : ((x.toNat : Int) * y.toNat) = ((x.toNat * y.toNat : Nat) : Int) := by simp
    rw [this]; omega
  simp [h]
theorem eql_slice_nil {e : TypeId} {oa : Option Addr} {len cap : Nat} (hu : P.underlying T = some (.slice e)) : Bin P .eql T (.slice oa len cap) (.slice none 0 0) (.bool oa.isNone) := fun x y w => by
  have h1 : (eqGuard .eql T x y (.slice oa len cap) (.slice none 0 0)).run P w = .ok () w := by unfold eqGuard; simp
  simp only [Sem.run_bind, h1, Result.andThen_ok]
  exact Lib.run_eql_slice_nil w T e oa len cap 0 0 hu
end

/-! ### The laws of the operations that leave the world as it is -/
section
variable {c : Cx} {σ : Slots} {H : Blocks} {ty : TypeId} {pos : String} {af : Array Edge} {gd : Option (Nat × Bool)} {dst : Option Nat}

theorem Ev.move {x : Operand} {v : Value} (hx : ev σ x = some v) : Ev c σ H ⟨dst, .move x, ty, pos, af, gd⟩ v := fun a w hf _ => by
  show Result.ok (Next.value (a.eval x)) w = _
  rw [hf.ev hx]
theorem Ev.assign {x : Operand} {v : Value} (hx : ev σ x = some v) : Ev c σ H ⟨dst, .assign x, ty, pos, af, gd⟩ v := fun a w hf _ => by
  show Result.ok (Next.value (a.eval x)) w = _
  rw [hf.ev hx]
theorem Ev.pickT {x y z : Operand} {v : Value} (hx : ev σ x = some (.bool true)) (hy : ev σ y = some v) : Ev c σ H ⟨dst, .pick x y z, ty, pos, af, gd⟩ v := fun a w hf _ => by
  simp [execOp, hf.ev hx, hf.ev hy, asBool]
theorem Ev.pickF {x y z : Operand} {v : Value} (hx : ev σ x = some (.bool false)) (hz : ev σ z = some v) : Ev c σ H ⟨dst, .pick x y z, ty, pos, af, gd⟩ v := fun a w hf _ => by
  simp [execOp, hf.ev hx, hf.ev hz, asBool]
theorem Ev.bin {op : BinOp} {T yT : TypeId} {x y : Operand} {a b v : Value} (hx : ev σ x = some a) (hy : ev σ y = some b) (h : Bin c.P op T a b v) : Ev c σ H ⟨dst, .binOp op T x y yT, ty, pos, af, gd⟩ v := fun A w hf _ => by
  have h1 := h x y w
  have : execOp A.eval ⟨dst, .binOp op T x y yT, ty, pos, af, gd⟩ = (do pure (Next.value (← (do eqGuard op T x y (A.eval x) (A.eval y); binOp op T (A.eval x) (A.eval y) : Sem Value)))) := rfl
  rw [this, hf.ev hx, hf.ev hy]
  simp only [Sem.run_bind, Sem.run_pure] at h1 ⊢
  rw [h1]; rfl
theorem Ev.not {T : TypeId} {x : Operand} {b : Bool} (hx : ev σ x = some (.bool b)) : Ev c σ H ⟨dst, .unOp .not T x, ty, pos, af, gd⟩ (.bool !b) := fun A w hf _ => by
  simp [execOp, hf.ev hx, Op.unary]
theorem Ev.neg64 {T : TypeId} {x : Operand} {n : Int} (hx : ev σ x = some (.int .i64 n)) (h : -9223372036854775807 ≤ n ∧ n ≤ 9223372036854775807) : Ev c σ H ⟨dst, .unOp .neg T x, ty, pos, af, gd⟩ (.int .i64 (-n)) := fun A w hf _ => by
  have : IntKind.i64.wrap (0 - n) = -n := by rw [IntWalk.i64_in _ (by omega)]; omega
  simp only [execOp, hf.ev hx, Op.unary, Op.intArith, this]
  rfl
def Conv1 (P : Program) (s d : TypeId) (a v : Value) : Prop := ∀ w, (convert s d a).run P w = .ok v w
theorem Ev.conv {s d : TypeId} {x : Operand} {a v : Value} (hx : ev σ x = some a) (h : Conv1 c.P s d a v) : Ev c σ H ⟨dst, .convert s d x, ty, pos, af, gd⟩ v := fun A w hf _ => by
  simp [execOp, hf.ev hx, h w]
theorem conv_int {P : Program} {s d : TypeId} {ks k0 k : IntKind} {n : Int} (hs : P.underlying s = some (.int ks)) (hd : P.underlying d = some (.int k)) : Conv1 P s d (.int k0 n) (.int k (k.wrap n)) := fun w => by
  simp [convert, run_underlying hs, run_underlying hd, Conv.intToInt]
theorem conv_u8_u32 {P : Program} {s d : TypeId} {x : UInt8} (hs : P.underlying s = some (.int .u8)) (hd : P.underlying d = some (.int .u32)) : Conv1 P s d (u8 x) (u32 x.toUInt32) := fun w => by
  have h := conv_int (k0 := .u8) (n := (x.toNat : Int)) hs hd w
  rw [show IntKind.u32.wrap (x.toNat : Int) = (x.toUInt32.toNat : Int) from by
    have := x.toNat_lt
    rw [wrap_u32n _ (by omega), UInt8.toNat_toUInt32]] at h
  exact h
theorem conv_u32_u8 {P : Program} {s d : TypeId} {x : UInt32} (hs : P.underlying s = some (.int .u32)) (hd : P.underlying d = some (.int .u8)) : Conv1 P s d (u32 x) (u8 x.toUInt8) := fun w => by
  have h := conv_int (k0 := .u32) (n := (x.toNat : Int)) hs hd w
  rw [show IntKind.u8.wrap (x.toNat : Int) = (x.toUInt8.toNat : Int) from by
    rw [IntKind.wrap_u8', UInt32.toNat_toUInt8]; omega] at h
  exact h
theorem conv_u64_u8 {P : Program} {s d : TypeId} {x : UInt64} (hs : P.underlying s = some (.int .u64)) (hd : P.underlying d = some (.int .u8)) : Conv1 P s d (u64 x) (u8 x.toUInt8) := fun w => by
  have h := conv_int (k0 := .u64) (n := (x.toNat : Int)) hs hd w
  rw [show IntKind.u8.wrap (x.toNat : Int) = (x.toUInt8.toNat : Int) from by
    rw [IntKind.wrap_u8', UInt64.toNat_toUInt8]; omega] at h
  exact h
theorem conv_i64_u64 {P : Program} {s d : TypeId} {n : Nat} (hs : P.underlying s = some (.int .i64)) (hd : P.underlying d = some (.int .u64)) (hn : n < 18446744073709551616) : Conv1 P s d (.int .i64 (n : Int)) (u64 (UInt64.ofNat n)) := fun w => by
  have h := conv_int (k0 := .i64) (n := (n : Int)) hs hd w
  rw [show IntKind.u64.wrap (n : Int) = ((UInt64.ofNat n).toNat : Int) from by
    rw [wrap_u64n _ hn, UInt64.toNat_ofNat']; omega] at h
  exact h
theorem Ev.extract {x : Operand} {vs : Array Value} {i : Nat} {v : Value} (hx : ev σ x = some (.tuple vs)) (hi : vs[i]? = some v) : Ev c σ H ⟨dst, .extract x i, ty, pos, af, gd⟩ v := fun A w hf _ => by
  simp [execOp, hf.ev hx, Instr.extract, hi]

theorem Ev.ex0 {x : Operand} {v : Value} {l : List Value} (hx : ev σ x = some (.tuple ⟨v :: l⟩)) : Ev c σ H ⟨dst, .extract x 0, ty, pos, af, gd⟩ v := Ev.extract hx rfl
theorem Ev.ex1 {x : Operand} {v v0 : Value} {l : List Value} (hx : ev σ x = some (.tuple ⟨v0 :: v :: l⟩)) : Ev c σ H ⟨dst, .extract x 1, ty, pos, af, gd⟩ v := Ev.extract hx rfl
theorem Ev.ex2 {x : Operand} {v v0 v1 : Value} {l : List Value} (hx : ev σ x = some (.tuple ⟨v0 :: v1 :: v :: l⟩)) : Ev c σ H ⟨dst, .extract x 2, ty, pos, af, gd⟩ v := Ev.extract hx rfl

/-! memory read -/
def Mem (w : World) (a : Addr) (l : List Value) : Prop := ∀ j v, l[j]? = some v → w.cell? (a.add j) = some v
def Rd (c : Cx) (H : Blocks) (a : Addr) (v : Value) : Prop := ∀ w, Hp c.w0 H w → w.cell? a = some v
def Rds (c : Cx) (H : Blocks) (a : Addr) (l : List Value) : Prop := ∀ w, Hp c.w0 H w → Mem w a l

theorem cell_old {w0 w : World} (h : Hp w0 H w) {a : Addr} {v : Value} (ha : w0.cell? a = some v) : w.cell? a = some v := (h.below.cell (World.block_lt_of_cell? w0 a ha)).trans ha
theorem Mem.old {w0 w : World} {a : Addr} {l : List Value} (h : Hp w0 H w) (hm : Mem w0 a l) : Mem w a l := fun j v hj => cell_old h (hm j v hj)
theorem Rd.old {a : Addr} {v : Value} (h : c.w0.cell? a = some v) : Rd c H a v := fun _ hw => cell_old hw h
theorem Rds.old {a : Addr} {l : List Value} (h : Mem c.w0 a l) : Rds c H a l := fun _ hw => h.old hw
theorem cell_own {w0 w : World} (h : Hp w0 H w) {b : Nat} {cs : Array Value} {t : TypeId} {fr : Nat × Nat} (hb : (b, Obj.cells cs t fr) ∈ H) (j : Nat) : w.cell? ⟨b, j, none⟩ = cs[j]? := by
  simp [World.cell?, h.get hb]
theorem Rd.own {b j : Nat} {cs : Array Value} {t : TypeId} {fr : Nat × Nat} {v : Value} (hb : (b, Obj.cells cs t fr) ∈ H) (h : cs[j]? = some v) : Rd c H ⟨b, j, none⟩ v := fun _ hw => (cell_own hw hb j).trans h
theorem add_lit (b o j : Nat) : (⟨b, o, none⟩ : Addr).add j = ⟨b, o + j, none⟩ := by unfold Addr.add; split <;> simp_all
theorem Mem.own {w0 w : World} (h : Hp w0 H w) {b o : Nat} {cs : Array Value} {t : TypeId} {fr : Nat × Nat} {l : List Value} (hb : (b, Obj.cells cs t fr) ∈ H) (hl : ∀ j v, l[j]? = some v → cs[o + j]? = some v) : Mem w ⟨b, o, none⟩ l := fun j v hj => by
  rw [add_lit]; exact (cell_own h hb _).trans (hl j v hj)
theorem Rds.own {b o : Nat} {cs : Array Value} {t : TypeId} {fr : Nat × Nat} {l : List Value} (hb : (b, Obj.cells cs t fr) ∈ H) (hl : ∀ j v, l[j]? = some v → cs[o + j]? = some v) : Rds c H ⟨b, o, none⟩ l := fun _ hw => Mem.own hw hb hl
theorem Mem.cut {w : World} {a : Addr} {l : List Value} (h : Mem w a l) (k n : Nat) : Mem w (a.add k) ((l.drop k).take n) := fun j v hj => by
  have h1 : l[k + j]? = some v := by
    rw [List.getElem?_take] at hj
    split at hj
    · rw [List.getElem?_drop] at hj; exact hj
    · cases hj
  have h2 := h (k + j) v h1
  have e : (a.add k).add j = a.add (k + j) := by
    unfold Addr.add
    by_cases h0 : k = 0
    · subst h0; simp
    · by_cases h1 : j = 0
      · subst h1; simp
      · have h2 : ¬ k + j = 0 := by omega
        simp [h0, h1, Nat.add_assoc]
  rw [e]; exact h2
theorem Rds.cut {a : Addr} {l : List Value} (h : Rds c H a l) (k n : Nat) : Rds c H (a.add k) ((l.drop k).take n) := fun w hw => (h w hw).cut k n
theorem Rds.at {a : Addr} {l : List Value} (h : Rds c H a l) {k : Nat} {v : Value} (hk : l[k]? = some v) : Rd c H (a.add k) v := fun w hw => h w hw k v hk

theorem Ev.load1 {T : TypeId} {x : Operand} {a : Addr} {v : Value} {d : TypeDesc} (hx : ev σ x = some (.pointer (some a))) (hu : c.P.underlying T = some d)
    (hd : aggB d = false) (hr : Rd c H a v) : Ev c σ H ⟨dst, .load T x, ty, pos, af, gd⟩ v := fun A w hf hw => by
  have e : execOp A.eval ⟨dst, .load T x, ty, pos, af, gd⟩ = (do pure (Next.value (← Instr.loadAt T (A.eval x)))) := rfl
  rw [e, hf.ev hx]
  have h1 : (Instr.loadAt T (.pointer (some a))).run c.P w = .ok v w := by
    simp only [Instr.loadAt, Instr.sureAddr, Sem.run_bind, Sem.run_pure, Result.andThen_ok]
    exact run_loadVar_one hu hd (hr w hw)
  simp only [Sem.run_bind, Sem.run_pure, h1, Result.andThen_ok]
theorem run_loadVar_agg {P : Program} {T : TypeId} {a : Addr} {l : List Value} {d : TypeDesc} {w : World} {k : Nat} (hu : P.underlying T = some d)
    (hd : aggB d = true) (hs : (sizeOf T).run P w = .ok k w) (hk : l.length = k) (hr : Mem w a l) : (loadVar T a).run P w = .ok (.agg l.toArray) w := by
  subst hk
  simp only [loadVar, Sem.run_bind, run_isAgg hu, hd, Result.andThen_ok, if_true, hs, run_loadCells_list w a l hr, Sem.run_pure]
theorem Ev.loadA {T : TypeId} {x : Operand} {a : Addr} {l : List Value} {d : TypeDesc} {k : Nat} (hx : ev σ x = some (.pointer (some a))) (hu : c.P.underlying T = some d)
    (hd : aggB d = true) (hs : ∀ w, (sizeOf T).run c.P w = .ok k w) (hr : Rds c H a l) (hk : l.length = k) : Ev c σ H ⟨dst, .load T x, ty, pos, af, gd⟩ (.agg l.toArray) := fun A w hf hw => by
  have e : execOp A.eval ⟨dst, .load T x, ty, pos, af, gd⟩ = (do pure (Next.value (← Instr.loadAt T (A.eval x)))) := rfl
  rw [e, hf.ev hx]
  have h1 : (Instr.loadAt T (.pointer (some a))).run c.P w = .ok (.agg l.toArray) w := by
    simp only [Instr.loadAt, Instr.sureAddr, Sem.run_bind, Sem.run_pure, Result.andThen_ok]
    exact run_loadVar_agg hu hd (hs w) hk (hr w hw)
  simp only [Sem.run_bind, Sem.run_pure, h1, Result.andThen_ok]

theorem Ev.loadB {T : TypeId} {x : Operand} {b : Nat} {cs : Array Value} {t : TypeId} {fr : Nat × Nat} {d : TypeDesc} {k : Nat} (hx : ev σ x = some (.pointer (some ⟨b, 0, none⟩))) (hb : (b, Obj.cells cs t fr) ∈ H) (hu : c.P.underlying T = some d)
    (hd : aggB d = true) (hs : ∀ w, (sizeOf T).run c.P w = .ok k w) (hk : cs.size = k) : Ev c σ H ⟨dst, .load T x, ty, pos, af, gd⟩ (.agg cs) := by
  have h := Ev.loadA (c := c) (σ := σ) (H := H) (dst := dst) (ty := ty) (pos := pos) (af := af) (gd := gd) (l := cs.toList) hx hu hd hs (Rds.own hb fun j v hj => by simpa using hj) (by simpa using hk)
  simpa using h

theorem Ev.idxS {T e : TypeId} {x y : Operand} {ik : IntKind} {a : Addr} {len cap k : Nat} {i : Int} {s : Nat} (hx : ev σ x = some (.slice (some a) len cap)) (hy : ev σ y = some (.int ik i)) (hu : c.P.underlying T = some (.slice e)) (hs : ∀ w, (sizeOf e).run c.P w = .ok s w)
    (hi : i = (k : Int)) (hk : k < len) : Ev c σ H ⟨dst, .indexAddr T x y, ty, pos, af, gd⟩ (.pointer (some (a.add (k * s)))) := fun A w hf _ => by
  subst hi
  have e : execOp A.eval ⟨dst, .indexAddr T x y, ty, pos, af, gd⟩ = (do pure (Next.value (← Instr.indexAt T (A.eval x) (A.eval y)))) := rfl
  rw [e, hf.ev hx, hf.ev hy]
  simp [Instr.indexAt, asIntOf, run_underlying hu, hs, hk]
theorem Ev.idxA {T e : TypeId} {x y : Operand} {ik : IntKind} {a : Addr} {len k : Nat} {i : Int} {s : Nat} (hx : ev σ x = some (.pointer (some a))) (hy : ev σ y = some (.int ik i)) (hu : c.P.underlying T = some (.array len e)) (hs : ∀ w, (sizeOf e).run c.P w = .ok s w)
    (hi : i = (k : Int)) (hk : k < len) : Ev c σ H ⟨dst, .indexAddr T x y, ty, pos, af, gd⟩ (.pointer (some (a.add (k * s)))) := fun A w hf _ => by
  subst hi
  have e : execOp A.eval ⟨dst, .indexAddr T x y, ty, pos, af, gd⟩ = (do pure (Next.value (← Instr.indexAt T (A.eval x) (A.eval y)))) := rfl
  rw [e, hf.ev hx, hf.ev hy]
  simp [Instr.indexAt, asIntOf, run_underlying hu, hs, hk, Instr.sureAddr]
theorem Ev.idxS1 {T e : TypeId} {x y : Operand} {ik : IntKind} {a : Addr} {len cap k : Nat} {i : Int} (hx : ev σ x = some (.slice (some a) len cap)) (hy : ev σ y = some (.int ik i)) (hu : c.P.underlying T = some (.slice e)) (hs : ∀ w, (sizeOf e).run c.P w = .ok 1 w)
    (hi : i = (k : Int)) (hk : k < len) : Ev c σ H ⟨dst, .indexAddr T x y, ty, pos, af, gd⟩ (.pointer (some (a.add k))) := by
  have h := Ev.idxS (c := c) (σ := σ) (H := H) (ty := ty) (pos := pos) (af := af) (gd := gd) (dst := dst) hx hy hu hs hi hk
  rwa [Nat.mul_one] at h
theorem Ev.idxB1 {T e : TypeId} {x y : Operand} {ik : IntKind} {b : Nat} {len k : Nat} {i : Int} (hx : ev σ x = some (.pointer (some ⟨b, 0, none⟩))) (hy : ev σ y = some (.int ik i)) (hu : c.P.underlying T = some (.array len e)) (hs : ∀ w, (sizeOf e).run c.P w = .ok 1 w)
    (hi : i = (k : Int)) (hk : k < len) : Ev c σ H ⟨dst, .indexAddr T x y, ty, pos, af, gd⟩ (.pointer (some ⟨b, k, none⟩)) := by
  have h := Ev.idxA (c := c) (σ := σ) (H := H) (ty := ty) (pos := pos) (af := af) (gd := gd) (dst := dst) hx hy hu hs hi hk
  rwa [Nat.mul_one, add_lit, Nat.zero_add] at h
/-- 'a[i]' of an array as a value, its elements of one cell. -/
theorem Ev.index1 {T e : TypeId} {x y : Operand} {ik : IntKind} {cs : Array Value} {len k : Nat} {i : Int} {v : Value} {d : TypeDesc} (hx : ev σ x = some (.agg cs)) (hy : ev σ y = some (.int ik i)) (hu : c.P.underlying T = some (.array len e)) (hs : ∀ w, (sizeOf e).run c.P w = .ok 1 w)
    (hue : c.P.underlying e = some d) (hd : aggB d = false) (hi : i = (k : Int)) (hk : k < len) (hv : cs[k]? = some v) : Ev c σ H ⟨dst, .index T x y, ty, pos, af, gd⟩ v := fun A w hf _ => by
  subst hi
  have e : execOp A.eval ⟨dst, .index T x y, ty, pos, af, gd⟩ = (do pure (Next.value (← Instr.index T (A.eval x) (A.eval y)))) := rfl
  rw [e, hf.ev hx, hf.ev hy]
  simp [Instr.index, asIntOf, run_underlying hu, hs, hk, part, run_isAgg hue, hd, hv]

/-! slices -/
def sub3 (a : Option Addr) (l h m s : Nat) : Value := .slice (if m = l then a else a.map (·.add (l * s))) (h - l) (m - l)
theorem run_sliceBound {P : Program} {w : World} {i : Int} {k y : Nat} {code : BoundsCode} (hi : i = (k : Int)) (hk : k ≤ y) : (Instr.sliceBound (.int .i64 i) y code).run P w = .ok k w := by
  subst hi
  have h1 : (0 : Int) ≤ (k : Int) ∧ (k : Int) ≤ (y : Int) := by omega
  simp [Instr.sliceBound, asIntOf, h1]
theorem Ev.sliceLo {T e : TypeId} {x lo : Operand} {a : Option Addr} {len cap l : Nat} {il : Int} {s : Nat} (hx : ev σ x = some (.slice a len cap)) (hl : ev σ lo = some (.int .i64 il)) (hu : c.P.underlying T = some (.slice e)) (hs : ∀ w, (sizeOf e).run c.P w = .ok s w)
    (hil : il = (l : Int)) (h : l ≤ len) : Ev c σ H ⟨dst, .slice T x (some lo) none none, ty, pos, af, gd⟩ (sub3 a l len cap s) := fun A w hf _ => by
  have e : execOp A.eval ⟨dst, .slice T x (some lo) none none, ty, pos, af, gd⟩ = (do pure (Next.value (← Instr.sliceAt T (A.eval x) (some (A.eval lo)) none none))) := rfl
  rw [e, hf.ev hx, hf.ev hl]
  simp [Instr.sliceAt, Instr.slice, run_underlying hu, hs, Instr.sliceBounds, run_sliceBound hil h, sub3]
theorem Ev.sliceHi {T e : TypeId} {x hi : Operand} {a : Option Addr} {len cap h : Nat} {ih : Int} {s : Nat} (hx : ev σ x = some (.slice a len cap)) (hh : ev σ hi = some (.int .i64 ih)) (hu : c.P.underlying T = some (.slice e)) (hs : ∀ w, (sizeOf e).run c.P w = .ok s w)
    (hih : ih = (h : Int)) (h1 : h ≤ cap) : Ev c σ H ⟨dst, .slice T x none (some hi) none, ty, pos, af, gd⟩ (sub3 a 0 h cap s) := fun A w hf _ => by
  have e : execOp A.eval ⟨dst, .slice T x none (some hi) none, ty, pos, af, gd⟩ = (do pure (Next.value (← Instr.sliceAt T (A.eval x) none (some (A.eval hi)) none))) := rfl
  rw [e, hf.ev hx, hf.ev hh]
  simp [Instr.sliceAt, Instr.slice, run_underlying hu, hs, Instr.sliceBounds, run_sliceBound hih h1, sub3]
theorem Ev.sliceLHM {T e : TypeId} {x lo hi mx : Operand} {a : Option Addr} {len cap l h m : Nat} {il ih im : Int} {s : Nat} (hx : ev σ x = some (.slice a len cap)) (hl : ev σ lo = some (.int .i64 il)) (hh : ev σ hi = some (.int .i64 ih)) (hm : ev σ mx = some (.int .i64 im)) (hu : c.P.underlying T = some (.slice e)) (hs : ∀ w, (sizeOf e).run c.P w = .ok s w)
    (hil : il = (l : Int)) (hih : ih = (h : Int)) (him : im = (m : Int)) (h3 : l ≤ h) (h2 : h ≤ m) (h1 : m ≤ cap) : Ev c σ H ⟨dst, .slice T x (some lo) (some hi) (some mx), ty, pos, af, gd⟩ (sub3 a l h m s) := fun A w hf _ => by
  have e : execOp A.eval ⟨dst, .slice T x (some lo) (some hi) (some mx), ty, pos, af, gd⟩ = (do pure (Next.value (← Instr.sliceAt T (A.eval x) (some (A.eval lo)) (some (A.eval hi)) (some (A.eval mx))))) := rfl
  rw [e, hf.ev hx, hf.ev hl, hf.ev hh, hf.ev hm]
  simp [Instr.sliceAt, Instr.slice, run_underlying hu, hs, Instr.sliceBounds, run_sliceBound hil h3, run_sliceBound hih h2, run_sliceBound him h1, sub3]
/-- Of an array behind a pointer. -/
theorem Ev.sliceA {T e : TypeId} {x : Operand} {a : Addr} {n : Nat} {s : Nat} (hx : ev σ x = some (.pointer (some a))) (hu : c.P.underlying T = some (.array n e)) (hs : ∀ w, (sizeOf e).run c.P w = .ok s w) :
    Ev c σ H ⟨dst, .slice T x none none none, ty, pos, af, gd⟩ (.slice (some a) n n) := fun A w hf _ => by
  have e : execOp A.eval ⟨dst, .slice T x none none none, ty, pos, af, gd⟩ = (do pure (Next.value (← Instr.sliceAt T (A.eval x) none none none))) := rfl
  rw [e, hf.ev hx]
  have : a.add 0 = a := by simp [Addr.add]
  simp [Instr.sliceAt, run_underlying hu, hs, Instr.sliceBounds, Instr.sureAddr, this]
theorem Ev.sliceALo {T e : TypeId} {x lo : Operand} {a : Addr} {n l : Nat} {il : Int} {s : Nat} (hx : ev σ x = some (.pointer (some a))) (hl : ev σ lo = some (.int .i64 il)) (hu : c.P.underlying T = some (.array n e)) (hs : ∀ w, (sizeOf e).run c.P w = .ok s w) (hil : il = (l : Int)) (h : l < n) :
    Ev c σ H ⟨dst, .slice T x (some lo) none none, ty, pos, af, gd⟩ (.slice (some (a.add (l * s))) (n - l) (n - l)) := fun A w hf _ => by
  have e : execOp A.eval ⟨dst, .slice T x (some lo) none none, ty, pos, af, gd⟩ = (do pure (Next.value (← Instr.sliceAt T (A.eval x) (some (A.eval lo)) none none))) := rfl
  rw [e, hf.ev hx, hf.ev hl]
  have hne : ¬ n = l := by omega
  simp [Instr.sliceAt, run_underlying hu, hs, Instr.sliceBounds, Instr.sureAddr, run_sliceBound hil (Nat.le_of_lt h), hne]
theorem Ev.sliceAHi {T e : TypeId} {x hi : Operand} {a : Addr} {n h : Nat} {ih : Int} {s : Nat} (hx : ev σ x = some (.pointer (some a))) (hh : ev σ hi = some (.int .i64 ih)) (hu : c.P.underlying T = some (.array n e)) (hs : ∀ w, (sizeOf e).run c.P w = .ok s w) (hih : ih = (h : Int)) (h1 : h ≤ n) :
    Ev c σ H ⟨dst, .slice T x none (some hi) none, ty, pos, af, gd⟩ (.slice (some a) h n) := fun A w hf _ => by
  have e : execOp A.eval ⟨dst, .slice T x none (some hi) none, ty, pos, af, gd⟩ = (do pure (Next.value (← Instr.sliceAt T (A.eval x) none (some (A.eval hi)) none))) := rfl
  rw [e, hf.ev hx, hf.ev hh]
  have : a.add 0 = a := by simp [Addr.add]
  simp [Instr.sliceAt, run_underlying hu, hs, Instr.sliceBounds, Instr.sureAddr, run_sliceBound hih h1, this]

theorem sub3_some {a : Addr} {l h m : Nat} (hm : m ≠ l) : sub3 (some a) l h m 1 = .slice (some (a.add l)) (h - l) (m - l) := by
  simp [sub3, hm]

/-! builtins that only look -/
theorem Ev.lenS {x : Operand} {T e : TypeId} {a : Option Addr} {len cap : Nat} (hx : ev σ x = some (.slice a len cap)) (hu : c.P.underlying T = some (.slice e)) :
    Ev c σ H ⟨dst, .call { callee := .builtin .len, args := #[x], argTypes := #[T] }, ty, pos, af, gd⟩ (.int .i64 (len : Int)) := fun A w hf _ => by
  rw [BigFrame.execOp_builtin, BigFrame.builtin_len]
  simp [hf.ev hx, Builtin.len_, run_underlying hu, goInt]
theorem Ev.min2 {x y : Operand} {ts : Array TypeId} {k : IntKind} {a b : Int} (hx : ev σ x = some (.int k a)) (hy : ev σ y = some (.int k b)) :
    Ev c σ H ⟨dst, .call { callee := .builtin .min, args := #[x, y], argTypes := ts }, ty, pos, af, gd⟩ (.int k (if b < a then b else a)) := fun A w hf _ => by
  rw [BigFrame.execOp_builtin, BigFrame.builtin_min]
  simp [hf.ev hx, hf.ev hy, Builtin.min_, Builtin.min2]

theorem Ev.makeFunc {f : FuncId} {xs : List Operand} {vs : List Value} (hx : evs σ xs = some vs) : Ev c σ H ⟨dst, .makeFunc (.func f) #[] xs.toArray, ty, pos, af, gd⟩ (.func (.func f) #[] vs.toArray) := fun A w hf _ => by
  have e : execOp A.eval ⟨dst, .makeFunc (.func f) #[] xs.toArray, ty, pos, af, gd⟩ = (do pure (Next.value (← Instr.makeFunc (.func f) (#[].map A.eval) (xs.toArray.map A.eval)))) := rfl
  rw [e]
  have := hf.evs hx
  simp [Instr.makeFunc, this]

/-- An array or a struct from all its parts, or some of them. -/
theorem Ev.build {T : TypeId} {parts : List (Nat × Operand)} {vs : List (Nat × Value)} {cs : Array Value}
    (hx : ∀ a, Fr c.n c.ds σ a → parts.map (fun p => (p.1, a.eval p.2)) = vs) (h : ∀ w, (Instr.build T vs.toArray).run c.P w = .ok (.agg cs) w) : Ev c σ H ⟨dst, .build T parts.toArray, ty, pos, af, gd⟩ (.agg cs) := fun A w hf _ => by
  have e : execOp A.eval ⟨dst, .build T parts.toArray, ty, pos, af, gd⟩ = (do pure (Next.value (← Instr.build T (parts.toArray.map fun (i, x) => (i, A.eval x))))) := rfl
  rw [e]
  have h1 := hx A hf
  have h2 : (parts.toArray.map fun (i, x) => (i, A.eval x)) = vs.toArray := by rw [← h1]; simp
  rw [h2]
  simp [h w]

/-! ### New blocks -/
theorem En.alloc {T : TypeId} {z : Value} (hz : ∀ w, (zeroValue T).run c.P w = .ok z w) : En c σ H ⟨dst, .alloc T, ty, pos, af, gd⟩ (fun b => .pointer (some ⟨b, 0, none⟩)) (.cells z.cells T (0, 0)) := fun A w _ _ => by
  have e : execOp A.eval ⟨dst, .alloc T, ty, pos, af, gd⟩ = (do pure (Next.value (← Instr.alloc T true (.tuple #[])))) := rfl
  rw [e]
  simp [Instr.alloc, hz w, newVar, newRow]
theorem En.box {T : TypeId} {x : Operand} {v : Value} (hx : ev σ x = some v) : En c σ H ⟨dst, .box T x, ty, pos, af, gd⟩ (fun b => .pointer (some ⟨b, 0, none⟩)) (.cells v.cells T (0, 0)) := fun A w hf _ => by
  have e : execOp A.eval ⟨dst, .box T x, ty, pos, af, gd⟩ = (do pure (Next.value (← Instr.box T (A.eval x)))) := rfl
  rw [e, hf.ev hx]
  simp [Instr.box, newVar, newRow]
theorem En.allocZ {T : TypeId} {z : Value} {cs : Array Value} (hz : ∀ w, (zeroValue T).run c.P w = .ok z w) (hc : z.cells = cs) : En c σ H ⟨dst, .alloc T, ty, pos, af, gd⟩ (fun b => .pointer (some ⟨b, 0, none⟩)) (.cells cs T (0, 0)) := hc ▸ En.alloc hz
theorem En.boxA {T : TypeId} {x : Operand} {cs : Array Value} (hx : ev σ x = some (.agg cs)) : En c σ H ⟨dst, .box T x, ty, pos, af, gd⟩ (fun b => .pointer (some ⟨b, 0, none⟩)) (.cells cs T (0, 0)) := En.box hx
theorem En.box1 {T : TypeId} {x : Operand} {v : Value} (hx : ev σ x = some v) (hc : v.cells = #[v]) : En c σ H ⟨dst, .box T x, ty, pos, af, gd⟩ (fun b => .pointer (some ⟨b, 0, none⟩)) (.cells #[v] T (0, 0)) := hc ▸ En.box hx
theorem En.buildSlice {T e : TypeId} {n : Nat} {parts : List (Nat × Operand)} {vs : List (Nat × Value)} {cs : Array Value} (hx : ∀ a, Fr c.n c.ds σ a → parts.map (fun p => (p.1, a.eval p.2)) = vs)
    (h : ∀ w, (Instr.buildSlice T n vs.toArray).run c.P w = .ok (.slice (some ⟨w.heap.size, 0, none⟩) n n) (w.alloc (.cells cs e (0, 0)))) : En c σ H ⟨dst, .buildSlice T n parts.toArray, ty, pos, af, gd⟩ (fun b => .slice (some ⟨b, 0, none⟩) n n) (.cells cs e (0, 0)) := fun A w hf _ => by
  have e : execOp A.eval ⟨dst, .buildSlice T n parts.toArray, ty, pos, af, gd⟩ = (do pure (Next.value (← Instr.buildSlice T n (parts.toArray.map fun (i, x) => (i, A.eval x))))) := rfl
  rw [e]
  have h1 := hx A hf
  have h2 : (parts.toArray.map fun (i, x) => (i, A.eval x)) = vs.toArray := by rw [← h1]; simp
  rw [h2]
  simp [h w]

theorem parts_zip : ∀ (parts : List (Nat × Operand)) (f : Operand → Value), parts.map (fun p => (p.1, f p.2)) = (parts.map (·.1)).zip ((parts.map (·.2)).map f)
  | [], _ => rfl
  | p :: parts, f => by simp [parts_zip parts f]
theorem Ev.bu0 {T e : TypeId} {n s : Nat} {z : Value} (hu : c.P.underlying T = some (.array n e)) (hs : ∀ w, (sizeOf e).run c.P w = .ok s w) (hz : ∀ w, (zeroValue T).run c.P w = .ok z w) : Ev c σ H ⟨dst, .build T #[], ty, pos, af, gd⟩ (.agg z.cells) :=
  Ev.build (parts := []) (vs := []) (fun _ _ => rfl) fun w => by
    simp [Instr.build, hz w, run_underlying hu, hs w, Instr.fill]
theorem En.bsN {T e : TypeId} {n : Nat} {parts : List (Nat × Operand)} {vs : List Value} (hx : evs σ (parts.map (·.2)) = some vs)
    (h : ∀ w, (Instr.buildSlice T n ((parts.map (·.1)).zip vs).toArray).run c.P w = .ok (.slice (some ⟨w.heap.size, 0, none⟩) n n) (w.alloc (.cells vs.toArray e (0, 0)))) : En c σ H ⟨dst, .buildSlice T n parts.toArray, ty, pos, af, gd⟩ (fun b => .slice (some ⟨b, 0, none⟩) n n) (.cells vs.toArray e (0, 0)) := by
  have := @En.buildSlice c σ H ty pos af gd dst T e n parts ((parts.map (·.1)).zip vs) vs.toArray
  refine this ?_ ?_
  · intro a hf; rw [parts_zip, hf.evs hx]
  · intro w; exact h w

/-! ### Stores -/
theorem setRow_put {w : World} {b : Nat} {cs cs' : Array Value} {t : TypeId} {fr : Nat × Nat} (hb : w.heap[b]? = some (.cells cs t fr)) : w.setRow b cs' = { w with heap := w.heap.setIfInBounds b (.cells cs' t fr) } := by
  have hlt := (Array.getElem?_eq_some_iff.1 hb).1
  simp only [World.setRow]
  congr 1
  apply Array.ext_getElem?
  intro i
  by_cases e : b = i
  · subst e; rw [Array.getElem?_modify, if_pos rfl, hb]; simp [hlt]
  · simp [Array.getElem?_modify, e]

theorem Hp.setRow {w0 w : World} {H H' : Blocks} {b : Nat} {cs cs' : Array Value} {t : TypeId} {fr : Nat × Nat} (h : Hp w0 H w) (hu : Upd b (.cells cs t fr) (.cells cs' t fr) H H') : Hp w0 H' (w.setRow b cs') :=
  h.upd hu (setRow_put (h.get hu.mem))

/-- The cells 'vs' written from 'o' on. -/
def over (cs : Array Value) (o : Nat) (vs : List Value) : Array Value := (cs.toList.take o ++ vs ++ cs.toList.drop (o + vs.length)).toArray

theorem run_storeVar {P : Program} {w w0 : World} {T t : TypeId} {b o k : Nat} {v : Value} {cs : Array Value} {H : Blocks} (hw : Hp w0 H w) (hb : (b, Obj.cells cs t (0, 0)) ∈ H) (hs : (sizeOf T).run P w = .ok k w) (hv : v.cells.size = k) (ho : o + k ≤ cs.size)
    (h1 : ∀ u ∈ v.cells.toList, u.oneCell' = true) : (storeVar T ⟨b, o, none⟩ v).run P w = .ok () (w.setRow b (over cs o v.cells.toList)) := by
  simp only [storeVar, Sem.run_bind, hs, Result.andThen_ok]
  rw [if_neg (by simp [hv])]
  have := run_storeCells_at P b o t v.cells.toList 0 cs w (hw.get hb) (by simp [hv]; omega) h1
  simpa [over] using this

theorem Es.store {T t : TypeId} {x y : Operand} {v : Value} {b o k : Nat} {cs : Array Value} {H' : Blocks} (hx : ev σ x = some (.pointer (some ⟨b, o, none⟩))) (hy : ev σ y = some v) (hs : ∀ w, (sizeOf T).run c.P w = .ok k w)
    (hu : Upd b (.cells cs t (0, 0)) (.cells (over cs o v.cells.toList) t (0, 0)) H H') (hv : v.cells.size = k) (ho : o + k ≤ cs.size) (h1 : ∀ u ∈ v.cells.toList, u.oneCell' = true) :
    Es c σ H ⟨dst, .store T x y, ty, pos, af, gd⟩ H' := fun A w hf hw => by
  have e : execOp A.eval ⟨dst, .store T x y, ty, pos, af, gd⟩ = (do Instr.storeAt T (A.eval x) (A.eval y); pure Next.skip) := rfl
  refine ⟨w.setRow b (over cs o v.cells.toList), ?_, hw.setRow hu⟩
  rw [e, hf.ev hx, hf.ev hy]
  have h2 := run_storeVar (P := c.P) (T := T) (o := o) (v := v) hw hu.mem (hs w) hv ho h1
  simp only [Instr.storeAt, Instr.sureAddr, Sem.run_bind, Sem.run_pure, Result.andThen_ok, h2]

/-- A whole variable written over. -/
theorem over_all {cs : Array Value} {vs : List Value} (h : vs.length = cs.size) : over cs 0 vs = vs.toArray := by
  have : List.drop vs.length cs.toList = [] := List.drop_of_length_le (by simp [h])
  simp [over, this]
theorem over_one {cs : Array Value} {o : Nat} {v : Value} (h : o < cs.size) : over cs o [v] = cs.setIfInBounds o v := by
  apply Array.toList_inj.1
  have hl : o < cs.toList.length := by simpa using h
  simp only [over, Array.toList_setIfInBounds, List.length_singleton]
  rw [List.set_eq_take_append_cons_drop, if_pos hl]
  simp

theorem Es.storeA {T t : TypeId} {x y : Operand} {vs cs : Array Value} {b k : Nat} {H' : Blocks} (hx : ev σ x = some (.pointer (some ⟨b, 0, none⟩))) (hy : ev σ y = some (.agg vs)) (hs : ∀ w, (sizeOf T).run c.P w = .ok k w)
    (hu : Upd b (.cells cs t (0, 0)) (.cells vs t (0, 0)) H H') (hv : vs.size = k) (hc : cs.size = k) (h1 : ∀ u ∈ vs.toList, u.oneCell' = true) :
    Es c σ H ⟨dst, .store T x y, ty, pos, af, gd⟩ H' := by
  refine Es.store (v := .agg vs) (cs := cs) (t := t) hx hy hs ?_ hv (by omega) h1
  rw [show over cs 0 (Value.agg vs).cells.toList = vs from by
    rw [over_all (by simp [Value.cells]; omega)]; simp [Value.cells]]
  exact hu
theorem Es.store1 {T t : TypeId} {x y : Operand} {v : Value} {cs : Array Value} {b o : Nat} {H' : Blocks} (hx : ev σ x = some (.pointer (some ⟨b, o, none⟩))) (hy : ev σ y = some v) (hs : ∀ w, (sizeOf T).run c.P w = .ok 1 w)
    (hv : v.cells = #[v]) (h1 : v.oneCell' = true) (hu : Upd b (.cells cs t (0, 0)) (.cells (cs.setIfInBounds o v) t (0, 0)) H H') (ho : o < cs.size) :
    Es c σ H ⟨dst, .store T x y, ty, pos, af, gd⟩ H' := by
  refine Es.store (v := v) (cs := cs) (t := t) hx hy hs ?_ (by simp [hv]) (by omega) (by simp [hv, h1])
  rw [hv]
  rw [over_one ho]
  exact hu

/-! ### append, on a slice that is nil or the call's own -/
structure Row where
  g : Nat
  cap : Nat
  cs : Array Value
def Row.v (n : Nat) : Option Row → Value
  | none => .slice none 0 0
  | some r => .slice (some ⟨r.g, 0, none⟩) n r.cap
def Row.b (e : TypeId) : Option Row → Blocks
  | none => []
  | some r => [(r.g, .cells r.cs e (0, 0))]
def Row.ok (s n : Nat) (xs : List Value) : Option Row → Prop
  | none => n = 0 ∧ xs = []
  | some r => xs.length = n * s ∧ n ≤ r.cap ∧ r.cap ≤ maxLen ∧ r.cs.size = r.cap * s ∧ r.cs.toList.take (n * s) = xs

/-- The segment A taken out of H leaves H0. -/
inductive Cut (A : Blocks) : Blocks → Blocks → Prop
  | here {H0 : Blocks} : Cut A (A ++ H0) H0
  | last : Cut A A []
  | there {x : Nat × Obj} {H H0 : Blocks} (h : Cut A H H0) : Cut A (x :: H) (x :: H0)
  | past {B H H0 : Blocks} (h : Cut A H H0) : Cut A (B ++ H) (B ++ H0)

theorem Cut.perm {A H H0 : Blocks} (h : Cut A H H0) : H.Perm (H0 ++ A) := by
  induction h with
  | here => exact List.perm_append_comm
  | last => simp
  | there _ ih => exact ih.cons _
  | past _ ih => rw [List.append_assoc]; exact ih.append_left _

theorem append_row {P : Program} {w0 w : World} {H0 : Blocks} {t ty e : TypeId} {s bytes : Nat} {z : Value} {r : Option Row} {n m c : Nat} {xs news : List Value} {oa : Option Addr}
    (ht : P.underlying t = some (.slice e)) (hi : (P.info? e).map (fun i => (i.zero, i.size, i.bytes)) = some (some z, s, bytes)) (hzs : z.cells.size = s) (hs0 : 0 < s)
    (hr : Row.ok s n xs r) (hw : Hp w0 (H0 ++ Row.b e r) w) (hl : news.length = m * s) (hm : ∀ a, oa = some a → Mem w a news) (hoa : oa = none → m = 0) (h1 : ∀ u ∈ news, u.oneCell' = true)
    (hb : (n + m) * bytes ≤ 140737488355328) (hb1 : 0 < bytes) :
    ∃ r' w', (Builtin.append_ #[t, t] ty #[Row.v n r, .slice oa m c]).run P w = .ok (Row.v (n + m) r') w' ∧ Hp w0 (H0 ++ Row.b e r') w' ∧ Row.ok s (n + m) (xs ++ news) r' ∧ (r' = none ↔ r = none ∧ m = 0) := by
  obtain ⟨i, hi', hz, hsize, hby⟩ := info_parts hi
  have hnm : n + m ≤ 140737488355328 := Nat.le_trans (Nat.le_mul_of_pos_right _ hb1) hb
  subst hsize
  subst hby
  cases oa with
  | none =>
    obtain rfl := hoa rfl
    have hn : news = [] := List.eq_nil_of_length_eq_zero (by simpa using hl)
    subst hn
    refine ⟨r, w, ?_, hw, by simpa using hr, by simp⟩
    cases r with
    | none => simp [Row.v, Builtin.append_, run_underlying ht, sizeOf, typeInfo, hi', Builtin.lenOf, Builtin.firstCells]
    | some r =>
      obtain ⟨_, h2, _⟩ := hr
      have hst : (storeCells (Addr.add ⟨r.g, 0, none⟩ (n * i.size)) []).run P w = .ok () w := rfl
      simp [Row.v, Builtin.append_, run_underlying ht, sizeOf, typeInfo, hi', Builtin.lenOf, Builtin.firstCells, h2, hst]
  | some a =>
    have hm := hm a rfl
    cases r with
    | none =>
      obtain ⟨rfl, rfl⟩ := hr
      by_cases hm0 : m = 0
      · subst hm0
        have hn : news = [] := List.eq_nil_of_length_eq_zero (by simpa using hl)
        subst hn
        refine ⟨none, w, ?_, hw, by simp [Row.ok], by simp⟩
        simp [Row.v, Builtin.append_, run_underlying ht, sizeOf, typeInfo, hi', Builtin.lenOf, Builtin.firstCells, loadCells, loadCellsFrom]
      · have hrun := run_append_nil (P := P) w t ty e i z ht hi' hz a m c news hl hm (by omega) (by omega) (by have hb := hb; simp only [Nat.zero_add] at hb; omega)
        have hge := grownCap_ge w m 0 e
        refine ⟨some ⟨w.heap.size, grownCap w m 0 e, news.toArray ++ Builtin.zeroCells z.cells (grownCap w m 0 e - m)⟩, _, by simpa [Row.v] using hrun, ?_, ?_, by simp [hm0]⟩
        · have h3 := (hw.drew).alloc (.cells (news.toArray ++ Builtin.zeroCells z.cells (grownCap w m 0 e - m)) e (0, 0))
          exact h3.perm (by simp only [Row.b, List.append_nil]; exact List.perm_append_comm (l₁ := [_]))
        · refine ⟨by simpa using hl, by simpa using hge, grownCap_le_maxLen w _ 0 e (by unfold maxLen; omega), ?_, ?_⟩
          · simp only [Array.size_append, List.size_toArray, size_zeroCells, hzs, hl, ← Nat.add_mul]
            congr 1; omega
          · simp only [Array.toList_append, Nat.zero_add, List.nil_append, ← hl]
            exact List.take_left
    | some r =>
      obtain ⟨hxl, hnc, hcm, hcs, htake⟩ := hr
      have hmem : (r.g, Obj.cells r.cs e (0, 0)) ∈ H0 ++ Row.b e (some r) := by simp [Row.b]
      have hg := hw.get hmem
      by_cases hroom : n + m ≤ r.cap
      · have hfit : n * i.size + news.length ≤ r.cs.size := by rw [hl, hcs, ← Nat.add_mul]; exact Nat.mul_le_mul_right _ hroom
        have hrun := run_append_room (P := P) w t ty e i ht hi' r.g n r.cap r.cs hg a m c news hl hm h1 hroom hfit
        refine ⟨some ⟨r.g, r.cap, (r.cs.toList.take (n * i.size) ++ news ++ r.cs.toList.drop (n * i.size + news.length)).toArray⟩, _, hrun, hw.setRow (b := r.g) (cs := r.cs) (t := e) (fr := (0, 0)) ?_, ⟨by simp [hxl, hl, Nat.add_mul], hroom, hcm, ?_, ?_⟩, by simp⟩
        · have : ∀ (A : Blocks), Upd r.g (.cells r.cs e (0, 0)) (.cells (r.cs.toList.take (n * i.size) ++ news ++ r.cs.toList.drop (n * i.size + news.length)).toArray e (0, 0)) (A ++ [(r.g, .cells r.cs e (0, 0))]) (A ++ [(r.g, .cells (r.cs.toList.take (n * i.size) ++ news ++ r.cs.toList.drop (n * i.size + news.length)).toArray e (0, 0))]) := by
            intro A
            induction A with
            | nil => exact .here
            | cons x A ih => exact .there ih
          exact this H0
        · simp only [List.size_toArray, List.length_append, List.length_take, List.length_drop, Array.length_toList]
          omega
        · simp only
          rw [htake, show (n + m) * i.size = (xs ++ news).length from by simp [hxl, hl, Nat.add_mul]]
          exact List.take_left
      · have holds : ∀ j u, xs[j]? = some u → w.cell? ((⟨r.g, 0, none⟩ : Addr).add j) = some u := fun j u hj => by
          rw [add_lit]
          refine (cell_own hw hmem _).trans ?_
          rw [← htake, List.getElem?_take] at hj
          split at hj
          · simpa using hj
          · cases hj
        have hrun := run_append_grow (P := P) w t ty e i z ht hi' hz ⟨r.g, 0, none⟩ n r.cap xs hxl holds a m c news hl hm (by omega) (by omega) (growslice_fits (by omega) hb)
        have hge := grownCap_ge w (n + m) r.cap e
        refine ⟨some ⟨w.heap.size, grownCap w (n + m) r.cap e, xs.toArray ++ news.toArray ++ Builtin.zeroCells z.cells (grownCap w (n + m) r.cap e - (n + m))⟩, _, hrun, ?_, ⟨by simp [hxl, hl, Nat.add_mul], hge, grownCap_le_maxLen w _ _ e (by unfold maxLen; omega), ?_, ?_⟩, by simp⟩
        · have h3 := (hw.drew).alloc (.cells (xs.toArray ++ news.toArray ++ Builtin.zeroCells z.cells (grownCap w (n + m) r.cap e - (n + m))) e (0, 0))
          refine ⟨h3.below, fun x hx => h3.blk x ?_, ?_, h3.mono⟩
          · simp only [Row.b, List.mem_append, List.mem_singleton] at hx
            rcases hx with hx | hx
            · simp [hx]
            · subst hx; simp
          · have h4 := h3.apart
            simp only [List.pairwise_cons, List.pairwise_append, List.mem_append] at h4
            simp only [Row.b, List.pairwise_append]
            refine ⟨h4.2.1, List.pairwise_singleton _ _, fun x hx y hy => ?_⟩
            simp only [List.mem_singleton] at hy
            subst hy
            exact fun e => h4.1 x (.inl hx) e.symm
        · simp only [Array.size_append, List.size_toArray, size_zeroCells, hzs, hxl, hl, ← Nat.add_mul]
          congr 1; omega
        · simp only [Array.toList_append, List.append_assoc]
          rw [← List.append_assoc, show (n + m) * i.size = (xs ++ news).length from by simp [hxl, hl, Nat.add_mul]]
          exact List.take_left

/-- 'append(s, x...)'. -/
theorem Eg.append {x y : Operand} {t e : TypeId} {s bytes n m cp : Nat} {z : Value} {r : Option Row} {xs news : List Value} {oa : Option Addr} {H0 : Blocks} {v : Value}
    (hx : ev σ x = some v) (hv : v = Row.v n r) (hy : ev σ y = some (.slice oa m cp)) (hcut : Cut (Row.b e r) H H0)
    (ht : c.P.underlying t = some (.slice e)) (hi : (c.P.info? e).map (fun i => (i.zero, i.size, i.bytes)) = some (some z, s, bytes)) (hzs : z.cells.size = s) (hs0 : 0 < s) (hb1 : 0 < bytes)
    (hr : Row.ok s n xs r) (hl : news.length = m * s) (hm : ∀ a, oa = some a → Rds c H a news) (hoa : oa = none → m = 0) (h1 : ∀ u ∈ news, u.oneCell' = true)
    (hb : (n + m) * bytes ≤ 140737488355328) :
    Eg c σ H ⟨dst, .call { callee := .builtin .append, args := #[x, y], argTypes := #[t, t] }, ty, pos, af, gd⟩
      (fun v H' => ∃ r', v = Row.v (n + m) r' ∧ H' = H0 ++ Row.b e r' ∧ Row.ok s (n + m) (xs ++ news) r' ∧ (r' = none ↔ r = none ∧ m = 0)) := fun A w hf hw => by
  subst hv
  obtain ⟨r', w', h2, h3, h4, h5⟩ := append_row (P := c.P) (t := t) (ty := ty) (c := cp) ht hi hzs hs0 hr (hw.perm hcut.perm) hl (fun a ha => hm a ha w hw) hoa h1 hb hb1
  refine ⟨_, _, w', ?_, h3, r', rfl, rfl, h4, h5⟩
  rw [BigFrame.execOp_builtin, BigFrame.builtin_append]
  simp [hf.ev hx, hf.ev hy, h2]

/-- 'append(s, x)': what is appended has just been laid; s may be nil. -/
theorem Eg.append1 {x y : Operand} {t e : TypeId} {s bytes n m cp : Nat} {z : Value} {r : Option Row} {xs news : List Value} {a : Addr} {H0 : Blocks} {v : Value}
    (hx : ev σ x = some v) (hv : v = Row.v n r) (hy : ev σ y = some (.slice (some a) m cp)) (hcut : Cut (Row.b e r) H H0)
    (ht : c.P.underlying t = some (.slice e)) (hi : (c.P.info? e).map (fun i => (i.zero, i.size, i.bytes)) = some (some z, s, bytes)) (hzs : z.cells.size = s) (hs0 : 0 < s) (hb1 : 0 < bytes)
    (hr : Row.ok s n xs r) (hm : Rds c H a news) (hl : news.length = m * s) (hm0 : 0 < m) (h1 : ∀ u ∈ news, u.oneCell' = true)
    (hb : (n + m) * bytes ≤ 140737488355328) :
    Eg c σ H ⟨dst, .call { callee := .builtin .append, args := #[x, y], argTypes := #[t, t] }, ty, pos, af, gd⟩
      (fun v H' => ∃ r' : Row, v = Row.v (n + m) (some r') ∧ H' = H0 ++ Row.b e (some r') ∧ Row.ok s (n + m) (xs ++ news) (some r')) := fun A w hf hw => by
  obtain ⟨v', H', w', h2, h3, r', h4, h5, h6, h7⟩ := Eg.append (dst := dst) (ty := ty) (pos := pos) (af := af) (gd := gd) hx hv hy hcut ht hi hzs hs0 hb1 hr hl (fun a ha => by cases ha; exact hm) (fun h => by cases h) h1 hb A w hf hw
  cases r' with
  | none => have := (h7.1 rfl).2; omega
  | some r' => exact ⟨v', H', w', h2, h3, r', h4, h5, h6⟩

theorem zeroCells_one {z : Value} (hz : z.cells = #[z]) (k : Nat) : Builtin.zeroCells z.cells k = (List.replicate k z).toArray := by
  apply Array.ext
  · rw [size_zeroCells, hz]; simp
  · intro j h1 h2
    have : j % 1 = 0 := Nat.mod_one j
    simp [Builtin.zeroCells, hz, this]

theorem run_append_room_zeros {P : Program} (w : World) (t tn ty e : TypeId) (i : TypeInfo) (z : Value) (kq kn : IntKind) (ht : P.underlying t = some (.slice e)) (htn : P.underlying tn = some (.int kn)) (hi : P.info? e = some i) (hz : i.zero = some z)
    (g sLen sCap : Nat) (cur : Array Value) (hg : w.heap[g]? = some (.cells cur e (0, 0))) (k : Nat) (hz2 : z.cells = #[z]) (hz1 : z.oneCell' = true) (hs : i.size = 1)
    (hroom : sLen + k ≤ sCap) (hfit : sLen + k ≤ cur.size) (h63 : (k : Int) ≤ 9223372036854775807) (h48 : k * i.bytes ≤ 281474976710656) :
    (Builtin.append_ #[t, tn] ty #[.slice (some ⟨g, 0, none⟩) sLen sCap, .int kq k]).run P w =
      .ok (.slice (some ⟨g, 0, none⟩) (sLen + k) sCap) (w.setRow g (cur.toList.take sLen ++ List.replicate k z ++ cur.toList.drop (sLen + k)).toArray) := by
  have hw : IntKind.i64.wrap (k : Int) = k := by rw [IntKind.wrap_i64]; omega
  have h48i : ¬ (281474976710656 < (k : Int) * (i.bytes : Int)) := by
    have : ((k : Int) * (i.bytes : Int)) = ((k * i.bytes : Nat) : Int) := by simp
    rw [this]; omega
  have hneg : ¬ ((k : Int) < 0) := by omega
  have hst := run_storeCells_at P g sLen e (List.replicate k z) 0 cur w hg (by simp; omega) (by intro u hu; rw [List.eq_of_mem_replicate hu]; exact hz1)
  simp only [Nat.add_zero, List.length_replicate] at hst
  by_cases hk : k = 0
  · subst hk
    have hw0 : IntKind.i64.wrap 0 = 0 := IntWalk.i64_in 0 (by omega)
    have hr0 : sLen ≤ sCap := by omega
    simp only [List.replicate_zero, Nat.add_zero, List.append_nil, List.take_append_drop, Array.toArray_toList] at hst
    simp [Builtin.append_, run_underlying ht, run_underlying htn, sizeOf, typeInfo, hi, asInt, asIntOf, hw0, hs, hr0, add_lit, hst]
  · simp [Builtin.append_, run_underlying ht, run_underlying htn, sizeOf, typeInfo, zeroValue, hi, hz, asInt, asIntOf, hw, h48i, hneg, hs, hk, hroom, zeroCells_one hz2, add_lit, hst]

/-- 'append(s, make([]T, k)...)': zeros; elements of one cell. -/
theorem Eg.appendZ {x y : Operand} {t e ti : TypeId} {bytes n k : Nat} {ki : IntKind} {z : Value} {r : Option Row} {xs : List Value} {H0 : Blocks} {v : Value}
    (hx : ev σ x = some v) (hv : v = Row.v n r) (hy : ev σ y = some (.int .i64 (k : Int))) (hcut : Cut (Row.b e r) H H0)
    (ht : c.P.underlying t = some (.slice e)) (hti : c.P.underlying ti = some (.int ki)) (hi : (c.P.info? e).map (fun i => (i.zero, i.size, i.bytes)) = some (some z, 1, bytes)) (hz1 : z.oneCell' = true) (hz2 : z.cells = #[z]) (hb1 : 0 < bytes)
    (hr : Row.ok 1 n xs r) (hb : (n + k) * bytes ≤ 140737488355328) :
    Eg c σ H ⟨dst, .call { callee := .builtin .append, args := #[x, y], argTypes := #[t, ti] }, ty, pos, af, gd⟩
      (fun v H' => ∃ r', v = Row.v (n + k) r' ∧ H' = H0 ++ Row.b e r' ∧ Row.ok 1 (n + k) (xs ++ List.replicate k z) r' ∧ (r' = none ↔ r = none ∧ k = 0)) := fun A w hf hw => by
  subst hv
  obtain ⟨i, hi', hz, hsize, hby⟩ := info_parts hi
  subst hby
  have hw' := hw.perm hcut.perm
  have hnk : n + k ≤ 140737488355328 := Nat.le_trans (Nat.le_mul_of_pos_right _ hb1) hb
  have hkb : k * i.bytes ≤ 140737488355328 := Nat.le_trans (Nat.mul_le_mul_right _ (by omega)) hb
  have hexec : execOp A.eval ⟨dst, .call { callee := .builtin .append, args := #[x, y], argTypes := #[t, ti] }, ty, pos, af, gd⟩ = (do pure (Next.value (← Builtin.append_ #[t, ti] ty #[A.eval x, A.eval y]))) := by
    rw [BigFrame.execOp_builtin, BigFrame.builtin_append]; simp
  have fin : ∀ v' w', (Builtin.append_ #[t, ti] ty #[Row.v n r, .int .i64 (k : Int)]).run c.P w = .ok v' w' → (execOp A.eval ⟨dst, .call { callee := .builtin .append, args := #[x, y], argTypes := #[t, ti] }, ty, pos, af, gd⟩).run c.P w = .ok (.value v') w' := fun v' w' h => by
    rw [hexec, hf.ev hx, hf.ev hy]; simp [h]
  have grown : ∀ (old : Nat), old < n + k → (xs.length = n) → (∀ x, x ∈ Row.b e r → True) →
      Hp c.w0 (H0 ++ Row.b e (some ⟨w.heap.size, grownCap w (n + k) old e, xs.toArray ++ Builtin.zeroCells z.cells k ++ Builtin.zeroCells z.cells (grownCap w (n + k) old e - (n + k))⟩)) (w.drew.alloc (.cells (xs.toArray ++ Builtin.zeroCells z.cells k ++ Builtin.zeroCells z.cells (grownCap w (n + k) old e - (n + k))) e)) ∧
      Row.ok 1 (n + k) (xs ++ List.replicate k z) (some ⟨w.heap.size, grownCap w (n + k) old e, xs.toArray ++ Builtin.zeroCells z.cells k ++ Builtin.zeroCells z.cells (grownCap w (n + k) old e - (n + k))⟩) := by
    intro old _ hxl _
    have hge := grownCap_ge w (n + k) old e
    have hzl : ∀ j, (Builtin.zeroCells z.cells j).size = j := fun j => by rw [size_zeroCells, hz2]; simp
    refine ⟨?_, by simp [hxl], hge, grownCap_le_maxLen w _ _ e (by unfold maxLen; omega), ?_, ?_⟩
    · have h3 := (hw'.drew).alloc (.cells (xs.toArray ++ Builtin.zeroCells z.cells k ++ Builtin.zeroCells z.cells (grownCap w (n + k) old e - (n + k))) e (0, 0))
      refine ⟨h3.below, fun x hx => h3.blk x ?_, ?_, h3.mono⟩
      · simp only [Row.b, List.mem_append, List.mem_singleton] at hx
        rcases hx with hx | hx
        · simp [hx]
        · subst hx; simp
      · have h4 := h3.apart
        simp only [List.pairwise_cons, List.pairwise_append, List.mem_append] at h4
        simp only [Row.b, List.pairwise_append]
        refine ⟨h4.2.1, List.pairwise_singleton _ _, fun x hx y hy => ?_⟩
        simp only [List.mem_singleton] at hy
        subst hy
        exact fun e => h4.1 x (.inl hx) e.symm
    · simp only [Array.size_append, List.size_toArray, hzl, hxl, Nat.mul_one]
      omega
    · simp only [Array.toList_append, zeroCells_one hz2, Nat.mul_one]
      rw [show n + k = (xs ++ List.replicate k z).length from by simp [hxl]]
      exact List.take_left
  cases r with
  | none =>
    obtain ⟨rfl, rfl⟩ := hr
    by_cases hk : k = 0
    · subst hk
      refine ⟨_, _, w, fin (.slice none 0 0) w ?_, hw', none, rfl, rfl, by simp [Row.ok], by simp⟩
      simp [Row.v, Builtin.append_, run_underlying ht, run_underlying hti, sizeOf, typeInfo, hi', asInt, asIntOf, show IntKind.i64.wrap 0 = 0 from IntWalk.i64_in 0 (by omega)]
    · have hrun := Lib.run_append_nil_zeros (P := c.P) w t ti ty e i z .i64 ki ht hti hi' hz k (by omega) (by omega) (by omega) (by omega)
      have hg := grown 0 (by omega) rfl (fun _ _ => trivial)
      simp only [Nat.zero_add, List.nil_append, Array.empty_append] at hg ⊢
      exact ⟨_, _, _, fin _ _ hrun, hg.1, _, rfl, rfl, hg.2, by simp [hk]⟩
  | some r =>
    obtain ⟨hxl, hnc, hcm, hcs, htake⟩ := hr
    have hmem : (r.g, Obj.cells r.cs e (0, 0)) ∈ H0 ++ Row.b e (some r) := by simp [Row.b]
    have hg := hw'.get hmem
    by_cases hroom : n + k ≤ r.cap
    · have hrun := run_append_room_zeros (P := c.P) w t ti ty e i z .i64 ki ht hti hi' hz r.g n r.cap r.cs hg k hz2 hz1 hsize hroom (by omega) (by omega) (by omega)
      refine ⟨_, _, _, fin _ _ hrun, ?_, some ⟨r.g, r.cap, (r.cs.toList.take n ++ List.replicate k z ++ r.cs.toList.drop (n + k)).toArray⟩, rfl, rfl, ⟨by simp [hxl], hroom, hcm, ?_, ?_⟩, by simp⟩
      · refine hw'.setRow (b := r.g) (cs := r.cs) (t := e) (fr := (0, 0)) ?_
        have : ∀ (A : Blocks), Upd r.g (.cells r.cs e (0, 0)) (.cells (r.cs.toList.take n ++ List.replicate k z ++ r.cs.toList.drop (n + k)).toArray e (0, 0)) (A ++ [(r.g, .cells r.cs e (0, 0))]) (A ++ [(r.g, .cells (r.cs.toList.take n ++ List.replicate k z ++ r.cs.toList.drop (n + k)).toArray e (0, 0))]) := by
          intro A
          induction A with
          | nil => exact .here
          | cons x A ih => exact .there ih
        exact this H0
      · simp only [List.size_toArray, List.length_append, List.length_take, List.length_drop, Array.length_toList, List.length_replicate]
        omega
      · rw [Nat.mul_one] at htake
        simp only [Nat.mul_one]
        rw [htake, show n + k = (xs ++ List.replicate k z).length from by simp [hxl]]
        exact List.take_left
    · have holds : Mem w ⟨r.g, 0, none⟩ xs := fun j u hj => by
        rw [add_lit]
        refine (cell_own hw' hmem _).trans ?_
        rw [← htake, List.getElem?_take] at hj
        split at hj
        · simpa using hj
        · cases hj
      have hold := run_firstCells_some (P := c.P) w.drew i.size n _ n r.cap xs (by rw [hsize]; exact hxl) holds
      have hrun := Lib.run_append_grow_zeros (P := c.P) w t ti ty e i z .i64 ki ht hti hi' hz (some ⟨r.g, 0, none⟩) n r.cap xs hold k (by omega) (by omega) (by omega) (by omega) (by omega) (growslice_fits (by omega) hb)
      have hg := grown r.cap (by omega) (by simpa using hxl) (fun _ _ => trivial)
      exact ⟨_, _, _, fin _ _ hrun, hg.1, _, rfl, rfl, hg.2, by simp⟩

theorem Eg.appendZs {x y : Operand} {t e ti : TypeId} {bytes n k : Nat} {ki : IntKind} {z : Value} {r : Row} {xs : List Value} {H0 : Blocks} {v : Value}
    (hx : ev σ x = some v) (hv : v = Row.v n (some r)) (hy : ev σ y = some (.int .i64 (k : Int))) (hcut : Cut (Row.b e (some r)) H H0)
    (ht : c.P.underlying t = some (.slice e)) (hti : c.P.underlying ti = some (.int ki)) (hi : (c.P.info? e).map (fun i => (i.zero, i.size, i.bytes)) = some (some z, 1, bytes)) (hz1 : z.oneCell' = true) (hz2 : z.cells = #[z]) (hb1 : 0 < bytes)
    (hr : Row.ok 1 n xs (some r)) (hb : (n + k) * bytes ≤ 140737488355328) :
    Eg c σ H ⟨dst, .call { callee := .builtin .append, args := #[x, y], argTypes := #[t, ti] }, ty, pos, af, gd⟩
      (fun v H' => ∃ r' : Row, v = Row.v (n + k) (some r') ∧ H' = H0 ++ Row.b e (some r') ∧ Row.ok 1 (n + k) (xs ++ List.replicate k z) (some r')) := fun A w hf hw => by
  obtain ⟨v', H', w', h2, h3, r', h4, h5, h6, h7⟩ := Eg.appendZ (dst := dst) (ty := ty) (pos := pos) (af := af) (gd := gd) hx hv hy hcut ht hti hi hz1 hz2 hb1 hr hb A w hf hw
  cases r' with
  | none => cases (h7.1 rfl).1
  | some r' => exact ⟨v', H', w', h2, h3, r', h4, h5, h6⟩

theorem Rds.all {b : Nat} {vs : List Value} {t : TypeId} {fr : Nat × Nat} (hb : (b, Obj.cells vs.toArray t fr) ∈ H) : Rds c H ⟨b, 0, none⟩ vs :=
  Rds.own hb fun j v hj => by simpa using hj

/-! ### copy, into a block of the call's own; a string of bytes -/
theorem Eg.copy {x y : Operand} {t ts e tb : TypeId} {b o dl dc sl sc n : Nat} {cs : Array Value} {sa : Addr} {l : List Value} {H' : Blocks}
    (hx : ev σ x = some (.slice (some ⟨b, o, none⟩) dl dc)) (hy : ev σ y = some (.slice (some sa) sl sc)) (ht : c.P.underlying t = some (.slice e)) (hs : ∀ w, (sizeOf e).run c.P w = .ok 1 w)
    (hu : Upd b (.cells cs tb (0, 0)) (.cells (over cs o l) tb (0, 0)) H H') (hn : n = Nat.min sl dl) (hl : l.length = n) (hm : Rds c H sa l) (ho : o + n ≤ cs.size) (h1 : ∀ u ∈ l, u.oneCell' = true) :
    Eg c σ H ⟨dst, .call { callee := .builtin .copy, args := #[x, y], argTypes := #[t, ts] }, ty, pos, af, gd⟩ (fun v H'' => v = .int .i64 (n : Int) ∧ H'' = H') := fun A w hf hw => by
  refine ⟨_, _, w.setRow b (over cs o l), ?_, hw.setRow hu, rfl, rfl⟩
  have hf1 := run_firstCells_some (P := c.P) w 1 n sa sl sc l (by simpa using hl) (hm w hw)
  have hst := run_storeCells_at c.P b o tb l 0 cs w (hw.get hu.mem) (by omega) h1
  simp only [Nat.add_zero] at hst
  have hn' : Nat.min sl dl = n := hn.symm
  rw [BigFrame.execOp_builtin, BigFrame.builtin_copy]
  simp [hf.ev hx, hf.ev hy, Builtin.copy_, run_underlying ht, hs, Builtin.lenOf, hn', hf1, hst, goInt, over]

/-- The bytes as a string. -/
def strOf (l : List UInt8) : Value := .string ⟨l.toArray⟩
end

/-! ### Bytes and words in memory -/
def arr32 (l : List UInt32) : Array Value := (l.map u32).toArray
def arr8 (l : List UInt8) : Array Value := (l.map u8).toArray
theorem arr32_size (l : List UInt32) : (arr32 l).size = l.length := by simp [arr32]
theorem arr8_size (l : List UInt8) : (arr8 l).size = l.length := by simp [arr8]
theorem arr32_get {l : List UInt32} {k : Nat} {x : UInt32} (h : l[k]? = some x) : (arr32 l)[k]? = some (u32 x) := by simp [arr32, h]
theorem arr32_set (l : List UInt32) (k : Nat) (x : UInt32) : (arr32 l).setIfInBounds k (u32 x) = arr32 (l.set k x) := by
  simp [arr32]
theorem arr32_one (l : List UInt32) : ∀ u ∈ (arr32 l).toList, u.oneCell' = true := by
  intro u hu; simp [arr32] at hu; obtain ⟨x, _, rfl⟩ := hu; rfl
theorem arr8_one (l : List UInt8) : ∀ u ∈ (arr8 l).toList, u.oneCell' = true := by
  intro u hu; simp [arr8] at hu; obtain ⟨x, _, rfl⟩ := hu; rfl
theorem u8s_one (l : List UInt8) : ∀ u ∈ l.map u8, u.oneCell' = true := by
  intro u hu; simp at hu; obtain ⟨x, _, rfl⟩ := hu; rfl

/-- The bytes l from a on. -/
def BMem (w : World) (a : Addr) (l : List UInt8) : Prop := Mem w a (l.map u8)
theorem BMem.cut {w : World} {a : Addr} {l : List UInt8} (h : BMem w a l) (k n : Nat) : BMem w (a.add k) ((l.drop k).take n) := by
  have := Mem.cut h k n
  rwa [← List.map_drop, ← List.map_take] at this
theorem BMem.drop {w : World} {a : Addr} {l : List UInt8} (h : BMem w a l) (k : Nat) : BMem w (a.add k) (l.drop k) := by
  have := h.cut k l.length
  rwa [List.take_of_length_le (by simp)] at this
theorem BMem.take {w : World} {a : Addr} {l : List UInt8} (h : BMem w a l) (n : Nat) : BMem w a (l.take n) := by
  have := h.cut 0 n
  rwa [List.drop_zero, show a.add 0 = a from by simp [Addr.add]] at this
theorem BMem.at {w : World} {a : Addr} {l : List UInt8} (h : BMem w a l) {k : Nat} (hk : k < l.length) : w.cell? (a.add k) = some (u8 (l.getD k 0)) := by
  refine h k _ ?_
  simp [hk]
theorem BMem.old {w0 w : World} {H : Blocks} {a : Addr} {l : List UInt8} (h : Hp w0 H w) (hm : BMem w0 a l) : BMem w a l := Mem.old h hm
/-- A slice that reads as these bytes. -/
structure Bs (w : World) (oa : Option Addr) (cap : Nat) (l : List UInt8) : Prop where
  le : l.length ≤ cap
  top : cap ≤ maxLen
  empty : oa = none → cap = 0
  mem : ∀ a, oa = some a → BMem w a l
theorem Bs.old {w0 w : World} {H : Blocks} {oa : Option Addr} {cap : Nat} {l : List UInt8} (hw : Hp w0 H w) (h : Bs w0 oa cap l) : Bs w oa cap l :=
  ⟨h.le, h.top, h.empty, fun a ha => (h.mem a ha).old hw⟩
end Go.Proofs.YtjjoenbighmfoaaDoor
namespace Go.Proofs.YtjjoenbighmfoaaDoor

def rotr (x : UInt32) (n : Nat) : UInt32 := (x >>> UInt32.ofNat n) ||| (x <<< UInt32.ofNat (32 - n))

def kTab : List UInt32 := [
  0x428a2f98, 0x71374491, 0xb5c0fbcf, 0xe9b5dba5, 0x3956c25b, 0x59f111f1, 0x923f82a4, 0xab1c5ed5,
  0xd807aa98, 0x12835b01, 0x243185be, 0x550c7dc3, 0x72be5d74, 0x80deb1fe, 0x9bdc06a7, 0xc19bf174,
  0xe49b69c1, 0xefbe4786, 0x0fc19dc6, 0x240ca1cc, 0x2de92c6f, 0x4a7484aa, 0x5cb0a9dc, 0x76f988da,
  0x983e5152, 0xa831c66d, 0xb00327c8, 0xbf597fc7, 0xc6e00bf3, 0xd5a79147, 0x06ca6351, 0x14292967,
  0x27b70a85, 0x2e1b2138, 0x4d2c6dfc, 0x53380d13, 0x650a7354, 0x766a0abb, 0x81c2c92e, 0x92722c85,
  0xa2bfe8a1, 0xa81a664b, 0xc24b8b70, 0xc76c51a3, 0xd192e819, 0xd6990624, 0xf40e3585, 0x106aa070,
  0x19a4c116, 0x1e376c08, 0x2748774c, 0x34b0bcb5, 0x391c0cb3, 0x4ed8aa4a, 0x5b9cca4f, 0x682e6ff3,
  0x748f82ee, 0x78a5636f, 0x84c87814, 0x8cc70208, 0x90befffa, 0xa4506ceb, 0xbef9a3f7, 0xc67178f2]

/-- The big-endian word at an offset. -/
def beWord (b : List UInt8) (o : Nat) : UInt32 :=
  ((b.getD o 0).toUInt32 <<< UInt32.ofNat 24 ||| (b.getD (o + 1) 0).toUInt32 <<< UInt32.ofNat 16 ||| (b.getD (o + 2) 0).toUInt32 <<< UInt32.ofNat 8) ||| (b.getD (o + 3) 0).toUInt32

def nextW (w : List UInt32) (t : Nat) : UInt32 :=
  let x := w.getD (t - 15) 0
  let y := w.getD (t - 2) 0
  w.getD (t - 16) 0 + ((rotr x 7 ^^^ rotr x 18) ^^^ x >>> UInt32.ofNat 3) + w.getD (t - 7) 0 + ((rotr y 17 ^^^ rotr y 19) ^^^ y >>> UInt32.ofNat 10)

/-- The message schedule's first t words. -/
def sched (b : List UInt8) : Nat → List UInt32
  | 0 => []
  | t + 1 => sched b t ++ [if t < 16 then beWord b (4 * t) else nextW (sched b t) t]

theorem sched_length (b : List UInt8) : ∀ t, (sched b t).length = t
  | 0 => rfl
  | t + 1 => by simp [sched, sched_length b t]

structure St where
  a : UInt32
  b : UInt32
  c : UInt32
  d : UInt32
  e : UInt32
  f : UInt32
  g : UInt32
  h : UInt32

def St.l (s : St) : List UInt32 := [s.a, s.b, s.c, s.d, s.e, s.f, s.g, s.h]

/-- One round, as the program reckons it. -/
def t1 (s : St) (k w : UInt32) : UInt32 := s.h + ((rotr s.e 6 ^^^ rotr s.e 11) ^^^ rotr s.e 25) + (s.g ^^^ s.e &&& (s.f ^^^ s.g)) + k + w
def t2 (s : St) : UInt32 := ((rotr s.a 2 ^^^ rotr s.a 13) ^^^ rotr s.a 22) + (s.a &&& (s.b ||| s.c) ||| s.b &&& s.c)
def rnd (s : St) (k w : UInt32) : St := ⟨t1 s k w + t2 s, s.a, s.b, s.c, s.d + t1 s k w, s.e, s.f, s.g⟩

/-- As the reference does. -/
def t1r (s : St) (k w : UInt32) : UInt32 := s.h + ((rotr s.e 6 ^^^ rotr s.e 11) ^^^ rotr s.e 25) + (s.e &&& s.f ||| ~~~s.e &&& s.g) + k + w
def t2r (s : St) : UInt32 := ((rotr s.a 2 ^^^ rotr s.a 13) ^^^ rotr s.a 22) + (s.a &&& s.b ||| s.a &&& s.c ||| s.b &&& s.c)

/-- The state behind t rounds. -/
def rounds (s : St) (b : List UInt8) : Nat → St
  | 0 => s
  | t + 1 => rnd (rounds s b t) (kTab.getD t 0) ((sched b 64).getD t 0)

def addSt (s v : St) : St := ⟨s.a + v.a, s.b + v.b, s.c + v.c, s.d + v.d, s.e + v.e, s.f + v.f, s.g + v.g, s.h + v.h⟩
/-- A state after compressing a block. -/
def comp (s : St) (b : List UInt8) : St := addSt s (rounds s b 64)

def st0 : St := ⟨0x6a09e667, 0xbb67ae85, 0x3c6ef372, 0xa54ff53a, 0x510e527f, 0x9b05688c, 0x1f83d9ab, 0x5be0cd19⟩

/-- How many zeros the padding has. -/
def zeros (n : Nat) : Nat := (64 - (n + 9) % 64) % 64
/-- The length in bits, eight bytes. -/
def lenBytes (n : Nat) : List UInt8 := (List.range 8).map fun i => ((UInt64.ofNat n * 8) >>> UInt64.ofNat (56 - 8 * i)).toUInt8
def pad (b : List UInt8) : List UInt8 := b ++ [128] ++ List.replicate (zeros b.length) 0 ++ lenBytes b.length

theorem pad_length (b : List UInt8) : (pad b).length = b.length + 9 + zeros b.length := by
  simp [pad, lenBytes]; omega
theorem pad_mod (b : List UInt8) : (pad b).length % 64 = 0 := by
  rw [pad_length]; unfold zeros; omega

/-- The fold over n blocks, from block k on. -/
def foldB (p : List UInt8) : St → Nat → St
  | s, 0 => s
  | s, n + 1 => comp (foldB p s n) ((p.drop (64 * n)).take 64)

def outBytes (s : St) : List UInt8 := s.l.flatMap fun x => [(x >>> UInt32.ofNat 24).toUInt8, (x >>> UInt32.ofNat 16).toUInt8, (x >>> UInt32.ofNat 8).toUInt8, x.toUInt8]

def sha (b : List UInt8) : List UInt8 := outBytes (foldB (pad b) st0 ((pad b).length / 64))

theorem sha_length (b : List UInt8) : (sha b).length = 32 := rfl
end Go.Proofs.YtjjoenbighmfoaaDoor
namespace Go.Proofs.YtjjoenbighmfoaaDoor
open Go Go.RowKit

def fillW (b : List UInt8) (k : Nat) : List UInt32 := sched b k ++ List.replicate (64 - k) 0
theorem fillW_length (b : List UInt8) {k : Nat} (hk : k ≤ 64) : (fillW b k).length = 64 := by
  simp [fillW, sched_length]; omega
theorem fillW_get (b : List UInt8) {k j : Nat} (hj : j < k) : (arr32 (fillW b k))[j]? = some (u32 ((sched b k).getD j 0)) := by
  apply arr32_get
  unfold fillW
  rw [List.getElem?_append_left (by rw [sched_length]; exact hj)]
  rw [List.getD_eq_getElem?_getD]
  rw [List.getElem?_eq_getElem (by rw [sched_length]; exact hj)]
  rfl
theorem fillW_set (b : List UInt8) {k : Nat} (hk : k < 64) {x : UInt32} (hx : x = if k < 16 then beWord b (4 * k) else nextW (sched b k) k) :
    (arr32 (fillW b k)).setIfInBounds k (u32 x) = arr32 (fillW b (k + 1)) := by
  rw [arr32_set]
  congr 1
  unfold fillW
  have h1 : 64 - k = (64 - (k + 1)) + 1 := by omega
  rw [h1, List.replicate_succ, sched, ← hx, List.append_assoc]
  rw [List.set_append, if_neg (by rw [sched_length]; omega), sched_length, Nat.sub_self]
  rfl
theorem fillW_all (b : List UInt8) : fillW b 64 = sched b 64 := by simp [fillW]
theorem getD_drop (l : List UInt8) (o j : Nat) : (l.drop o).getD j 0 = l.getD (o + j) 0 := by
  simp [List.getD_eq_getElem?_getD]
theorem beWord_drop (l : List UInt8) (o : Nat) : beWord (l.drop o) 0 = beWord l o := by
  unfold beWord
  simp only [getD_drop, Nat.add_zero, Nat.zero_add]

/-- The table of constants, in memory. -/
def KMem (g : Nat) (w : World) : Prop := Mem w ⟨g, 0, none⟩ (kTab.map u32)
def FMem (g : Nat) (w : World) : Prop := Mem w ⟨g, 0, none⟩ (st0.l.map u32)
theorem FMem.old {g : Nat} {w0 w : World} {H : Blocks} (hw : Hp w0 H w) (h : FMem g w0) : FMem g w := Mem.old hw h
theorem KMem.at {g : Nat} {w : World} (h : KMem g w) {k : Nat} (hk : k < 64) : w.cell? ⟨g, k, none⟩ = some (u32 (kTab.getD k 0)) := by
  have h1 := h k (u32 (kTab.getD k 0)) (by
    have : k < kTab.length := hk
    simp [this])
  rwa [add_lit, Nat.zero_add] at h1
theorem KMem.old {g : Nat} {w0 w : World} {H : Blocks} (hw : Hp w0 H w) (h : KMem g w0) : KMem g w := Mem.old hw h
theorem sched_at (b : List UInt8) {k : Nat} (hk : k < 64) : (arr32 (sched b 64))[k]? = some (u32 ((sched b 64).getD k 0)) := by
  apply arr32_get
  rw [List.getD_eq_getElem?_getD, List.getElem?_eq_getElem (by rw [sched_length]; exact hk)]
  rfl
theorem arr32_pre (l : List UInt32) (n : Nat) : ∀ j v, ((l.take n).map u32)[j]? = some v → (arr32 l)[0 + j]? = some v := by
  intro j v h
  rw [List.getElem?_map, List.getElem?_take] at h
  split at h
  · simp only [Nat.zero_add, arr32, List.getElem?_toArray, List.getElem?_map]; exact h
  · cases h
def addK (s v : St) (k : Nat) : List UInt32 := (List.zipWith (· + ·) s.l v.l).take k ++ s.l.drop k
theorem addK_length (s v : St) {k : Nat} (hk : k ≤ 8) : (addK s v k).length = 8 := by
  rcases (by omega : k = 0 ∨ k = 1 ∨ k = 2 ∨ k = 3 ∨ k = 4 ∨ k = 5 ∨ k = 6 ∨ k = 7 ∨ k = 8) with h | h | h | h | h | h | h | h | h <;> subst h <;> rfl
theorem addK_at (s v : St) {k : Nat} (hk : k < 8) : (arr32 (addK s v k))[k]? = some (u32 (s.l.getD k 0)) := by
  rcases (by omega : k = 0 ∨ k = 1 ∨ k = 2 ∨ k = 3 ∨ k = 4 ∨ k = 5 ∨ k = 6 ∨ k = 7) with h | h | h | h | h | h | h | h <;> subst h <;> rfl
theorem addK_set (s v : St) {k : Nat} (hk : k < 8) : (arr32 (addK s v k)).setIfInBounds k (u32 (s.l.getD k 0 + v.l.getD k 0)) = arr32 (addK s v (k + 1)) := by
  rcases (by omega : k = 0 ∨ k = 1 ∨ k = 2 ∨ k = 3 ∨ k = 4 ∨ k = 5 ∨ k = 6 ∨ k = 7) with h | h | h | h | h | h | h | h <;> subst h <;> rfl
theorem stl_at (s : St) {k : Nat} (hk : k < 8) : (arr32 s.l)[k]? = some (u32 (s.l.getD k 0)) := by
  rcases (by omega : k = 0 ∨ k = 1 ∨ k = 2 ∨ k = 3 ∨ k = 4 ∨ k = 5 ∨ k = 6 ∨ k = 7) with h | h | h | h | h | h | h | h <;> subst h <;> rfl
end Go.Proofs.YtjjoenbighmfoaaDoor
namespace Go.Proofs.YtjjoenbighmfoaaDoor
open Go Go.RowKit

theorem roundIn_any {r : Option Nat} {n m l : Nat} {P : Program} {f : FuncId} {tmps : Array Value} {assign body : Code} {w : World} {R : Ending → World → Prop}
    (h : RoundIn (Fw r) n P l f tmps assign body w R) : RoundIn (Fw r) m P l f tmps assign body w R := ⟨h.1, fun c cs _ => h.2 c cs (fun d hd => by cases hd)⟩

/-- A call of the round's own function comes to R. -/
def YieldOk (P : Program) (l : Nat) (args : Array Value) (w : World) (R : Ending → World → Prop) : Prop :=
  ∃ fn tmps assign body, (Instr.yield l args).run P w = .ok (.round l fn tmps assign body) w ∧ RoundIn (Fw none) 6 P l fn tmps assign body w R

section
variable {c : Cx} {σ : Slots} {H : Blocks} {Q : Post1} {ops : Array Oper}

/-- The call of yield, as an iterator makes it. -/
theorem JL.yield {d l : Nat} {f : Operand} {xs : List Operand} {ats : Array TypeId} {ty : TypeId} {pos : String} {af : Array Edge} {gd : Option (Nat × Bool)} {vs : List Value} {H' : Blocks} {rest : List Oper}
    (hr : c.r = none) (hdn : Nat.blt d c.n = true) (g : Gd ops σ gd true) (hf : ev σ f = some (.func (.yield l) #[] #[])) (hx : evs σ xs = some vs)
    (hy : ∀ w, Hp c.w0 H w → YieldOk c.P l vs.toArray w (fun e w' => e = .returned (.bool true) ∧ Hp c.w0 H' w'))
    (h : JL c ops ((d, .bool true) :: σ) H' rest Q) :
    JL c ops σ H ({ dst := some d, op := .call { callee := .value f, args := xs.toArray, argTypes := ats }, type := ty, pos := pos, after := af, guard := gd } :: rest) Q := fun a w hfr hw => by
  obtain ⟨fn, tmps, assign, body, hrun, hround⟩ := hy w hw
  unfold wpListIn
  rw [if_pos (g.wanted hfr)]
  refine ⟨fun _ _ => trivial, ?_⟩
  rw [Oper.semAt_eq _ _ _ (notDefer_ne rfl)]
  have e1 := hfr.ev hf
  have e2 := hfr.evs hx
  have key : (execOp a.eval { dst := some d, op := .call { callee := .value f, args := xs.toArray, argTypes := ats }, type := ty, pos := pos, after := af, guard := gd }).run c.P w = .ok (.round l fn tmps assign body) w := by
    simp only [execOp, resolve, e1, List.map_toArray, e2, Deferred.ofValue, Sem.run_bind, Sem.run_pure, Result.andThen_ok, invoke]
    simpa using hrun
  rw [key]
  refine ⟨fun h => by simp [Fw] at h, ?_⟩
  rw [hr]
  refine (roundIn_any hround).mono ?_
  rintro e w' ⟨rfl, hw'⟩
  have := h _ w' (hfr.put (Nat.le_of_ble_eq_true hdn) (.bool true)) hw'
  rw [hr] at this
  exact this
end

theorem Hp.putObj {w0 w : World} {H H' : Blocks} {b : Nat} {o o' : Obj} (h : Hp w0 H w) (hu : Upd b o o' H H') : Hp w0 H' (w.putObj b o') := h.upd hu rfl

theorem Sub.two {x y : Nat × Obj} {A H : Blocks} (h : Sub A H) : Sub (A ++ [x, y]) (x :: y :: H) := by
  suffices key : ∀ (A H : Blocks), Sub A H → Sub (A ++ [x, y]) (x :: y :: H) from key A H h
  intro A H h
  induction h with
  | nil => exact .cons .here (.cons .here .nil)
  | all =>
    rename_i H
    have one : ∀ (B C : Blocks), Sub B C → ∀ z, Sub (z :: B) (z :: C) := fun B C h z => .cons .here h
    induction H with
    | nil => exact .all
    | cons z H ih => exact .cons (.there (.there .here)) ih
  | cons hp _ ih => exact .cons (.there (.there hp)) ih

theorem Upd.tail {b : Nat} {o o' : Obj} (A : Blocks) (B : Blocks) : Upd b o o' (A ++ (b, o) :: B) (A ++ (b, o') :: B) := by
  induction A with
  | nil => exact .here
  | cons x A ih => exact .there ih

theorem JC.range {P : Program} {n : Nat} {w0 : World} {σ : Slots} {H : Blocks} {g : Operand} {p : Nat} {assign body : Code} {Q : Post1} {gf : FuncId} {lb : List Value}
    (N : Nat) (HI : Nat → Blocks → Blocks) (val : Nat → Value) (σ1 : Nat → Slots)
    (hHI : ∀ k E, HI k E = HI k [] ++ E) (hg : ev σ g = some (.func (.func gf) #[] lb.toArray)) (hent : ∀ args w, (callFunc gf args).run P w = .ok (.enter gf args) w)
    (h0 : Sub (HI 0 []) H) (hpn : Nat.blt p n = true)
    (hiter : ∀ (l : Nat) (E : Blocks) (w : World), Hp w0 (HI 0 E) w →
      (∀ k, k < N → ∀ w1, Hp w0 (HI k E) w1 → YieldOk P l #[val k] w1 (fun e w' => e = .returned (.bool true) ∧ Hp w0 (HI (k + 1) E) w')) →
      Calls P gf (#[.func (.yield l) #[] #[]] ++ lb.toArray) w (Ret w0 fun _ H' => H' = HI N E))
    (hassign : ∀ (l k : Nat) (E : Blocks), k < N → JC ⟨P, some l, n, [], w0⟩ ((p, val k) :: σ) (HI k E) assign (fun e a w => e = .normal ∧ Fr n [] (σ1 k) a ∧ Hp w0 (HI k E) w))
    (hbody : ∀ (l k : Nat) (E : Blocks), k < N → JC ⟨P, some l, n, [], w0⟩ (σ1 k) (HI k E) body (fun e _ w => e = .normal ∧ Hp w0 (HI (k + 1) E) w))
    (hdone : ∀ (D : Nat) (E : Blocks), JQ ⟨P, none, n, [{ target := .collected D, args := #[] }], w0⟩ σ (HI N ((D, .deferred (some [])) :: E)) Q .normal) :
    JC ⟨P, none, n, [], w0⟩ σ H (.rangeFunc g #[p] assign body) Q := fun a w hf hw => by
  show (Code.rangeFunc g #[p] assign body).wpIn (Fw none) 7 P Q a w
  refine wpIn_rangeFunc (F := Fw none) ?_
  intro fn _
  obtain ⟨rec, hrec⟩ : ∃ rec : LoopState → Loop, rec = fun st => { state := st, pending := none, fn, tmps := a.tmps, params := #[p], assign, body, defers := w.heap.size } := ⟨_, rfl⟩
  have hW1 : Hp w0 ((w.heap.size + 1, Obj.loop (rec .ready)) :: (w.heap.size, Obj.deferred (some [])) :: H) ((w.alloc (.deferred (some []))).alloc (.loop (rec .ready))) := by
    have := (hw.alloc (Obj.deferred (some []))).alloc (Obj.loop (rec .ready))
    rwa [World.size_alloc] at this
  have hW2 : Hp w0 (HI 0 [(w.heap.size + 1, Obj.loop (rec .ready)), (w.heap.size, Obj.deferred (some []))]) ((w.alloc (.deferred (some []))).alloc (.loop (rec .ready))) := by
    rw [hHI]
    exact hW1.sub (Sub.two h0)
  have hgv := hf.ev hg
  refine ⟨w.heap.size + 1, [{ target := .collected w.heap.size, args := #[] }], (w.alloc (.deferred (some []))).alloc (.loop (rec .ready)), { target := .fn (.func gf) lb.toArray, args := #[.func (.yield (w.heap.size + 1)) #[] #[]] },
    (w.alloc (.deferred (some []))).alloc (.loop (rec .ready)), gf, #[.func (.yield (w.heap.size + 1)) #[] #[]] ++ lb.toArray, (w.alloc (.deferred (some []))).alloc (.loop (rec .ready)), ?_, ?_, fun _ _ => trivial, ?_, fun h => by simp [Fw] at h, ?_⟩
  · rw [hrec]
    exact run_enterLoop_outer _ _ _ _ _
  · simp only [resolve, hgv]
    simp [go_sem]
  · simp [invoke, go_sem, hent]
  · refine (callsW (hiter (w.heap.size + 1) [(w.heap.size + 1, Obj.loop (rec .ready)), (w.heap.size, Obj.deferred (some []))] _ hW2 ?_) none _).mono ?_
    · intro k hk w1 hw1
      have hl : w1.heap[w.heap.size + 1]? = some (.loop (rec .ready)) := hw1.get (by rw [hHI]; simp)
      have hy := run_yield (P := P) (args := #[val k]) hl (by rw [hrec]; rfl)
      refine ⟨(rec .ready).fn, _, (rec .ready).assign, (rec .ready).body, hy, ?_⟩
      refine roundIn_any (n := 7) (roundIn_of_wpIn (F := Fw none) trivial ?_)
      have hfr : Fr n [] ((p, val k) :: σ) { tmps := (((rec .ready).params).zip #[val k]).foldl (fun tmps (t, a) => tmps.setIfInBounds t a) (rec .ready).tmps, defers := [] } := by
        have := hf.put (Nat.le_of_ble_eq_true hpn) (val k)
        have e : (((rec .ready).params).zip #[val k]).foldl (fun tmps (t, a) => tmps.setIfInBounds t a) (rec .ready).tmps = (a.put (some p) (val k)).tmps := by
          rw [hrec]
          simp [Act.put]
        exact ⟨by simpa only [e] using this.size, rfl, fun t v h => by simpa only [e] using this.get t v h⟩
      have hassign' := hassign (w.heap.size + 1) k [(w.heap.size + 1, Obj.loop (rec .ready)), (w.heap.size, Obj.deferred (some []))] hk _ w1 hfr hw1
      have hfn : (rec .ready).assign = assign := by rw [hrec]
      have hbd : (rec .ready).body = body := by rw [hrec]
      rw [hfn, hbd]
      refine wpIn_mono hassign' ?_
      rintro e a1 w2 ⟨rfl, hf1, hw2⟩
      have hl2 : w2.heap[w.heap.size + 1]? = some (.loop (rec .ready)) := hw2.get (by rw [hHI]; simp)
      refine ⟨_, run_beginRound hl2 (by rw [hrec]), ?_⟩
      have hb := hbody (w.heap.size + 1) k [(w.heap.size + 1, Obj.loop { rec .ready with state := .busy }), (w.heap.size, Obj.deferred (some []))] hk a1 (w2.putObj (w.heap.size + 1) (.loop { rec .ready with state := .busy })) hf1
        (hw2.putObj (by rw [hHI k [(w.heap.size + 1, Obj.loop (rec .ready)), (w.heap.size, Obj.deferred (some []))], hHI k [(w.heap.size + 1, Obj.loop { rec .ready with state := .busy }), (w.heap.size, Obj.deferred (some []))]]; exact Upd.tail _ _))
      refine wpIn_mono hb ?_
      rintro e a3 w3 ⟨rfl, hw3⟩
      have hl3 : w3.heap[w.heap.size + 1]? = some (.loop { rec .ready with state := .busy }) := hw3.get (by rw [hHI]; simp)
      refine ⟨_, _, run_endRound none hl3, rfl, ?_⟩
      have : (Obj.loop { { rec .ready with state := .busy } with state := if (none : Option Code).isNone then .ready else .done, pending := none }) = Obj.loop (rec .ready) := by rw [hrec]; rfl
      rw [this]
      refine hw3.putObj (o := Obj.loop { rec .ready with state := .busy }) ?_
      rw [hHI (k + 1) [(w.heap.size + 1, Obj.loop (rec .ready)), (w.heap.size, Obj.deferred (some []))], hHI (k + 1) [(w.heap.size + 1, Obj.loop { rec .ready with state := .busy }), (w.heap.size, Obj.deferred (some []))]]
      exact Upd.tail _ _
    · rintro e w2 ⟨v, H', rfl, hw2, rfl⟩
      have hl : w2.heap[w.heap.size + 1]? = some (.loop (rec .ready)) := hw2.get (by rw [hHI]; simp)
      refine ⟨none, w2.putObj (w.heap.size + 1) (.loop { rec .ready with state := .exhausted }), ?_, hdone w.heap.size [(w.heap.size + 1, Obj.loop { rec .ready with state := .exhausted })] _ _ ⟨hf.size, by simp [hf.defers], hf.get⟩ ?_⟩
      · refine (run_endLoop (P := P) hl (by rw [hrec]; simp)).trans ?_
        rw [hrec]
      · have h1 := hw2.putObj (b := w.heap.size + 1) (o := Obj.loop (rec .ready)) (o' := Obj.loop { rec .ready with state := .exhausted }) (H' := HI N [(w.heap.size + 1, Obj.loop { rec .ready with state := .exhausted }), (w.heap.size, Obj.deferred (some []))])
          (by rw [hHI N [(w.heap.size + 1, Obj.loop (rec .ready)), (w.heap.size, Obj.deferred (some []))], hHI N [(w.heap.size + 1, Obj.loop { rec .ready with state := .exhausted }), (w.heap.size, Obj.deferred (some []))]]; exact Upd.tail _ _)
        rw [hHI] at h1
        rw [hHI]
        exact h1.perm (List.Perm.append_left _ (List.Perm.swap _ _ _))

/-- The end of a round's assignment, and of its body. -/
theorem JQ.asg {P : Program} {r : Option Nat} {n : Nat} {ds : List Deferred} {w0 : World} {σ σ' : Slots} {H : Blocks} (h : ∀ p ∈ σ', look σ p.1 = some p.2) :
    JQ ⟨P, r, n, ds, w0⟩ σ H (fun e a w => e = .normal ∧ Fr n ds σ' a ∧ Hp w0 H w) .normal := fun _ _ hf hw => ⟨rfl, hf.weaken h, hw⟩
theorem JQ.bod {P : Program} {r : Option Nat} {n : Nat} {ds : List Deferred} {w0 : World} {σ : Slots} {H H' : Blocks} (h : Sub H' H) :
    JQ ⟨P, r, n, ds, w0⟩ σ H (fun e _ w => e = .normal ∧ Hp w0 H' w) .normal := fun _ _ _ hw => ⟨rfl, hw.sub h⟩

/-- The entry of a function that holds such a range. -/
theorem enterM {P : Program} {f : FuncId} {fn : Func} {x : Code} {vs : List Value} {w : World} {R : Ending → World → Prop} {n : Nat}
    (hf : P.funcs[f]? = some fn) (hb : fn.body = some x) (hn : fn.ntmps = n) (hle : Nat.ble vs.length n = true)
    (h : JC ⟨P, none, n, [], w⟩ (slots0 0 vs) [] x (bodyPostM (Fw none) 7 P fn R)) : Calls P f vs.toArray w R := by
  refine callsIn_wide.1 (callsIn_of_wp_marks (F := Fw none) (n := 7) hf hb trivial ?_ rfl)
  refine h _ w ⟨?_, rfl, ?_⟩ (Hp.start w)
  · have := Nat.le_of_ble_eq_true hle
    simp [hn]; omega
  · intro t v hv
    obtain ⟨_, h2⟩ := look_slots0 vs 0 t v hv
    have hlt : t < vs.length := (List.getElem?_eq_some_iff.1 h2).1
    rw [Array.getElem?_append_left (by simpa using hlt)]
    simpa using h2

/-- Its end, with one result. -/
theorem JQ.endM1 {P : Program} {fn : Func} {w0 : World} {σ : Slots} {H : Blocks} {n D : Nat} {H' : Blocks} {Y : Value → Blocks → Prop} {r1 : ResultVar} {v : Value} {e : Exit} (he : e = .ret ∨ e = .normal)
    (hr : fn.results = #[r1]) (hD : (D, Obj.deferred (some [])) ∈ H) (hs : ∃ H1, Upd D (.deferred (some [])) (.deferred none) H H1 ∧ Sub H' H1 ∧ Rv P σ H1 r1 v) (hY : Y v H') :
    JQ ⟨P, none, n, [{ target := .collected D, args := #[] }], w0⟩ σ H (bodyPostM (Fw none) 7 P fn (Ret w0 Y)) e := fun a w hf hw => by
  obtain ⟨H1, hu, hs, h1'⟩ := hs
  have hw1 : Hp w0 H1 (w.putObj D (.deferred none)) := hw.putObj hu
  have : LeavesInM (Fw none) 7 P fn a.tmps (Ret w0 Y) a.defers .returning w := by
    rw [hf.defers]
    refine ⟨by simp, .inl ⟨D, _, rfl, run_takeDeferred (hw.get hD), v, ?_, v, H', rfl, hw1.sub hs, hY⟩⟩
    rw [results_eq, hr]
    simp [Rv.run h1' hf hw1]
  rcases he with rfl | rfl <;> exact this
end Go.Proofs.YtjjoenbighmfoaaDoor
namespace Go.Proofs.YtjjoenbighmfoaaDoor
open Go Go.RowKit

/-- An iterator, by what its rounds are: at the k-th it yields values 'vs' of which V k says what they are (over the iterator's own blocks O); there are N rounds, unless one stops. -/
def IterOk (P : Program) (gf : FuncId) (lb : List Value) (w0 : World) (O0 : Blocks) (V : Nat → List Value → Blocks → Prop) (N : Nat) : Prop :=
  ∀ (X : Type) (A : X → Blocks) (Inv : Nat → X → Prop) (Z : Blocks → Prop) (l : Nat) (x0 : X) (w : World), Inv 0 x0 → Hp w0 (O0 ++ A x0) w →
    (∀ k x vs O w1, k < N → Inv k x → V k vs O → Hp w0 (O ++ A x) w1 →
      YieldOk P l vs.toArray w1 (fun e w' => (∃ x', Inv (k + 1) x' ∧ e = .returned (.bool true) ∧ Hp w0 (O ++ A x') w') ∨ (∃ B, Z B ∧ e = .returned (.bool false) ∧ Hp w0 (O ++ B) w'))) →
    Calls P gf (#[.func (.yield l) #[] #[]] ++ lb.toArray) w (Ret w0 fun _ H' => (∃ x O, Inv N x ∧ H' = O ++ A x) ∨ (∃ B O, Z B ∧ H' = O ++ B))

section
variable {c : Cx} {σ : Slots} {H : Blocks} {Q : Post1} {ops : Array Oper}
/-- The call of yield: it says whether to go on. -/
theorem JL.yieldG {X Y : Type} {T : X → Prop} {F : Y → Prop} {HT : X → Blocks} {HF : Y → Blocks} {d l : Nat} {f : Operand} {xs : List Operand} {ats : Array TypeId} {ty : TypeId} {pos : String} {af : Array Edge} {gd : Option (Nat × Bool)} {vs : List Value} {rest : List Oper}
    (hr : c.r = none) (hdn : Nat.blt d c.n = true) (g : Gd ops σ gd true) (hf : ev σ f = some (.func (.yield l) #[] #[])) (hx : evs σ xs = some vs)
    (hy : ∀ w, Hp c.w0 H w → YieldOk c.P l vs.toArray w (fun e w' => (∃ x, T x ∧ e = .returned (.bool true) ∧ Hp c.w0 (HT x) w') ∨ (∃ y, F y ∧ e = .returned (.bool false) ∧ Hp c.w0 (HF y) w')))
    (h1 : ∀ x, T x → JL c ops ((d, .bool true) :: σ) (HT x) rest Q) (h2 : ∀ y, F y → JL c ops ((d, .bool false) :: σ) (HF y) rest Q) :
    JL c ops σ H ({ dst := some d, op := .call { callee := .value f, args := xs.toArray, argTypes := ats }, type := ty, pos := pos, after := af, guard := gd } :: rest) Q := fun a w hfr hw => by
  obtain ⟨fn, tmps, assign, body, hrun, hround⟩ := hy w hw
  unfold wpListIn
  rw [if_pos (g.wanted hfr)]
  refine ⟨fun _ _ => trivial, ?_⟩
  rw [Oper.semAt_eq _ _ _ (notDefer_ne rfl)]
  have e1 := hfr.ev hf
  have e2 := hfr.evs hx
  have key : (execOp a.eval { dst := some d, op := .call { callee := .value f, args := xs.toArray, argTypes := ats }, type := ty, pos := pos, after := af, guard := gd }).run c.P w = .ok (.round l fn tmps assign body) w := by
    simp only [execOp, resolve, e1, List.map_toArray, e2, Deferred.ofValue, Sem.run_bind, Sem.run_pure, Result.andThen_ok, invoke]
    simpa using hrun
  rw [key]
  refine ⟨fun h => by simp [Fw] at h, ?_⟩
  rw [hr]
  refine (roundIn_any hround).mono ?_
  rintro e w' (⟨x, hx, rfl, hw'⟩ | ⟨y, hy, rfl, hw'⟩)
  · have := h1 x hx _ w' (hfr.put (Nat.le_of_ble_eq_true hdn) (.bool true)) hw'
    rw [hr] at this
    exact this
  · have := h2 y hy _ w' (hfr.put (Nat.le_of_ble_eq_true hdn) (.bool false)) hw'
    rw [hr] at this
    exact this
end

def stopCode : Exit → Option Code
  | .ret => some .ret
  | .exit id => some (.exit id)
  | _ => none

/-- The round's parameters put. -/
def zipS : List Nat → List Value → Slots → Slots
  | p :: ps, v :: vs, σ => zipS ps vs ((p, v) :: σ)
  | _, _, σ => σ

theorem Fr.zip {n : Nat} {ds : List Deferred} : ∀ (ps : List Nat) (vs : List Value) {σ : Slots} {a : Act}, Fr n ds σ a → (ps.all fun p => Nat.blt p n) = true → vs.length = ps.length →
    Fr n ds (zipS ps vs σ) { a with tmps := (ps.zip vs).foldl (fun tmps (t, a) => tmps.setIfInBounds t a) a.tmps }
  | [], [], _, _, h, _, _ => h
  | [], _ :: _, _, _, _, _, h => by cases h
  | _ :: _, [], _, _, _, _, h => by cases h
  | p :: ps, v :: vs, σ, a, h, hp, hl => by
    simp only [List.all_cons, Bool.and_eq_true] at hp
    have h1 := h.put (Nat.le_of_ble_eq_true hp.1) v
    exact Fr.zip ps vs h1 hp.2 (by simpa using hl)

theorem Hp.swap {w0 w : World} {A B C : Blocks} (h : Hp w0 (A ++ (B ++ C)) w) : Hp w0 (B ++ (A ++ C)) w :=
  h.perm (by rw [← List.append_assoc, ← List.append_assoc]; exact List.Perm.append_right _ List.perm_append_comm)

theorem Upd.left {b : Nat} {o o' : Obj} {B B' : Blocks} (A : Blocks) (h : Upd b o o' B B') : Upd b o o' (A ++ B) (A ++ B') := by
  induction A with
  | nil => exact h
  | cons x A ih => exact .there ih

theorem JC.rangeG {P : Program} {n : Nat} {w0 : World} {σ : Slots} {H : Blocks} {g : Operand} {ps : List Nat} {assign body : Code} {Q : Post1} {gf : FuncId} {lb : List Value} {X : Type}
    (N : Nat) (HI : X → Blocks → Blocks) (Inv : Nat → X → Prop) (Stp : Code → X → Prop) (V : Nat → List Value → Blocks → Prop) (O0 : Blocks) (x0 : X) (σ1 : Nat → X → List Value → Slots)
    (hHI : ∀ x E, HI x E = HI x [] ++ E) (hg : ev σ g = some (.func (.func gf) #[] lb.toArray)) (hent : ∀ args w, (callFunc gf args).run P w = .ok (.enter gf args) w)
    (h0 : Sub (O0 ++ HI x0 []) H) (hi0 : Inv 0 x0) (hpn : (ps.all fun p => Nat.blt p n) = true) (hV : ∀ k vs O, V k vs O → vs.length = ps.length)
    (hiter : IterOk P gf lb w0 O0 V N)
    (hassign : ∀ (l k : Nat) (x : X) (vs : List Value) (O E : Blocks), k < N → Inv k x → V k vs O → (∀ p ∈ O, p ∈ E) →
      JC ⟨P, some l, n, [], w0⟩ (zipS ps vs σ) (HI x E) assign (fun e a w => e = .normal ∧ Fr n [] (σ1 k x vs) a ∧ Hp w0 (HI x E) w))
    (hbody : ∀ (l k : Nat) (x : X) (vs : List Value) (O E : Blocks), k < N → Inv k x → V k vs O → (∀ p ∈ O, p ∈ E) →
      JC ⟨P, some l, n, [], w0⟩ (σ1 k x vs) (HI x E) body (fun e _ w => (e = .normal ∧ ∃ x', Inv (k + 1) x' ∧ Hp w0 (HI x' E) w) ∨ ∃ c x', stopCode e = some c ∧ Stp c x' ∧ Hp w0 (HI x' E) w))
    (hdone : ∀ (x : X) (D : Nat) (E : Blocks), Inv N x → JQ ⟨P, none, n, [{ target := .collected D, args := #[] }], w0⟩ σ (HI x ((D, .deferred (some [])) :: E)) Q .normal)
    (hstop : ∀ (c : Code) (x : X) (D : Nat) (E : Blocks), Stp c x → JC ⟨P, none, n, [{ target := .collected D, args := #[] }], w0⟩ σ (HI x ((D, .deferred (some [])) :: E)) c Q) :
    JC ⟨P, none, n, [], w0⟩ σ H (.rangeFunc g ps.toArray assign body) Q := fun a w hf hw => by
  show (Code.rangeFunc g ps.toArray assign body).wpIn (Fw none) 7 P Q a w
  refine wpIn_rangeFunc (F := Fw none) ?_
  intro fn _
  obtain ⟨rec, hrec⟩ : ∃ rec : LoopState → Option Code → Loop, rec = fun st pe => { state := st, pending := pe, fn, tmps := a.tmps, params := ps.toArray, assign, body, defers := w.heap.size } := ⟨_, rfl⟩
  have hW1 : Hp w0 ((w.heap.size + 1, Obj.loop (rec .ready none)) :: (w.heap.size, Obj.deferred (some [])) :: H) ((w.alloc (.deferred (some []))).alloc (.loop (rec .ready none))) := by
    have := (hw.alloc (Obj.deferred (some []))).alloc (Obj.loop (rec .ready none))
    rwa [World.size_alloc] at this
  obtain ⟨LB, hLB⟩ : ∃ LB : LoopState → Option Code → Blocks, LB = fun st pe => [(w.heap.size + 1, Obj.loop (rec st pe)), (w.heap.size, Obj.deferred (some []))] := ⟨_, rfl⟩
  have hW2 : Hp w0 (O0 ++ HI x0 (LB .ready none)) ((w.alloc (.deferred (some []))).alloc (.loop (rec .ready none))) := by
    rw [hHI, ← List.append_assoc, hLB]
    exact hW1.sub (Sub.two h0)
  have hgv := hf.ev hg
  have hup : ∀ (O : Blocks) (x : X) st pe st' pe', Upd (w.heap.size + 1) (Obj.loop (rec st pe)) (Obj.loop (rec st' pe')) (O ++ HI x (LB st pe)) (O ++ HI x (LB st' pe')) := by
    intro O x st pe st' pe'
    rw [hHI x (LB st pe), hHI x (LB st' pe'), hLB]
    exact Upd.left _ (Upd.left _ .here)
  have hmem : ∀ (O : Blocks) (x : X) st pe, (w.heap.size + 1, Obj.loop (rec st pe)) ∈ O ++ HI x (LB st pe) := by
    intro O x st pe
    rw [hHI, hLB]; simp
  refine ⟨w.heap.size + 1, [{ target := .collected w.heap.size, args := #[] }], (w.alloc (.deferred (some []))).alloc (.loop (rec .ready none)), { target := .fn (.func gf) lb.toArray, args := #[.func (.yield (w.heap.size + 1)) #[] #[]] },
    (w.alloc (.deferred (some []))).alloc (.loop (rec .ready none)), gf, #[.func (.yield (w.heap.size + 1)) #[] #[]] ++ lb.toArray, (w.alloc (.deferred (some []))).alloc (.loop (rec .ready none)), ?_, ?_, fun _ _ => trivial, ?_, fun h => by simp [Fw] at h, ?_⟩
  · rw [hrec]
    exact run_enterLoop_outer _ _ _ _ _
  · simp only [resolve, hgv]
    simp [go_sem]
  · simp [invoke, go_sem, hent]
  · refine (callsW (hiter X (fun x => HI x (LB .ready none)) Inv (fun B => ∃ c x, Stp c x ∧ B = HI x (LB .done (some c))) (w.heap.size + 1) x0 _ hi0 hW2 ?_) none _).mono ?_
    · intro k x vs O w1 hk hi hv hw1
      have hl : w1.heap[w.heap.size + 1]? = some (.loop (rec .ready none)) := hw1.get (hmem ..)
      have hvl := hV k vs O hv
      have hy := run_yield (P := P) (args := vs.toArray) hl (by rw [hrec]; simpa using hvl)
      refine ⟨(rec .ready none).fn, _, (rec .ready none).assign, (rec .ready none).body, hy, ?_⟩
      refine roundIn_any (n := 7) (roundIn_of_wpIn (F := Fw none) trivial ?_)
      have hfr : Fr n [] (zipS ps vs σ) { tmps := (((rec .ready none).params).zip vs.toArray).foldl (fun tmps (t, a) => tmps.setIfInBounds t a) (rec .ready none).tmps, defers := [] } := by
        have h1 := Fr.zip ps vs hf hpn hvl
        have e : (((rec .ready none).params).zip vs.toArray).foldl (fun tmps (t, a) => tmps.setIfInBounds t a) (rec .ready none).tmps = (ps.zip vs).foldl (fun tmps (t, a) => tmps.setIfInBounds t a) a.tmps := by
          rw [hrec]
          simp
        exact ⟨by simpa only [e] using h1.size, rfl, fun t v h => by simpa only [e] using h1.get t v h⟩
      have hperm : ∀ x1 st pe w2, Hp w0 (O ++ HI x1 (LB st pe)) w2 → Hp w0 (HI x1 (O ++ LB st pe)) w2 := by
        intro x1 st pe w2 h
        rw [hHI] at h
        rw [hHI]
        exact h.swap
      have hperm' : ∀ x1 st pe w2, Hp w0 (HI x1 (O ++ LB st pe)) w2 → Hp w0 (O ++ HI x1 (LB st pe)) w2 := by
        intro x1 st pe w2 h
        rw [hHI] at h
        rw [hHI]
        exact h.swap
      have hassign' := hassign (w.heap.size + 1) k x vs O (O ++ LB .ready none) hk hi hv (fun p hp => List.mem_append_left _ hp) _ w1 hfr (hperm _ _ _ _ hw1)
      have hfn : (rec .ready none).assign = assign := by rw [hrec]
      have hbd : (rec .ready none).body = body := by rw [hrec]
      rw [hfn, hbd]
      refine wpIn_mono hassign' ?_
      rintro e a1 w2 ⟨rfl, hf1, hw2'⟩
      have hw2 := hperm' _ _ _ _ hw2'
      have hl2 : w2.heap[w.heap.size + 1]? = some (.loop (rec .ready none)) := hw2.get (hmem ..)
      have ebusy : Obj.loop { rec .ready none with state := .busy } = Obj.loop (rec .busy none) := by rw [hrec]
      refine ⟨_, run_beginRound hl2 (by rw [hrec]), ?_⟩
      rw [ebusy]
      have hb := hbody (w.heap.size + 1) k x vs O (O ++ LB .busy none) hk hi hv (fun p hp => List.mem_append_left _ hp) a1 (w2.putObj (w.heap.size + 1) (.loop (rec .busy none))) hf1
        (hperm _ _ _ _ (hw2.putObj (hup O x .ready none .busy none)))
      refine wpIn_mono hb ?_
      have fin : ∀ (jump : Option Code) (x' : X) (w3 : World), Hp w0 (HI x' (O ++ LB .busy none)) w3 →
          (Instr.endRound (w.heap.size + 1) jump).run P w3 = .ok (.bool jump.isNone) (w3.putObj (w.heap.size + 1) (.loop (rec (if jump.isNone then .ready else .done) jump))) ∧
          Hp w0 (O ++ HI x' (LB (if jump.isNone then .ready else .done) jump)) (w3.putObj (w.heap.size + 1) (.loop (rec (if jump.isNone then .ready else .done) jump))) := by
        intro jump x' w3 h3
        have h3 := hperm' _ _ _ _ h3
        have hl3 : w3.heap[w.heap.size + 1]? = some (.loop (rec .busy none)) := h3.get (hmem ..)
        refine ⟨?_, h3.putObj (hup O x' .busy none _ _)⟩
        have := run_endRound (P := P) jump hl3
        rw [hrec] at this ⊢
        exact this
      rintro e a3 w3 (⟨rfl, x', hi', hw3⟩ | ⟨c, x', he, hst, hw3⟩)
      · obtain ⟨h1, h2⟩ := fin none x' w3 hw3
        exact ⟨_, _, h1, .inl ⟨x', hi', rfl, h2⟩⟩
      · obtain ⟨h1, h2⟩ := fin (some c) x' w3 hw3
        cases e with
        | ret =>
          cases he
          exact ⟨_, _, h1, .inr ⟨_, ⟨_, x', hst, rfl⟩, rfl, h2⟩⟩
        | exit id =>
          cases he
          exact ⟨_, _, h1, .inr ⟨_, ⟨_, x', hst, rfl⟩, rfl, h2⟩⟩
        | _ => cases he
    · have last : ∀ (O : Blocks) (x : X) st pe (w2 : World), st ≠ .busy → Hp w0 (O ++ HI x (LB st pe)) w2 →
          (Instr.endLoop (w.heap.size + 1)).run P w2 = .ok pe (w2.putObj (w.heap.size + 1) (.loop (rec .exhausted pe))) ∧
          Hp w0 (HI x ((w.heap.size, Obj.deferred (some [])) :: (O ++ [(w.heap.size + 1, Obj.loop (rec .exhausted pe))]))) (w2.putObj (w.heap.size + 1) (.loop (rec .exhausted pe))) := by
        intro O x st pe w2 hst h2
        have hl : w2.heap[w.heap.size + 1]? = some (.loop (rec st pe)) := h2.get (hmem ..)
        refine ⟨?_, ?_⟩
        · refine (run_endLoop (P := P) hl (by rw [hrec]; exact hst)).trans ?_
          rw [hrec]
        · have h3 := h2.putObj (hup O x st pe .exhausted pe)
          rw [hHI] at h3
          rw [hHI]
          refine h3.swap.perm (List.Perm.append_left _ ?_)
          rw [hLB]
          refine (List.perm_append_comm (l₁ := O)).trans ?_
          refine (List.Perm.swap _ _ _).trans ?_
          exact List.Perm.cons _ (List.perm_append_comm (l₁ := [_]))
      rintro e w2 ⟨v, H', rfl, hw2, (⟨x, O, hi, rfl⟩ | ⟨B, O, ⟨c, x, hst, rfl⟩, rfl⟩)⟩
      · obtain ⟨h1, h2⟩ := last O x .ready none w2 (by simp) hw2
        exact ⟨none, _, h1, hdone x _ _ hi _ _ ⟨hf.size, by simp [hf.defers], hf.get⟩ h2⟩
      · obtain ⟨h1, h2⟩ := last O x .done (some c) w2 (by simp) hw2
        exact ⟨some c, _, h1, hstop c x _ _ hst _ _ ⟨hf.size, by simp [hf.defers], hf.get⟩ h2⟩

/-- The ends of a round's body: on, or out. -/
theorem JQ.bodG {P : Program} {r : Option Nat} {n : Nat} {ds : List Deferred} {w0 : World} {σ : Slots} {H : Blocks} {X : Type} {HI : X → Blocks} {Inv : X → Prop} {R : Exit → World → Prop} (x' : X) (hi : Inv x') (h : Sub (HI x') H) :
    JQ ⟨P, r, n, ds, w0⟩ σ H (fun e _ w => (e = .normal ∧ ∃ x', Inv x' ∧ Hp w0 (HI x') w) ∨ R e w) .normal := fun _ _ _ hw => .inl ⟨rfl, x', hi, hw.sub h⟩
theorem JQ.bodS {P : Program} {r : Option Nat} {n : Nat} {ds : List Deferred} {w0 : World} {σ : Slots} {H : Blocks} {X : Type} {HI : X → Blocks} {Stp : Code → X → Prop} {R : Exit → World → Prop} {e : Exit} (c : Code) (x' : X) (he : stopCode e = some c) (hi : Stp c x') (h : Sub (HI x') H) :
    JQ ⟨P, r, n, ds, w0⟩ σ H (fun e _ w => R e w ∨ ∃ c x', stopCode e = some c ∧ Stp c x' ∧ Hp w0 (HI x') w) e := fun _ _ _ hw => .inr ⟨c, x', he, hi, hw.sub h⟩

/-! ### The end of a function that holds such a range: with the mark, and ahead of it -/
def marked (D : Nat) : List Deferred := [{ target := .collected D, args := #[] }]
theorem JQ.endMs {P : Program} {fn : Func} {w0 : World} {σ : Slots} {H : Blocks} {n D : Nat} {H' : Blocks} {Y : Value → Blocks → Prop} {rv : Value} {e : Exit} (he : e = .ret ∨ e = .normal)
    (hD : (D, Obj.deferred (some [])) ∈ H) (hs : ∃ H1, Upd D (.deferred (some [])) (.deferred none) H H1 ∧ Sub H' H1 ∧ ∀ a w, Fr n (marked D) σ a → Hp w0 H1 w → (results fn a.tmps).run P w = .ok rv w) (hY : Y rv H') :
    JQ ⟨P, none, n, [{ target := .collected D, args := #[] }], w0⟩ σ H (bodyPostM (Fw none) 7 P fn (Ret w0 Y)) e := fun a w hf hw => by
  obtain ⟨H1, hu, hs, h1'⟩ := hs
  have hw1 : Hp w0 H1 (w.putObj D (.deferred none)) := hw.putObj hu
  have : LeavesInM (Fw none) 7 P fn a.tmps (Ret w0 Y) a.defers .returning w := by
    rw [hf.defers]
    refine ⟨by simp, .inl ⟨D, _, rfl, run_takeDeferred (hw.get hD), rv, h1' a _ hf hw1, rv, H', rfl, hw1.sub hs, hY⟩⟩
  rcases he with rfl | rfl <;> exact this
section
variable {P : Program} {fn : Func} {w0 : World} {σ : Slots} {H : Blocks} {n : Nat} {ds : List Deferred}
theorem res2 {r1 r2 : ResultVar} {v1 v2 : Value} (hr : fn.results = #[r1, r2]) (h1 : Rv P σ H r1 v1) (h2 : Rv P σ H r2 v2) : ∀ a w, Fr n ds σ a → Hp w0 H w → (results fn a.tmps).run P w = .ok (.tuple #[v1, v2]) w := fun a w hf hw => by
  rw [results_eq, hr]; simp [Rv.run h1 hf hw, Rv.run h2 hf hw]
end
end Go.Proofs.YtjjoenbighmfoaaDoor
namespace Go.Proofs.YtjjoenbighmfoaaDoor
open Go Go.RowKit

section
variable {P : Program}
end

section
variable {c : Cx} {σ : Slots} {H : Blocks} {ty : TypeId} {pos : String} {af : Array Edge} {gd : Option (Nat × Bool)} {dst : Option Nat}
end
end Go.Proofs.YtjjoenbighmfoaaDoor
namespace Go.Proofs.YtjjoenbighmfoaaDoor
open Go Go.RowKit

section
variable {P : Program} {T : TypeId}
end
section
variable {c : Cx} {σ : Slots} {H : Blocks} {ty : TypeId} {pos : String} {af : Array Edge} {gd : Option (Nat × Bool)} {dst : Option Nat}
end

theorem JA.re {c : Cx} {ops : Array Oper} {σ : Slots} {H : Blocks} {fuel : Nat} {listed : Array Bool} {Q : Post1} {d : Nat} {v v' : Value} (h : look σ d = some v) (hv : v = v') (h1 : JA c ops ((d, v') :: σ) H fuel listed Q) : JA c ops σ H fuel listed Q := by
  subst hv; exact fun a w hf hw => h1 a w (hf.over h) hw
theorem Ev.cast {c : Cx} {σ : Slots} {H : Blocks} {o : Oper} {v v' : Value} (e : v = v') (h : Ev c σ H o v) : Ev c σ H o v' := e ▸ h
theorem bs_nil {w : World} : Bs w none 0 [] := { le := Nat.le_refl _, top := by decide, empty := fun _ => rfl, mem := fun a ha => by cases ha }
theorem bs_of_block {w0 w : World} {H : Blocks} {b : Nat} {t : TypeId} {l : List UInt8} (hw : Hp w0 H w) {fr : Nat × Nat} (hm : (b, Obj.cells (arr8 l) t fr) ∈ H) (hl : l.length ≤ 1000000) : Bs w (some ⟨b, 0, none⟩) l.length l := by
  refine ⟨Nat.le_refl _, Nat.le_trans hl (by decide), fun h => (by cases h), fun a ha => ?_⟩
  cases ha
  exact Mem.own hw hm fun j v hj => by simpa [arr8] using hj
theorem Bs.cut {w : World} {a : Addr} {cap : Nat} {l : List UInt8} (h : Bs w (some a) cap l) (o n : Nat) (hon : o + n ≤ l.length) : Bs w (some (a.add o)) (cap - o) ((l.drop o).take n) := by
  refine ⟨?_, Nat.le_trans (Nat.sub_le _ _) h.top, fun h => (by cases h), fun b hb => ?_⟩
  · have := h.le
    simp
    omega
  · cases hb
    exact (h.mem a rfl).cut o n
theorem Bs.get_some {w : World} {oa : Option Addr} {cap : Nat} {l : List UInt8} (h : Bs w oa cap l) (hl : 0 < l.length) : ∃ a, oa = some a := by
  cases oa with
  | some a => exact ⟨a, rfl⟩
  | none =>
    have h1 := h.empty rfl
    have h2 := h.le
    omega
end Go.Proofs.YtjjoenbighmfoaaDoor
namespace Go.Proofs.YtjjoenbighmfoaaDoor
open Go Go.RowKit

section
variable {P : Program} {T : TypeId}
theorem add_u64 {x y : UInt64} : Bin P .add T (u64 x) (u64 y) (u64 (x + y)) := Bin.int fun w => by
  simp only [binOp, Op.intArith, u64]
  have h : IntKind.u64.wrap ((x.toNat : Int) + y.toNat) = ((x + y).toNat : Int) := by
    rw [IntKind.wrap_u64, UInt64.toNat_add]; omega
  simp [h]
theorem or_u64 {x y : UInt64} : Bin P .or T (u64 x) (u64 y) (u64 (x ||| y)) := Bin.int fun w => by
  simp only [binOp, Op.intBits, ofInt_u64, u64]
  have := (x ||| y).toNat_lt
  exact congrArg (fun n => Result.ok (Value.int IntKind.u64 n) w) (wrap_u64n _ this)
theorem rem_u64 {x y : UInt64} (hy : y ≠ 0) : Bin P .rem T (u64 x) (u64 y) (u64 (x % y)) := Bin.int fun w => by
  have h0 : ¬ (y.toNat : Int) = 0 := fun h => hy (by
    apply UInt64.toNat_inj.1
    have : y.toNat = 0 := by omega
    simpa using this)
  have h := wrap_u64n (x % y).toNat (x % y).toNat_lt
  rw [UInt64.toNat_mod] at h
  have e : (x.toNat : Int).tmod y.toNat = ((x.toNat % y.toNat : Nat) : Int) := by simp [Int.tmod]
  have h0n : ¬ y.toNat = 0 := by omega
  simp only [binOp, Op.intDiv, u64, UInt64.toNat_mod]
  simp [h0n, e]
theorem shl_u64 {x : UInt64} {k : IntKind} {n : Nat} (hn : n < 64) : Bin P .shl T (u64 x) (.int k (n : Int)) (u64 (x <<< UInt64.ofNat n)) := Bin.int fun w => by
  have h : IntKind.u64.wrap ((x.toNat : Int) * 2 ^ n) = ((x <<< UInt64.ofNat n).toNat : Int) := by
    rw [IntKind.wrap_u64, UInt64.toNat_shiftLeft]
    have : (UInt64.ofNat n).toNat % 64 = n := by
      rw [UInt64.toNat_ofNat']; omega
    rw [this, Nat.shiftLeft_eq]
    have : ((2 : Int) ^ n) = ((2 ^ n : Nat) : Int) := by simp
    rw [this]
    have : ((x.toNat : Int) * ((2 ^ n : Nat) : Int)) = ((x.toNat * 2 ^ n : Nat) : Int) := by simp
    rw [this]
    omega
  have hm : min n 64 = n := by omega
  have hneg : ¬ ((n : Int) < 0) := by omega
  simp only [binOp, Op.shift, u64, if_neg hneg, Int.toNat_natCast]
  show Sem.run P (pure _) w = _
  rw [show min n IntKind.u64.bits = n from hm]
  rw [h]; rfl
theorem conv_u32_u64 {s d : TypeId} {x : UInt32} (hs : P.underlying s = some (.int .u32)) (hd : P.underlying d = some (.int .u64)) : Conv1 P s d (u32 x) (u64 x.toUInt64) := fun w => by
  have h := conv_int (k0 := .u32) (n := (x.toNat : Int)) hs hd w
  rw [show IntKind.u64.wrap (x.toNat : Int) = (x.toUInt64.toNat : Int) from by
    have := x.toNat_lt
    rw [wrap_u64n _ (by omega), UInt32.toNat_toUInt64]] at h
  exact h
theorem conv_u8_u64 {s d : TypeId} {x : UInt8} (hs : P.underlying s = some (.int .u8)) (hd : P.underlying d = some (.int .u64)) : Conv1 P s d (u8 x) (u64 x.toUInt64) := fun w => by
  have h := conv_int (k0 := .u8) (n := (x.toNat : Int)) hs hd w
  rw [show IntKind.u64.wrap (x.toNat : Int) = (x.toUInt64.toNat : Int) from by
    have := x.toNat_lt
    rw [wrap_u64n _ (by omega), UInt8.toNat_toUInt64]] at h
  exact h
theorem conv_i64_u32 {s d : TypeId} {n : Nat} (hs : P.underlying s = some (.int .i64)) (hd : P.underlying d = some (.int .u32)) (hn : n < 4294967296) : Conv1 P s d (.int .i64 (n : Int)) (u32 (UInt32.ofNat n)) := fun w => by
  have h := conv_int (k0 := .i64) (n := (n : Int)) hs hd w
  rw [show IntKind.u32.wrap (n : Int) = ((UInt32.ofNat n).toNat : Int) from by
    rw [wrap_u32n _ hn, UInt32.toNat_ofNat']; omega] at h
  exact h
theorem conv_u64_i64 {s d : TypeId} {x : UInt64} (hs : P.underlying s = some (.int .u64)) (hd : P.underlying d = some (.int .i64)) (hx : x.toNat ≤ 9223372036854775807) : Conv1 P s d (u64 x) (.int .i64 (x.toNat : Int)) := fun w => by
  have h := conv_int (k0 := .u64) (n := (x.toNat : Int)) hs hd w
  rw [IntWalk.i64_in _ (by omega)] at h
  exact h
end
section
variable {c : Cx} {σ : Slots} {H : Blocks} {ty : TypeId} {pos : String} {af : Array Edge} {gd : Option (Nat × Bool)} {dst : Option Nat}
theorem Ev.negU64 {T : TypeId} {x : Operand} {n : UInt64} (hx : ev σ x = some (u64 n)) : Ev c σ H ⟨dst, .unOp .neg T x, ty, pos, af, gd⟩ (u64 (0 - n)) := fun A w hf _ => by
  have h : IntKind.u64.wrap (0 - (n.toNat : Int)) = ((0 - n).toNat : Int) := by
    have h2 := n.toNat_lt
    rw [IntKind.wrap_u64, UInt64.toNat_sub]; simp; omega
  simp only [execOp, hf.ev hx, Op.unary, u64, Op.intArith]
  show Result.ok (Next.value (.int .u64 (IntKind.u64.wrap (0 - (n.toNat : Int))))) w = _
  rw [h]
end

/-- A number as so many bytes, the greatest first. -/
def be (n : UInt64) (size : Nat) : List UInt8 := (List.range size).map fun i => (n >>> UInt64.ofNat (8 * (size - 1 - i))).toUInt8
theorem be_length (n : UInt64) (size : Nat) : (be n size).length = size := by simp [be]
theorem be_take_succ (n : UInt64) {size i : Nat} (hi : i < size) : (be n size).take (i + 1) = (be n size).take i ++ [(n >>> UInt64.ofNat (8 * (size - 1 - i))).toUInt8] := by
  rw [List.take_add_one]
  simp [be, hi]
theorem Pick.last {x : Nat × Obj} : ∀ H : Blocks, Pick x (H ++ [x]) H
  | [] => .here
  | _ :: H => .there (Pick.last H)
theorem Sub.drop1 {x : Nat × Obj} {A : Blocks} : Sub A (x :: A) := Sub.dropHead (x := x)
theorem Sub.rot {x y : Nat × Obj} {H : Blocks} : Sub (x :: H) (y :: (H ++ [x])) := .cons (.there (Pick.last H)) Sub.drop1
end Go.Proofs.YtjjoenbighmfoaaDoor
namespace Go.Proofs.YtjjoenbighmfoaaDoor
open Go Go.RowKit

structure Part where
  o : Option Addr
  cap : Nat
  l : List UInt8
def Part.v (p : Part) : Value := .slice p.o p.l.length p.cap
def catLen (ps : List Part) (k : Nat) : Nat := ((ps.take k).flatMap (·.l)).length
/-- A slice of slices of bytes. -/
structure Ps (w : World) (oa : Option Addr) (cap : Nat) (ps : List Part) : Prop where
  le : ps.length ≤ cap
  top : cap ≤ maxLen
  empty : oa = none → cap = 0
  mem : ∀ a, oa = some a → Mem w a (ps.map Part.v)
  each : ∀ p ∈ ps, Bs w p.o p.cap p.l
theorem Ps.old {w0 w : World} {H : Blocks} {oa : Option Addr} {cap : Nat} {ps : List Part} (hw : Hp w0 H w) (h : Ps w0 oa cap ps) : Ps w oa cap ps :=
  ⟨h.le, h.top, h.empty, fun a ha => Mem.old hw (h.mem a ha), fun p hp => (h.each p hp).old hw⟩
theorem Ps.get_some {w : World} {oa : Option Addr} {cap : Nat} {ps : List Part} (h : Ps w oa cap ps) (hl : 0 < ps.length) : ∃ a, oa = some a := by
  cases oa with
  | some a => exact ⟨a, rfl⟩
  | none =>
    have h1 := h.empty rfl
    have h2 := h.le
    omega
theorem Part.at {ps : List Part} {k : Nat} {p : Part} (hp : ps[k]? = some p) : (ps.map Part.v)[k]? = some (.slice p.o p.l.length p.cap) := by
  rw [List.getElem?_map, hp]; rfl

def fieldB (l : List UInt8) : List UInt8 := be (UInt64.ofNat l.length) 2 ++ l
/-- The first k fields, joined. -/
def jn (ps : List Part) (k : Nat) : List UInt8 := (ps.take k).flatMap (fun p => fieldB p.l)
def tot (ps : List Part) (k : Nat) : Nat := (jn ps k).length
def joinO (ps : List Part) : List UInt8 := if 16384 < tot ps ps.length then [] else jn ps ps.length
end Go.Proofs.YtjjoenbighmfoaaDoor
namespace Go.Proofs.YtjjoenbighmfoaaDoor
open Go Go.RowKit

open Classical in
noncomputable def one (x a : Nat × Obj) : Nat := if x = a then 1 else 0
noncomputable def cnt (a : Nat × Obj) : Blocks → Nat
  | [] => 0
  | x :: H => one x a + cnt a H
theorem cnt_nil (a : Nat × Obj) : cnt a [] = 0 := rfl
theorem cnt_cons (a x : Nat × Obj) (H : Blocks) : cnt a (x :: H) = one x a + cnt a H := rfl
theorem cnt_append (a : Nat × Obj) (A B : Blocks) : cnt a (A ++ B) = cnt a A + cnt a B := by
  induction A with
  | nil => simp [cnt_nil]
  | cons x A ih => simp only [List.cons_append, cnt_cons, ih]; omega
theorem cntA : (∀ a, cnt a [] = 0) ∧ (∀ a x H, cnt a (x :: H) = one x a + cnt a H) ∧ (∀ a A B, cnt a (A ++ B) = cnt a A + cnt a B) ∧
    (∀ e, Row.b e none = []) ∧ (∀ e r, Row.b e (some r) = [(r.g, Obj.cells r.cs e (0, 0))]) ∧ (∀ l : Blocks, [] ++ l = l) ∧ (∀ l : Blocks, l ++ [] = l) ∧
    (∀ (x : Nat × Obj) (l m : Blocks), (x :: l) ++ m = x :: (l ++ m)) ∧ (∀ l m : Blocks, List.append l m = l ++ m) :=
  ⟨cnt_nil, cnt_cons, cnt_append, fun _ => rfl, fun _ _ => rfl, fun _ => rfl, List.append_nil, fun _ _ _ => rfl, fun _ _ => rfl⟩
theorem one_self (x : Nat × Obj) : one x x = 1 := by simp [one]
theorem mem_of_cnt {x : Nat × Obj} : ∀ {H : Blocks}, 0 < cnt x H → ∃ H1, Pick x H H1 ∧ ∀ a, cnt a H = one x a + cnt a H1
  | [], h => by simp [cnt_nil] at h
  | y :: H, h => by
    by_cases e : y = x
    · subst e; exact ⟨H, .here, fun a => rfl⟩
    · have h0 : one y x = 0 := by simp [one, e]
      rw [cnt_cons, h0, Nat.zero_add] at h
      obtain ⟨H1, h1, h2⟩ := mem_of_cnt h
      exact ⟨y :: H1, .there h1, fun a => by rw [cnt_cons, cnt_cons, h2 a]; omega⟩
theorem Sub.of_cnt {A : Blocks} : ∀ {H : Blocks}, (∀ a, cnt a A ≤ cnt a H) → Sub A H := by
  induction A with
  | nil => exact fun _ => .nil
  | cons x A ih =>
    intro H h
    have hx := h x
    rw [cnt_cons, one_self] at hx
    obtain ⟨H1, h1, h2⟩ := mem_of_cnt (x := x) (H := H) (by omega)
    refine .cons h1 (ih fun a => ?_)
    have := h a
    rw [cnt_cons, h2 a] at this
    omega

/-! ### Slices of cells -/
structure Cs (w : World) (oa : Option Addr) (n cap : Nat) (xs : List Value) : Prop where
  le : n ≤ cap
  top : cap ≤ maxLen
  empty : oa = none → cap = 0
  mem : ∀ a, oa = some a → Mem w a xs
theorem Cs.old {w0 w : World} {H : Blocks} {oa : Option Addr} {n cap : Nat} {xs : List Value} (hw : Hp w0 H w) (h : Cs w0 oa n cap xs) : Cs w oa n cap xs :=
  ⟨h.le, h.top, h.empty, fun a ha => (h.mem a ha).old hw⟩
theorem Cs.get_some {w : World} {oa : Option Addr} {n cap : Nat} {xs : List Value} (h : Cs w oa n cap xs) (hl : 0 < n) : ∃ a, oa = some a := by
  cases oa with
  | some a => exact ⟨a, rfl⟩
  | none =>
    have h1 := h.empty rfl
    have h2 := h.le
    omega
theorem cs_nil {w : World} : Cs w none 0 0 [] := { le := Nat.le_refl _, top := by decide, empty := fun _ => rfl, mem := fun a ha => by cases ha }
theorem sub3_0 {a : Option Addr} {h m s : Nat} : sub3 a 0 h m s = .slice a h m := by
  have e : (fun x : Addr => x.add 0) = id := by funext x; simp [Addr.add]
  unfold sub3
  simp [e]
theorem Cs.take {α : Type} {f : α → Value} {w : World} {oa : Option Addr} {n cap : Nat} {l : List α} (h : Cs w oa n cap (l.map f)) {k : Nat} (hk : k ≤ n) : Cs w oa k cap ((l.take k).map f) :=
  ⟨Nat.le_trans hk h.le, h.top, h.empty, fun a ha => by
    have := (h.mem a ha).cut 0 k
    rwa [List.drop_zero, show a.add 0 = a from by simp [Addr.add], ← List.map_take] at this⟩
theorem Bs.cs {w : World} {oa : Option Addr} {cap : Nat} {l : List UInt8} (h : Bs w oa cap l) : Cs w oa l.length cap (l.map u8) := ⟨h.le, h.top, h.empty, h.mem⟩
theorem Cs.bs {w : World} {oa : Option Addr} {n cap : Nat} {l : List UInt8} (h : Cs w oa n cap (l.map u8)) (hn : n = l.length) : Bs w oa cap l := ⟨hn ▸ h.le, h.top, h.empty, h.mem⟩
/-- The call's own row as a slice. -/
theorem Row.vw {e : TypeId} {s n : Nat} {xs : List Value} {r : Option Row} (h : Row.ok s n xs r) :
    ∃ oa cap, Row.v n r = .slice oa n cap ∧ (oa = none → n = 0) ∧ ∀ {w0 : World} {H : Blocks} (w : World), Hp w0 H w → (∀ p ∈ Row.b e r, p ∈ H) → Cs w oa n cap xs := by
  cases r with
  | none =>
    obtain ⟨rfl, rfl⟩ := h
    exact ⟨none, 0, rfl, fun _ => rfl, fun _ _ _ => cs_nil⟩
  | some r =>
    refine ⟨some ⟨r.g, 0, none⟩, r.cap, rfl, fun h => (by cases h), fun w hw hm => ⟨h.2.1, h.2.2.1, fun h => (by cases h), fun a ha => ?_⟩⟩
    cases ha
    refine Mem.own hw (hm _ (List.mem_cons_self ..)) fun j v hj => ?_
    rw [← h.2.2.2.2, List.getElem?_take] at hj
    split at hj
    · simpa using hj
    · cases hj
theorem Row.len {s n : Nat} {xs : List Value} {r : Option Row} (h : Row.ok s n xs r) : xs.length = n * s := by
  cases r with
  | none => obtain ⟨rfl, rfl⟩ := h; simp
  | some r => exact h.1
theorem Row.ok0 {s : Nat} : Row.ok s 0 [] none := ⟨rfl, rfl⟩

section
variable {c : Cx} {σ : Slots} {H : Blocks} {Q : Post1} {ty : TypeId} {pos : String} {af : Array Edge} {gd : Option (Nat × Bool)} {dst : Option Nat}
theorem Ev.makeFuncP {f : FuncId} {xs ys : List Operand} {vs us : List Value} (hx : evs σ xs = some vs) (hy : evs σ ys = some us) : Ev c σ H ⟨dst, .makeFunc (.func f) xs.toArray ys.toArray, ty, pos, af, gd⟩ (.func (.func f) vs.toArray us.toArray) := fun A w hf _ => by
  have e : execOp A.eval ⟨dst, .makeFunc (.func f) xs.toArray ys.toArray, ty, pos, af, gd⟩ = (do pure (Next.value (← Instr.makeFunc (.func f) (xs.toArray.map A.eval) (ys.toArray.map A.eval)))) := rfl
  rw [e]
  have h1 := hf.evs hx
  have h2 := hf.evs hy
  simp [Instr.makeFunc, h1, h2]
/-- The call of a closure. -/
theorem JL.callClo {ops : Array Oper} {l : List Oper} {d g : Nat} {f : Operand} {pre post : List Value} {xs : List Operand} {ats : Array TypeId} {vs : List Value} {Y : Value → Blocks → Prop}
    (hdn : Nat.blt d c.n = true) (hg : Gd ops σ gd true) (hf : ev σ f = some (.func (.func g) pre.toArray post.toArray)) (hx : evs σ xs = some vs)
    (hent : ∀ args w, (callFunc g args).run c.P w = .ok (.enter g args) w)
    (hc : ∀ w, Hp c.w0 H w → Calls c.P g (pre ++ vs ++ post).toArray w (Ret w Y))
    (h : ∀ v H', Y v H' → JL c ops ((d, v) :: σ) (H' ++ H) l Q) :
    JL c ops σ H ({ dst := some d, op := .call { callee := .value f, args := xs.toArray, argTypes := ats }, type := ty, pos := pos, after := af, guard := gd } :: l) Q := fun a w hfr hw => by
  have e1 := hfr.ev hf
  have e2 := hfr.evs hx
  refine wpListIn_execC (hg.wanted hfr) rfl (f := g) (args := (pre ++ vs ++ post).toArray) (w' := w) ?_ (Ret.lift hw (hc w hw)) ?_
  · have key : execOp a.eval { dst := some d, op := .call { callee := .value f, args := xs.toArray, argTypes := ats }, type := ty, pos := pos, after := af, guard := gd } =
        (do let d ← resolve a.eval { callee := .value f, args := xs.toArray, argTypes := ats } ty; invoke d.target d.args) := rfl
    rw [key]
    simp only [resolve, e1, List.map_toArray, e2, Deferred.ofValue, Sem.run_bind, Sem.run_pure, Result.andThen_ok, invoke]
    have := hent (pre ++ vs ++ post).toArray w
    simpa using this
  · rintro e w'' ⟨v, H', rfl, h1, H1, rfl, h2⟩
    exact ⟨v, rfl, h v H1 h2 _ _ (hfr.put (Nat.le_of_ble_eq_true hdn) _) h1⟩

theorem JL.callCloV {ops : Array Oper} {l : List Oper} {d g : Nat} {f : Operand} {pre post : List Value} {xs : List Operand} {ats : Array TypeId} {vs : List Value} {v : Value}
    (hdn : Nat.blt d c.n = true) (hg : Gd ops σ gd true) (hf : ev σ f = some (.func (.func g) pre.toArray post.toArray)) (hx : evs σ xs = some vs)
    (hent : ∀ args w, (callFunc g args).run c.P w = .ok (.enter g args) w)
    (hc : ∀ w, Hp c.w0 H w → Calls c.P g (pre ++ vs ++ post).toArray w (Ret w fun v' _ => v' = v))
    (h : JL c ops ((d, v) :: σ) H l Q) :
    JL c ops σ H ({ dst := some d, op := .call { callee := .value f, args := xs.toArray, argTypes := ats }, type := ty, pos := pos, after := af, guard := gd } :: l) Q :=
  JL.callClo hdn hg hf hx hent hc fun v' H' e => by
    subst e
    exact fun a w hf hw => h a w hf ⟨hw.below, fun x hx => hw.blk x (List.mem_append_right _ hx), (List.pairwise_append.1 hw.apart).2.1, hw.mono⟩
theorem JQ.scR (h : JQ c σ H Q .ret) : JQ c σ H (Exit.noGoto Q) .ret := h
end
theorem JC.scope {P : Program} {n : Nat} {ds : List Deferred} {w0 : World} {σ : Slots} {H : Blocks} {Q : Post1} {x : Code} (h : JC ⟨P, none, n, ds, w0⟩ σ H x (Exit.noGoto Q)) : JC ⟨P, none, n, ds, w0⟩ σ H (.scope x) Q :=
  fun a w hf hw => (wpIn_wide (n := 7)).2 (wp_scope_straight ((wpIn_wide (n := 7)).1 (h a w hf hw)))

theorem Mem.atMap {α : Type} {f : α → Value} {w : World} {a : Addr} {l : List α} (h : Mem w a (l.map f)) {k : Nat} {x : α} (hk : l[k]? = some x) : w.cell? (a.add k) = some (f x) := h k _ (by rw [List.getElem?_map, hk]; rfl)
theorem get_some {α : Type} {l : List α} {k : Nat} (hk : k < l.length) : ∃ x, l[k]? = some x := ⟨l[k], List.getElem?_eq_getElem hk⟩
theorem eq_upto {α : Type} {a b : List α} (hl : a.length = b.length) (h : ∀ j, j < a.length → a[j]? = b[j]?) : a = b := by
  apply List.ext_getElem? 
  intro j
  rcases Nat.lt_or_ge j a.length with h1 | h1
  · exact h j h1
  · rw [List.getElem?_eq_none h1, List.getElem?_eq_none (by omega)]
theorem all_succ {p : Nat → Prop} {k : Nat} (h : ∀ j, j < k → p j) (hk : p k) : ∀ j, j < k + 1 → p j := fun j hj => by
  rcases Nat.lt_or_ge j k with h1 | h1
  · exact h j h1
  · obtain rfl : j = k := by omega
    exact hk

/-! ### Numbers out of bytes -/
def numB (l : List UInt8) : UInt64 := l.foldl (fun n b => n * 256 + b.toUInt64) 0
theorem numB_succ (l : List UInt8) {k : Nat} (hk : k < l.length) : numB (l.take (k + 1)) = numB (l.take k) * 256 + (l.getD k 0).toUInt64 := by
  unfold numB
  rw [List.take_add_one, List.getElem?_eq_getElem hk, List.foldl_append]
  simp only [Option.toList_some, List.foldl_cons, List.foldl_nil, List.getD_eq_getElem?_getD, List.getElem?_eq_getElem hk, Option.getD_some]
theorem shl8_or (n : UInt64) (b : UInt8) : n <<< UInt64.ofNat 8 ||| b.toUInt64 = n * 256 + b.toUInt64 := by
  apply UInt64.toNat_inj.1
  rw [UInt64.toNat_or, UInt64.toNat_shiftLeft, UInt64.toNat_add, UInt64.toNat_mul, UInt8.toNat_toUInt64]
  have e : (UInt64.ofNat 8).toNat % 64 = 8 := rfl
  have h256 : (256 : UInt64).toNat = 256 := rfl
  rw [e, Nat.shiftLeft_eq, h256]
  have hb := b.toNat_lt
  have h1 : n.toNat * 2 ^ 8 % 2 ^ 64 = (n.toNat % 2 ^ 56) * 2 ^ 8 := by omega
  have h2 := Nat.shiftLeft_add_eq_or_of_lt (show b.toNat < 2 ^ 8 by omega) (n.toNat % 2 ^ 56)
  rw [Nat.shiftLeft_eq] at h2
  rw [h1, ← h2]
  omega
/-- Try k of draw i. -/
def tryD (s : List UInt8) (i : UInt32) (k : Nat) : UInt64 := numB ((sha (s ++ be i.toUInt64 4 ++ be (UInt64.ofNat k) 4)).take 8)
/-- A try is small enough. -/
def small (m x : UInt64) : Prop := x.toNat + 18446744073709551616 % m.toNat < 18446744073709551616
instance (m x : UInt64) : Decidable (small m x) := inferInstanceAs (Decidable (_ < _))
def drawn (s : List UInt8) (i : UInt32) (m : UInt64) : Option UInt64 := (((List.range 16).map (tryD s i)).find? (fun x => decide (small m x))).map (· % m)
theorem drawn_none {s : List UInt8} {i : UInt32} {m : UInt64} (h : ∀ j, j < 16 → ¬ small m (tryD s i j)) : drawn s i m = none := by
  unfold drawn
  rw [List.find?_eq_none.2]
  · rfl
  · intro x hx
    obtain ⟨j, hj, rfl⟩ := List.mem_map.1 hx
    simpa using h j (List.mem_range.1 hj)
theorem drawn_some {s : List UInt8} {i : UInt32} {m : UInt64} {k : Nat} (hk : k < 16) (h : ∀ j, j < k → ¬ small m (tryD s i j)) (h1 : small m (tryD s i k)) : drawn s i m = some (tryD s i k % m) := by
  have key : ((List.range 16).map (tryD s i)).find? (fun x => decide (small m x)) = some (tryD s i k) := by
    have e : List.range 16 = List.range k ++ (List.range (16 - k)).map (k + ·) := by
      rw [← List.range_add]; congr 1; omega
    rw [e, List.map_append, List.find?_append, List.find?_eq_none.2]
    · obtain ⟨n, hn⟩ : ∃ n, 16 - k = n + 1 := ⟨16 - k - 1, by omega⟩
      rw [hn, List.range_succ_eq_map]
      simp [h1]
    · intro x hx
      obtain ⟨j, hj, rfl⟩ := List.mem_map.1 hx
      simpa using h j (List.mem_range.1 hj)
  unfold drawn
  rw [key]; rfl
def drawnV (s : List UInt8) (i : UInt32) (m : UInt64) : UInt64 := (drawn s i m).getD 0
def drawnE (s : List UInt8) (i : UInt32) (m : UInt64) : Int := if (drawn s i m).isSome then 0 else 6
theorem rest_prog {m : UInt64} (h1 : 1 ≤ m.toNat) (h2 : m.toNat ≤ 4294967296) : ((0 - m) % m).toNat = 18446744073709551616 % m.toNat := by
  rw [UInt64.toNat_mod, UInt64.toNat_sub]
  show (18446744073709551616 - m.toNat + 0) % 18446744073709551616 % m.toNat = _
  rw [Nat.add_zero, Nat.mod_eq_of_lt (show 18446744073709551616 - m.toNat < 18446744073709551616 by omega)]
  exact (Nat.mod_eq_sub_mod (by omega)).symm
theorem neg_toNat {r : UInt64} (h : 0 < r.toNat) : (0 - r).toNat = 18446744073709551616 - r.toNat := by
  rw [UInt64.toNat_sub]
  have := r.toNat_lt
  show (18446744073709551616 - r.toNat + 0) % 18446744073709551616 = _
  omega
end Go.Proofs.YtjjoenbighmfoaaDoor
