/-
  A small calculus over the kit's walk: what a frame's slots hold ('Fr'), which blocks of its own a call holds and with what in them ('Hp'), and one law for each operation. Over whatever program.
-/
import Derived.WalkKit
import Derived.CallsIn
import Derived.TacticsIn
import Derived.RangeFuncNested
import Derived.Deep.Quiet
import Derived.Still
namespace Go.Proofs.YtebinlinhmohbaaDoor
open Go Go.RowKit

/-- Every function, every depth; inside the round 'r' of a range over a function, or outside ('none'). -/
def Fw (r : Option Nat) : Fence := { fn := fun _ => True, depth := none, alive := false, round := r }

theorem Fw_none : Fw none = Fence.wide := rfl
theorem Fw_in (l : Nat) : Fw (some l) = Fence.wide.inRound l := rfl

theorem callsW {P : Program} {f : FuncId} {args : Array Value} {w : World} {R : Ending → World → Prop} (h : Calls P f args w R) (r : Option Nat) (n : Nat) :
    CallsIn (Fw r) n P f args w R := by
  cases r with
  | none => exact callsIn_wide.2 h
  | some l => exact CallsIn.inRound l (callsIn_wide.2 h)

/-! ### Frames -/
abbrev Slots := List (Nat × Value)
abbrev Blocks := List (Nat × Obj)

def look : Slots → Nat → Option Value
  | [], _ => none
  | (d, v) :: σ, t => bif Nat.beq d t then some v else look σ t

def ev (σ : Slots) : Operand → Option Value
  | .tmp t => look σ t
  | .const v => some v
  | .global g => some (.pointer (some ⟨g, 0, none⟩))
  | .func f => some (.func (.func f) #[] #[])

def evs (σ : Slots) : List Operand → Option (List Value)
  | [] => some []
  | x :: xs => match ev σ x, evs σ xs with
    | some v, some vs => some (v :: vs)
    | _, _ => none

structure Fr (n : Nat) (ds : List Deferred) (σ : Slots) (a : Act) : Prop where
  size : a.tmps.size = n
  defers : a.defers = ds
  get : ∀ t v, look σ t = some v → a.tmps[t]? = some v

theorem look_cons (d : Nat) (v : Value) (σ : Slots) (t : Nat) : look ((d, v) :: σ) t = if d = t then some v else look σ t := by
  simp only [look]
  by_cases h : d = t
  · subst h; simp [Nat.beq_refl]
  · rw [if_neg h]
    have : Nat.beq d t = false := by
      cases hb : Nat.beq d t
      · rfl
      · exact absurd (Nat.eq_of_beq_eq_true hb) h
    rw [this]; rfl

theorem Fr.put {n : Nat} {ds : List Deferred} {σ : Slots} {a : Act} (h : Fr n ds σ a) {d : Nat} (hd : d < n) (v : Value) : Fr n ds ((d, v) :: σ) (a.put (some d) v) := by
  refine ⟨by simp [Act.put, h.size], h.defers, ?_⟩
  intro t u hu
  rw [look_cons] at hu
  by_cases e : d = t
  · subst e
    rw [if_pos rfl] at hu
    cases hu
    simp [Act.put, h.size, hd]
  · rw [if_neg e] at hu
    simp only [Act.put, Array.getElem?_setIfInBounds, if_neg e]
    exact h.get t u hu

theorem Fr.put_none {n : Nat} {ds : List Deferred} {σ : Slots} {a : Act} (h : Fr n ds σ a) (v : Value) : Fr n ds σ (a.put none v) := h

theorem Fr.ev {n : Nat} {ds : List Deferred} {σ : Slots} {a : Act} (h : Fr n ds σ a) {x : Operand} {v : Value} (hx : ev σ x = some v) : a.eval x = v := by
  cases x with
  | tmp t =>
    have := h.get t v hx
    simp [Act.eval, Array.getD_eq_getD_getElem?, this]
  | const u => simp only [YtebinlinhmohbaaDoor.ev, Option.some.injEq] at hx; exact hx
  | global g => simp only [YtebinlinhmohbaaDoor.ev, Option.some.injEq] at hx; exact hx
  | func f => simp only [YtebinlinhmohbaaDoor.ev, Option.some.injEq] at hx; exact hx

theorem Fr.evs {n : Nat} {ds : List Deferred} {σ : Slots} {a : Act} (h : Fr n ds σ a) : ∀ {xs : List Operand} {vs : List Value}, evs σ xs = some vs → xs.map a.eval = vs
  | [], vs, hx => by simp only [YtebinlinhmohbaaDoor.evs, Option.some.injEq] at hx; subst hx; rfl
  | x :: xs, vs, hx => by
    simp only [YtebinlinhmohbaaDoor.evs] at hx
    split at hx
    · rename_i v us h1 h2
      simp only [Option.some.injEq] at hx
      subst hx
      simp only [List.map_cons, h.ev h1, h.evs h2]
    · cases hx

/-- Forgetting slots: each that is kept reads as before. -/
theorem Fr.weaken {n : Nat} {ds : List Deferred} {σ σ' : Slots} {a : Act} (h : Fr n ds σ a) (hs : ∀ p ∈ σ', look σ p.1 = some p.2) : Fr n ds σ' a := by
  refine ⟨h.size, h.defers, ?_⟩
  intro t v hv
  refine h.get t v ?_
  clear h
  induction σ' with
  | nil => cases hv
  | cons p σ' ih =>
    rw [look_cons p.1 p.2] at hv
    by_cases e : p.1 = t
    · rw [if_pos e] at hv; cases hv
      have := hs p (by simp)
      rw [e] at this; exact this
    · rw [if_neg e] at hv
      exact ih (fun q hq => hs q (by simp [hq])) hv

/-- Slots that are kept, one by one. -/
inductive Keeps (σ : Slots) : Slots → Prop
  | nil : Keeps σ []
  | cons {d : Nat} {v : Value} {σ' : Slots} (h : look σ d = some v) (hs : Keeps σ σ') : Keeps σ ((d, v) :: σ')
theorem Keeps.get {σ σ' : Slots} (h : Keeps σ σ') : ∀ p ∈ σ', look σ p.1 = some p.2 := by
  induction h with
  | nil => simp
  | cons h _ ih =>
    intro p hp
    rcases List.mem_cons.1 hp with rfl | hp
    · exact h
    · exact ih p hp

/-! ### Memory -/
/-- What was there when the call began ('w0') is as it was; and these blocks, the call's own, hold this. -/
structure Hp (w0 : World) (H : Blocks) (w : World) : Prop where
  below : Below w0.heap.size w0 w
  blk : ∀ x ∈ H, w0.heap.size ≤ x.1 ∧ w.heap[x.1]? = some x.2
  apart : H.Pairwise (fun x y => x.1 ≠ y.1)
  mono : w0.drawn ≤ w.drawn

theorem Hp.start (w : World) : Hp w [] w := ⟨Below.refl _ _, by simp, .nil, Nat.le_refl _⟩

theorem Hp.drew {w0 w : World} {H : Blocks} (h : Hp w0 H w) : Hp w0 H { w with drawn := w.drawn + 1 } :=
  ⟨h.below.trans ⟨rfl, rfl, rfl, Nat.le_refl _, fun _ _ => rfl⟩, h.blk, h.apart, Nat.le_succ_of_le h.mono⟩

theorem Hp.lt {w0 w : World} {H : Blocks} (h : Hp w0 H w) {x : Nat × Obj} (hx : x ∈ H) : x.1 < w.heap.size :=
  (Array.getElem?_eq_some_iff.1 (h.blk x hx).2).1

theorem Hp.get {w0 w : World} {H : Blocks} (h : Hp w0 H w) {b : Nat} {o : Obj} (hx : (b, o) ∈ H) : w.heap[b]? = some o := (h.blk _ hx).2

theorem Hp.alloc {w0 w : World} {H : Blocks} (h : Hp w0 H w) (o : Obj) : Hp w0 ((w.heap.size, o) :: H) (w.alloc o) := by
  refine ⟨h.below.alloc h.below.size o, ?_, ?_, h.mono⟩
  · intro x hx
    rcases List.mem_cons.1 hx with rfl | hx
    · exact ⟨h.below.size, heap_alloc_new w o⟩
    · have := h.lt hx
      exact ⟨(h.blk x hx).1, by rw [Below.heap_alloc w o x.1 this]; exact (h.blk x hx).2⟩
  · exact .cons (fun y hy => by have := h.lt hy; simp; omega) h.apart

/-- 'x' taken out of H leaves H'. -/
inductive Pick (x : Nat × Obj) : Blocks → Blocks → Prop
  | here {H : Blocks} : Pick x (x :: H) H
  | there {y : Nat × Obj} {H H' : Blocks} (h : Pick x H H') : Pick x (y :: H) (y :: H')

theorem Pick.mem {x : Nat × Obj} {H H' : Blocks} (h : Pick x H H') : ∀ y, y ∈ H ↔ y = x ∨ y ∈ H' := by
  induction h with
  | here => intro y; simp
  | there _ ih =>
    intro y
    simp only [List.mem_cons, ih y]
    constructor
    · rintro (e | e | e) <;> simp [e]
    · rintro (e | e | e) <;> simp [e]

theorem Pick.apart {x : Nat × Obj} {H H' : Blocks} (h : Pick x H H') (hp : H.Pairwise (fun x y => x.1 ≠ y.1)) : (∀ y ∈ H', x.1 ≠ y.1) ∧ H'.Pairwise (fun x y => x.1 ≠ y.1) := by
  induction h with
  | here => exact List.pairwise_cons.1 hp
  | there h ih =>
    obtain ⟨h1, h2⟩ := List.pairwise_cons.1 hp
    obtain ⟨i1, i2⟩ := ih h2
    refine ⟨fun z hz => ?_, .cons (fun z hz => h1 z ((h.mem z).2 (.inr hz))) i2⟩
    rcases List.mem_cons.1 hz with rfl | hz
    · exact fun e => h1 _ ((h.mem _).2 (.inl rfl)) e.symm
    · exact i1 z hz

/-- Some of the blocks, in whatever order. -/
inductive Sub : Blocks → Blocks → Prop
  | nil {H : Blocks} : Sub [] H
  | cons {x : Nat × Obj} {A H H1 : Blocks} (h : Pick x H H1) (hs : Sub A H1) : Sub (x :: A) H
  | all {H : Blocks} : Sub H H

theorem Sub.dropHead {x : Nat × Obj} {A : Blocks} : Sub A ([x] ++ A) := by
  have : ∀ (A H : Blocks), (∀ y, y ∈ A → y ∈ H) → True := fun _ _ _ => trivial
  clear this
  suffices h : ∀ (x : Nat × Obj) (A : Blocks), Sub A (x :: A) from h x A
  intro x A
  induction A generalizing x with
  | nil => exact .nil
  | cons y A ih => exact .cons (.there .here) (ih x)

theorem Sub.mem {A H : Blocks} (h : Sub A H) : ∀ x ∈ A, x ∈ H := by
  induction h with
  | nil => simp
  | all => exact fun _ h => h
  | cons h _ ih =>
    intro x hx
    rcases List.mem_cons.1 hx with rfl | hx
    · exact (h.mem _).2 (.inl rfl)
    · exact (h.mem _).2 (.inr (ih x hx))

theorem Sub.apart {A H : Blocks} (h : Sub A H) (hp : H.Pairwise (fun x y => x.1 ≠ y.1)) : A.Pairwise (fun x y => x.1 ≠ y.1) := by
  induction h with
  | nil => exact .nil
  | all => exact hp
  | cons h hs ih =>
    obtain ⟨h1, h2⟩ := h.apart hp
    exact .cons (fun y hy => h1 y (hs.mem y hy)) (ih h2)

theorem Hp.sub {w0 w : World} {H H' : Blocks} (h : Hp w0 H w) (hs : Sub H' H) : Hp w0 H' w :=
  ⟨h.below, fun x hx => h.blk x (hs.mem x hx), hs.apart h.apart, h.mono⟩

theorem Hp.perm {w0 w : World} {H H' : Blocks} (h : Hp w0 H w) (hp : H.Perm H') : Hp w0 H' w :=
  ⟨h.below, fun x hx => h.blk x (hp.mem_iff.2 hx), (hp.pairwise_iff (fun e => Ne.symm e)).1 h.apart, h.mono⟩

/-- Block b's content o is written over by o'. -/
inductive Upd (b : Nat) (o o' : Obj) : Blocks → Blocks → Prop
  | here {H : Blocks} : Upd b o o' ((b, o) :: H) ((b, o') :: H)
  | there {x : Nat × Obj} {H H' : Blocks} (h : Upd b o o' H H') : Upd b o o' (x :: H) (x :: H')

theorem Upd.mem {b : Nat} {o o' : Obj} {H H' : Blocks} (h : Upd b o o' H H') : (b, o) ∈ H := by
  induction h with
  | here => simp
  | there _ ih => simp [ih]

theorem Upd.keys {b : Nat} {o o' : Obj} {H H' : Blocks} (h : Upd b o o' H H') : H'.map (·.1) = H.map (·.1) := by
  induction h with
  | here => rfl
  | there _ ih => simp [ih]

theorem pairwise_keys {H H' : Blocks} (hk : H'.map (·.1) = H.map (·.1)) (h : H.Pairwise (fun x y => x.1 ≠ y.1)) : H'.Pairwise (fun x y => x.1 ≠ y.1) := by
  have h1 : (H.map (·.1)).Pairwise (fun a b => a ≠ b) := List.pairwise_map.2 h
  rw [← hk] at h1
  exact List.pairwise_map.1 h1

theorem Upd.spec {b : Nat} {o o' : Obj} {H H' : Blocks} (h : Upd b o o' H H') (hs : H.Pairwise (fun x y => x.1 ≠ y.1)) : ∀ x ∈ H', (x = (b, o')) ∨ (x ∈ H ∧ x.1 ≠ b) := by
  induction h with
  | @here H =>
    intro x hx
    rcases List.mem_cons.1 hx with rfl | hx
    · exact .inl rfl
    · have := (List.pairwise_cons.1 hs).1 x hx
      exact .inr ⟨by simp [hx], fun e => this e.symm⟩
  | @there y H H' hu ih =>
    intro x hx
    obtain ⟨h1, h2⟩ := List.pairwise_cons.1 hs
    rcases List.mem_cons.1 hx with rfl | hx
    · have := h1 _ hu.mem
      exact .inr ⟨by simp, this⟩
    · rcases ih h2 x hx with e | ⟨e1, e2⟩
      · exact .inl e
      · exact .inr ⟨by simp [e1], e2⟩

/-- A block of the call's own is written over. -/
theorem Hp.upd {w0 w w' : World} {H H' : Blocks} {b : Nat} {o o' : Obj} (h : Hp w0 H w) (hu : Upd b o o' H H')
    (hw : w' = { w with heap := w.heap.setIfInBounds b o' }) : Hp w0 H' w' := by
  subst hw
  have hb := h.blk _ hu.mem
  have hlt : b < w.heap.size := h.lt hu.mem
  refine ⟨h.below.trans ⟨rfl, rfl, rfl, by simp, fun k hk => ?_⟩, ?_, pairwise_keys hu.keys h.apart, h.mono⟩
  · simp only [Array.getElem?_setIfInBounds]
    rw [if_neg (by have := hb.1; simp at this; omega)]
  · intro x hx
    rcases hu.spec h.apart x hx with rfl | ⟨e1, e2⟩
    · exact ⟨hb.1, by simp [hlt]⟩
    · refine ⟨(h.blk x e1).1, ?_⟩
      simp only [Array.getElem?_setIfInBounds]
      rw [if_neg (by omega)]
      exact (h.blk x e1).2

/-- What a call leaves that only makes blocks of its own. -/
theorem Hp.call {w0 w w' : World} {H H' : Blocks} (h : Hp w0 H w) (h' : Hp w H' w') : Hp w0 (H' ++ H) w' := by
  refine ⟨h.below.trans (h'.below.mono h.below.size), ?_, ?_, Nat.le_trans h.mono h'.mono⟩
  · intro x hx
    rcases List.mem_append.1 hx with hx | hx
    · exact ⟨Nat.le_trans h.below.size (h'.blk x hx).1, (h'.blk x hx).2⟩
    · exact ⟨(h.blk x hx).1, by rw [h'.below.block _ (h.lt hx)]; exact (h.blk x hx).2⟩
  · rw [List.pairwise_append]
    refine ⟨h'.apart, h.apart, fun x hx y hy => ?_⟩
    have := (h'.blk x hx).1
    have := h.lt hy
    intro e
    omega

/-! ### The judgements -/
structure Cx where
  P : Program
  r : Option Nat
  n : Nat
  ds : List Deferred
  w0 : World

abbrev Post1 := Exit → Act → World → Prop

def J (c : Cx) (σ : Slots) (H : Blocks) (G : Act → World → Prop) : Prop := ∀ a w, Fr c.n c.ds σ a → Hp c.w0 H w → G a w
def JC (c : Cx) (σ : Slots) (H : Blocks) (x : Code) (Q : Post1) : Prop := ∀ a w, Fr c.n c.ds σ a → Hp c.w0 H w → x.wpIn (Fw c.r) 7 c.P Q a w
def JL (c : Cx) (ops : Array Oper) (σ : Slots) (H : Blocks) (l : List Oper) (Q : Post1) : Prop := ∀ a w, Fr c.n c.ds σ a → Hp c.w0 H w → wpListIn (Fw c.r) 7 c.P ops Q l a w
def JQ (c : Cx) (σ : Slots) (H : Blocks) (Q : Post1) (e : Exit) : Prop := ∀ a w, Fr c.n c.ds σ a → Hp c.w0 H w → Q e a w
/-- A region that draws its order and only reads. -/
def JW (c : Cx) (ops : Array Oper) (σ : Slots) (H : Blocks) (l : List Oper) (Q : Act → Prop) : Prop := ∀ a, Fr c.n c.ds σ a → wpQuiet c.P ops (Hp c.w0 H) Q l a

/-- Code, as what follows. -/
abbrev next (c : Cx) (y : Code) (Q : Post1) : Act → World → Prop := fun a w => y.wpIn (Fw c.r) 7 c.P Q a w

section
variable {c : Cx} {σ : Slots} {H : Blocks} {Q : Post1}

theorem JC.seq {x y : Code} (h : JC c σ H x (Exit.then (next c y Q) Q)) : JC c σ H (.seq x y) Q := fun a w hf hw => wpIn_seq (h a w hf hw)
theorem JC.skip (h : JQ c σ H Q .normal) : JC c σ H .skip Q := fun a w hf hw => wpIn_skip (h a w hf hw)
theorem JC.ret (h : JQ c σ H Q .ret) : JC c σ H .ret Q := fun a w hf hw => wpIn_ret (h a w hf hw)
theorem JC.exit {id : Nat} (h : JQ c σ H Q (.exit id)) : JC c σ H (.exit id) Q := fun a w hf hw => wpIn_exit (h a w hf hw)
theorem JC.label {id : Nat} (h : JQ c σ H Q .normal) : JC c σ H (.label id) Q := fun a w hf hw => wpIn_label (h a w hf hw)
theorem JC.block {id : Nat} {x : Code} (h : JC c σ H x (Exit.inBlock id Q)) : JC c σ H (.block id x) Q := fun a w hf hw => wpIn_block (h a w hf hw)
theorem JC.condT {x : Operand} {y z : Code} (hx : ev σ x = some (.bool true)) (h : JC c σ H y Q) : JC c σ H (.cond x y z) Q := fun a w hf hw => wpIn_cond_true (hf.ev hx) (h a w hf hw)
theorem JC.condF {x : Operand} {y z : Code} (hx : ev σ x = some (.bool false)) (h : JC c σ H z Q) : JC c σ H (.cond x y z) Q := fun a w hf hw => wpIn_cond_false (hf.ev hx) (h a w hf hw)
theorem JC.cond {x : Operand} {y z : Code} {b : Bool} (hx : ev σ x = some (.bool b)) (h1 : b = true → JC c σ H y Q) (h2 : b = false → JC c σ H z Q) : JC c σ H (.cond x y z) Q := by
  cases b
  · exact JC.condF hx (h2 rfl)
  · exact JC.condT hx (h1 rfl)
theorem JC.region {id : Nat} {l : List Oper} (h : JL c l.toArray σ H l Q) : JC c σ H (.region id l.toArray false) Q := fun a w hf hw => wpIn_region_lit (h a w hf hw)

theorem JQ.thenN {y : Code} {Q' : Post1} (h : JC c σ H y Q') : JQ c σ H (Exit.then (next c y Q') Q) .normal := h
theorem JQ.thenJ {G : Act → World → Prop} (h : J c σ H G) : JQ c σ H (Exit.then G Q) .normal := h
theorem JQ.thenE {G : Act → World → Prop} {id : Nat} (h : JQ c σ H Q (.exit id)) : JQ c σ H (Exit.then G Q) (.exit id) := h
theorem JQ.thenR {G : Act → World → Prop} (h : JQ c σ H Q .ret) : JQ c σ H (Exit.then G Q) .ret := h
theorem JQ.blockN {id : Nat} (h : JQ c σ H Q .normal) : JQ c σ H (Exit.inBlock id Q) .normal := h
theorem JQ.blockR {id : Nat} (h : JQ c σ H Q .ret) : JQ c σ H (Exit.inBlock id Q) .ret := h
theorem JQ.blockE {id : Nat} (h : JQ c σ H Q .normal) : JQ c σ H (Exit.inBlock id Q) (.exit id) := fun a w hf hw => by
  show Exit.inBlock id Q (.exit id) a w
  simp only [Exit.inBlock, if_true]; exact h a w hf hw
theorem JQ.blockO {id id' : Nat} (hne : Nat.beq id' id = false) (h : JQ c σ H Q (.exit id')) : JQ c σ H (Exit.inBlock id Q) (.exit id') := fun a w hf hw => by
  have hne : ¬ id' = id := fun e => by subst e; rw [Nat.beq_refl] at hne; cases hne
  show Exit.inBlock id Q (.exit id') a w
  simp only [Exit.inBlock, if_neg hne]; exact h a w hf hw

theorem JL.nil {ops : Array Oper} (h : JQ c σ H Q .normal) : JL c ops σ H [] Q := h

theorem JC.weaken {σ' : Slots} {H' : Blocks} {x : Code} (hs : ∀ p ∈ σ', look σ p.1 = some p.2) (hH : Sub H' H) (h : JC c σ' H' x Q) : JC c σ H x Q :=
  fun a w hf hw => h a w (hf.weaken hs) (hw.sub hH)

/-- The loop: 'x' tells where it stands. -/
theorem JC.loop {x : Code} {X : Type} (σI : X → Slots) (HI : X → Blocks) (Inv : X → Prop) (μ : X → Nat) (x0 : X)
    (hs : ∀ p ∈ σI x0, look σ p.1 = some p.2) (hH : Sub (HI x0) H) (h0 : Inv x0)
    (round : ∀ x1, Inv x1 → JC c (σI x1) (HI x1) x (Exit.then (fun a w => ∃ x', Inv x' ∧ μ x' < μ x1 ∧ Fr c.n c.ds (σI x') a ∧ Hp c.w0 (HI x') w) Q)) : JC c σ H (.loop x) Q := by
  intro a w hf hw
  let M : Act → World → Nat → Prop := fun a w k => ∃ x, μ x = k ∧ Inv x ∧ Fr c.n c.ds (σI x) a ∧ Hp c.w0 (HI x) w
  have least : ∀ a w, (∃ k, M a w k) → ∃ k, M a w k ∧ ∀ j, M a w j → k ≤ j := by
    rintro a w ⟨k, hk⟩
    induction k using Nat.strongRecOn with
    | _ k ih =>
      by_cases h : ∃ j, M a w j ∧ j < k
      · obtain ⟨j, hj, hlt⟩ := h
        exact ih j hlt hj
      · refine ⟨k, hk, fun j hj => ?_⟩
        rcases Nat.lt_or_ge j k with hlt | hge
        · exact absurd ⟨j, hj, hlt⟩ h
        · exact hge
  classical
  let lo : Act → World → Nat := fun a w => if h : ∃ k, M a w k then Classical.choose (least a w h) else 0
  have lo1 : ∀ a w, (∃ k, M a w k) → M a w (lo a w) ∧ ∀ j, M a w j → lo a w ≤ j := by
    intro a w h
    simp only [lo, dif_pos h]
    exact Classical.choose_spec (least a w h)
  refine wpIn_loop (fun a w => ∃ k, M a w k) lo ⟨_, x0, rfl, h0, hf.weaken hs, hw.sub hH⟩ ?_
  rintro a w hex
  obtain ⟨x1, hx, hi, hf1, hw1⟩ := (lo1 a w hex).1
  refine wpIn_mono (round x1 hi a w hf1 hw1) ?_
  intro e a' w' hq
  cases e with
  | normal =>
    obtain ⟨x', hi', hlt, hf', hw'⟩ := hq
    have hM : M a' w' (μ x') := ⟨x', rfl, hi', hf', hw'⟩
    refine ⟨⟨_, hM⟩, ?_⟩
    have : lo a' w' ≤ μ x' := (lo1 a' w' ⟨_, hM⟩).2 _ hM
    omega
  | _ => exact hq

/-- The round's end. -/
theorem JQ.loopN {X : Type} {σI : X → Slots} {HI : X → Blocks} {Inv : X → Prop} {μ : X → Nat} {k : Nat} (x' : X)
    (hs : ∀ p ∈ σI x', look σ p.1 = some p.2) (hH : Sub (HI x') H) (hi : Inv x') (hlt : μ x' < k) :
    JQ c σ H (Exit.then (fun a w => ∃ x', Inv x' ∧ μ x' < k ∧ Fr c.n c.ds (σI x') a ∧ Hp c.w0 (HI x') w) Q) .normal :=
  fun _ _ hf hw => ⟨x', hi, hlt, hf.weaken hs, hw.sub hH⟩

/-! ### Operations -/
/-- Whether an operation is carried out. -/
inductive Gd (ops : Array Oper) (σ : Slots) (g : Option (Nat × Bool)) : Bool → Prop
  | none (h : g = Option.none) : Gd ops σ g true
  | some {j d : Nat} {b want : Bool} (h : g = Option.some (j, want)) (hd : (ops[j]?).bind (·.dst) = Option.some d) (hb : look σ d = Option.some (.bool b)) : Gd ops σ g (b == want)

theorem Gd.yes {ops : Array Oper} {σ : Slots} {g : Option (Nat × Bool)} {j d : Nat} {b : Bool} (h : g = Option.some (j, b)) (hd : (ops[j]?).bind (·.dst) = Option.some d) (hb : look σ d = Option.some (.bool b)) : Gd ops σ g true := by
  have := Gd.some h hd hb
  rwa [beq_self_eq_true] at this
theorem Gd.noT {ops : Array Oper} {σ : Slots} {g : Option (Nat × Bool)} {j d : Nat} (h : g = Option.some (j, true)) (hd : (ops[j]?).bind (·.dst) = Option.some d) (hb : look σ d = Option.some (.bool false)) : Gd ops σ g false := Gd.some h hd hb
theorem Gd.noF {ops : Array Oper} {σ : Slots} {g : Option (Nat × Bool)} {j d : Nat} (h : g = Option.some (j, false)) (hd : (ops[j]?).bind (·.dst) = Option.some d) (hb : look σ d = Option.some (.bool true)) : Gd ops σ g false := Gd.some h hd hb

theorem Gd.wanted {ops : Array Oper} {n : Nat} {ds : List Deferred} {a : Act} {o : Oper} {b : Bool} (h : Gd ops σ o.guard b) (hf : Fr n ds σ a) : Region.wanted o (yielded ops a.tmps) = b := by
  cases h with
  | none h => simp [Region.wanted, h]
  | some h hd hb =>
    have := hf.get _ _ hb
    simp [Region.wanted, h, yielded, hd, this]

/-- A value, the world as it was. -/
def Ev (c : Cx) (σ : Slots) (H : Blocks) (o : Oper) (v : Value) : Prop := ∀ a w, Fr c.n c.ds σ a → Hp c.w0 H w → (execOp a.eval o).run c.P w = .ok (.value v) w
/-- A new block. -/
def En (c : Cx) (σ : Slots) (H : Blocks) (o : Oper) (v : Nat → Value) (O : Obj) : Prop := ∀ a w, Fr c.n c.ds σ a → Hp c.w0 H w → (execOp a.eval o).run c.P w = .ok (.value (v w.heap.size)) (w.alloc O)
/-- Nothing handed back; memory of the call's own written. -/
def Es (c : Cx) (σ : Slots) (H : Blocks) (o : Oper) (H' : Blocks) : Prop := ∀ a w, Fr c.n c.ds σ a → Hp c.w0 H w → ∃ w', (execOp a.eval o).run c.P w = .ok .skip w' ∧ Hp c.w0 H' w'
/-- In general: some value, some blocks. -/
def Eg (c : Cx) (σ : Slots) (H : Blocks) (o : Oper) (Y : Value → Blocks → Prop) : Prop := ∀ a w, Fr c.n c.ds σ a → Hp c.w0 H w → ∃ v H' w', (execOp a.eval o).run c.P w = .ok (.value v) w' ∧ Hp c.w0 H' w' ∧ Y v H'

/-- No operation of a deferred call. -/
def notDefer (o : Oper) : Bool := match o.op with | .defer _ => false | _ => true

theorem notDefer_ne {o : Oper} (h : notDefer o = true) : ∀ c, o.op ≠ .defer c := by
  intro c e; simp [notDefer, e] at h

theorem wpListIn_exec {r : Option Nat} {P : Program} {ops : Array Oper} {o : Oper} {l : List Oper} {a : Act} {w w' : World} {v : Value} {Q : Post1}
    (hw : Region.wanted o (yielded ops a.tmps) = true) (hnd : notDefer o = true)
    (he : (execOp a.eval o).run P w = .ok (.value v) w') (h : wpListIn (Fw r) 7 P ops Q l (a.put o.dst v) w') : wpListIn (Fw r) 7 P ops Q (o :: l) a w := by
  unfold wpListIn
  rw [if_pos hw]
  refine ⟨fun _ _ => trivial, ?_⟩
  rw [Oper.semAt_eq _ _ _ (notDefer_ne hnd), he]
  exact h

theorem wpListIn_execS {r : Option Nat} {P : Program} {ops : Array Oper} {o : Oper} {l : List Oper} {a : Act} {w w' : World} {Q : Post1}
    (hw : Region.wanted o (yielded ops a.tmps) = true) (hnd : notDefer o = true)
    (he : (execOp a.eval o).run P w = .ok .skip w') (h : wpListIn (Fw r) 7 P ops Q l (a.put o.dst undef) w') : wpListIn (Fw r) 7 P ops Q (o :: l) a w := by
  unfold wpListIn
  rw [if_pos hw]
  refine ⟨fun _ _ => trivial, ?_⟩
  rw [Oper.semAt_eq _ _ _ (notDefer_ne hnd), he]
  exact h

theorem wpListIn_execC {r : Option Nat} {P : Program} {ops : Array Oper} {o : Oper} {l : List Oper} {a : Act} {w w' : World} {f : FuncId} {args : Array Value} {Q : Post1} {R : Ending → World → Prop}
    (hw : Region.wanted o (yielded ops a.tmps) = true) (hnd : notDefer o = true)
    (he : (execOp a.eval o).run P w = .ok (.enter f args) w') (hc : Calls P f args w' R)
    (h : ∀ e w'', R e w'' → ∃ v, e = .returned v ∧ wpListIn (Fw r) 7 P ops Q l (a.put o.dst v) w'') : wpListIn (Fw r) 7 P ops Q (o :: l) a w := by
  unfold wpListIn
  rw [if_pos hw]
  refine ⟨fun _ _ => trivial, ?_⟩
  rw [Oper.semAt_eq _ _ _ (notDefer_ne hnd), he]
  refine ⟨fun h => by simp [Fw] at h, ?_⟩
  refine (callsW hc r _).mono ?_
  intro e w'' hR
  obtain ⟨v, rfl, h'⟩ := h e w'' hR
  exact h'

variable {ops : Array Oper} {l : List Oper} {o : Oper}

theorem JL.val {d : Nat} {v : Value} (hd : o.dst = some d) (hdn : Nat.blt d c.n = true) (hnd : notDefer o = true) (g : Gd ops σ o.guard true) (e : Ev c σ H o v)
    (h : JL c ops ((d, v) :: σ) H l Q) : JL c ops σ H (o :: l) Q := fun a w hf hw =>
  wpListIn_exec (g.wanted hf) hnd (e a w hf hw) (h _ _ (by rw [hd]; exact hf.put (Nat.le_of_ble_eq_true hdn) v) hw)

theorem JL.new {d : Nat} {v : Nat → Value} {O : Obj} (hd : o.dst = some d) (hdn : Nat.blt d c.n = true) (hnd : notDefer o = true) (g : Gd ops σ o.guard true) (e : En c σ H o v O)
    (h : ∀ b, c.w0.heap.size ≤ b → JL c ops ((d, v b) :: σ) ((b, O) :: H) l Q) : JL c ops σ H (o :: l) Q := fun a w hf hw =>
  wpListIn_exec (g.wanted hf) hnd (e a w hf hw) (h w.heap.size hw.below.size _ _ (by rw [hd]; exact hf.put (Nat.le_of_ble_eq_true hdn) _) (hw.alloc O))

theorem JL.sto {H' : Blocks} (hd : o.dst = none) (hnd : notDefer o = true) (g : Gd ops σ o.guard true) (e : Es c σ H o H') (h : JL c ops σ H' l Q) : JL c ops σ H (o :: l) Q := fun a w hf hw => by
  obtain ⟨w', e1, e2⟩ := e a w hf hw
  exact wpListIn_execS (g.wanted hf) hnd e1 (h _ _ (by rw [hd]; exact hf) e2)

theorem JL.gen {d : Nat} {Y : Value → Blocks → Prop} (hd : o.dst = some d) (hdn : Nat.blt d c.n = true) (hnd : notDefer o = true) (g : Gd ops σ o.guard true) (e : Eg c σ H o Y)
    (h : ∀ v H', Y v H' → JL c ops ((d, v) :: σ) H' l Q) : JL c ops σ H (o :: l) Q := fun a w hf hw => by
  obtain ⟨v, H', w', e1, e2, e3⟩ := e a w hf hw
  exact wpListIn_exec (g.wanted hf) hnd e1 (h v H' e3 _ _ (by rw [hd]; exact hf.put (Nat.le_of_ble_eq_true hdn) _) e2)

theorem JL.skip {d : Nat} (hd : o.dst = some d) (hdn : Nat.blt d c.n = true) (g : Gd ops σ o.guard false) (h : JL c ops ((d, undef) :: σ) H l Q) : JL c ops σ H (o :: l) Q := fun a w hf hw => by
  unfold wpListIn
  rw [if_neg (by rw [g.wanted hf]; simp)]
  exact ⟨fun _ _ => trivial, h _ _ (by rw [hd]; exact hf.put (Nat.le_of_ble_eq_true hdn) _) hw⟩

/-- What a call comes to: it returns v, and leaves these blocks, as seen from w0. -/
def Ret (w0 : World) (Y : Value → Blocks → Prop) : Ending → World → Prop := fun e w' => ∃ v H', e = .returned v ∧ Hp w0 H' w' ∧ Y v H'

theorem JL.call {d f : Nat} {xs : List Operand} {ats : Array TypeId} {ty : TypeId} {pos : String} {af : Array Edge} {gd : Option (Nat × Bool)} {vs : List Value} {Y : Value → Blocks → Prop}
    (hdn : Nat.blt d c.n = true) (g : Gd ops σ gd true) (hx : evs σ xs = some vs)
    (hent : ∀ args w, (callFunc f args).run c.P w = .ok (.enter f args) w)
    (hc : ∀ w, Hp c.w0 H w → Calls c.P f vs.toArray w (Ret c.w0 Y))
    (h : ∀ v H', Y v H' → JL c ops ((d, v) :: σ) H' l Q) :
    JL c ops σ H ({ dst := some d, op := .call { callee := .value (.func f), args := xs.toArray, argTypes := ats }, type := ty, pos := pos, after := af, guard := gd } :: l) Q := fun a w hf hw => by
  refine wpListIn_execC (g.wanted hf) rfl (f := f) (args := vs.toArray) (w' := w) ?_ (hc w hw) ?_
  · have : execOp a.eval { dst := some d, op := .call { callee := .value (.func f), args := xs.toArray, argTypes := ats }, type := ty, pos := pos, after := af, guard := gd } = callFunc f (#[] ++ xs.toArray.map a.eval ++ #[]) := rfl
    rw [this, hent]
    have h2 := hf.evs hx
    simp [h2]
  · rintro e w'' ⟨v, H', rfl, h1, h2⟩
    exact ⟨v, rfl, h v H' h2 _ _ (hf.put (Nat.le_of_ble_eq_true hdn) _) h1⟩

/-- A contract that speaks of the world in which the call is made, carried to the caller's. -/
theorem Ret.lift {P : Program} {w0 w : World} {f : FuncId} {args : Array Value} {Y : Value → Blocks → Prop} (hw : Hp w0 H w) (h : Calls P f args w (Ret w Y)) :
    Calls P f args w (Ret w0 fun v H' => ∃ H1, H' = H1 ++ H ∧ Y v H1) :=
  h.mono fun _ _ ⟨v, H', he, h1, h2⟩ => ⟨v, H' ++ H, he, hw.call h1, H', rfl, h2⟩

theorem Ret.mono {P : Program} {w0 w : World} {f : FuncId} {args : Array Value} {Y Y' : Value → Blocks → Prop} (h : Calls P f args w (Ret w0 Y)) (hy : ∀ v H', Y v H' → Y' v H') :
    Calls P f args w (Ret w0 Y') := h.mono fun _ _ ⟨v, H', he, h1, h2⟩ => ⟨v, H', he, h1, hy v H' h2⟩

/-- The call, by a contract that only makes blocks. -/
theorem JL.callN {d f : Nat} {xs : List Operand} {ats : Array TypeId} {ty : TypeId} {pos : String} {af : Array Edge} {gd : Option (Nat × Bool)} {vs : List Value} {Y : Value → Blocks → Prop}
    (hdn : Nat.blt d c.n = true) (g : Gd ops σ gd true) (hx : evs σ xs = some vs)
    (hent : ∀ args w, (callFunc f args).run c.P w = .ok (.enter f args) w)
    (hc : ∀ w, Hp c.w0 H w → Calls c.P f vs.toArray w (Ret w Y))
    (h : ∀ v H', Y v H' → JL c ops ((d, v) :: σ) (H' ++ H) l Q) :
    JL c ops σ H ({ dst := some d, op := .call { callee := .value (.func f), args := xs.toArray, argTypes := ats }, type := ty, pos := pos, after := af, guard := gd } :: l) Q :=
  JL.call hdn g hx hent (fun w hw => Ret.lift hw (hc w hw)) (fun v H' ⟨H1, e, hy⟩ => by subst e; exact h v H1 hy)

/-- The call, of a function whose blocks nobody sees any more: its value alone. -/
theorem JL.callV {d f : Nat} {xs : List Operand} {ats : Array TypeId} {ty : TypeId} {pos : String} {af : Array Edge} {gd : Option (Nat × Bool)} {vs : List Value} {v : Value}
    (hdn : Nat.blt d c.n = true) (g : Gd ops σ gd true) (hx : evs σ xs = some vs)
    (hent : ∀ args w, (callFunc f args).run c.P w = .ok (.enter f args) w)
    (hc : ∀ w, Hp c.w0 H w → Calls c.P f vs.toArray w (Ret w fun v' _ => v' = v))
    (h : JL c ops ((d, v) :: σ) H l Q) :
    JL c ops σ H ({ dst := some d, op := .call { callee := .value (.func f), args := xs.toArray, argTypes := ats }, type := ty, pos := pos, after := af, guard := gd } :: l) Q :=
  JL.callN hdn g hx hent hc fun v' H' e => by
    subst e
    exact fun a w hf hw => h a w hf ⟨hw.below, fun x hx => hw.blk x (List.mem_append_right _ hx), (List.pairwise_append.1 hw.apart).2.1, hw.mono⟩

theorem look_over {σ : Slots} {d : Nat} {v : Value} (h : look σ d = some v) : ∀ t u, look ((d, v) :: σ) t = some u → look σ t = some u := by
  intro t u hu
  rw [look_cons] at hu
  by_cases e : d = t
  · subst e; rw [if_pos rfl] at hu; rw [h]; exact hu
  · rw [if_neg e] at hu; exact hu
theorem Fr.over {n : Nat} {ds : List Deferred} {a : Act} {d : Nat} {v : Value} (h : look σ d = some v) (hf : Fr n ds σ a) : Fr n ds ((d, v) :: σ) a :=
  ⟨hf.size, hf.defers, fun t u hu => hf.get t u (look_over h t u hu)⟩
theorem JL.split {d : Nat} {b : Bool} (h : look σ d = some (.bool b)) (h1 : b = true → JL c ops ((d, .bool true) :: σ) H l Q) (h2 : b = false → JL c ops ((d, .bool false) :: σ) H l Q) : JL c ops σ H l Q := by
  cases b
  · exact fun a w hf hw => h2 rfl a w (hf.over h) hw
  · exact fun a w hf hw => h1 rfl a w (hf.over h) hw
theorem JL.know {d : Nat} {b b' : Bool} (h : look σ d = some (.bool b')) (hb : b' = b) (h1 : JL c ops ((d, .bool b) :: σ) H l Q) : JL c ops σ H l Q := by
  subst hb; exact fun a w hf hw => h1 a w (hf.over h) hw
theorem JW.split {G : Act → Prop} {d : Nat} {b : Bool} (h : look σ d = some (.bool b)) (h1 : b = true → JW c ops ((d, .bool true) :: σ) H l G) (h2 : b = false → JW c ops ((d, .bool false) :: σ) H l G) : JW c ops σ H l G := by
  cases b
  · exact fun a hf => h2 rfl a (hf.over h)
  · exact fun a hf => h1 rfl a (hf.over h)
theorem JW.know {G : Act → Prop} {d : Nat} {b b' : Bool} (h : look σ d = some (.bool b')) (hb : b' = b) (h1 : JW c ops ((d, .bool b) :: σ) H l G) : JW c ops σ H l G := by
  subst hb; exact fun a hf => h1 a (hf.over h)
theorem JC.knowT {x : Operand} {y z : Code} {b : Bool} (hx : ev σ x = some (.bool b)) (hb : b = true) (h : JC c σ H y Q) : JC c σ H (.cond x y z) Q := by subst hb; exact JC.condT hx h
theorem JC.knowF {x : Operand} {y z : Code} {b : Bool} (hx : ev σ x = some (.bool b)) (hb : b = false) (h : JC c σ H z Q) : JC c σ H (.cond x y z) Q := by subst hb; exact JC.condF hx h
/-- The value of a slot, or a block's content, said otherwise. -/
theorem JL.re {d : Nat} {v v' : Value} (h : look σ d = some v) (hv : v = v') (h1 : JL c ops ((d, v') :: σ) H l Q) : JL c ops σ H l Q := by
  subst hv; exact fun a w hf hw => h1 a w (hf.over h) hw
theorem JW.re {G : Act → Prop} {d : Nat} {v v' : Value} (h : look σ d = some v) (hv : v = v') (h1 : JW c ops ((d, v') :: σ) H l G) : JW c ops σ H l G := by
  subst hv; exact fun a hf => h1 a (hf.over h)
theorem JC.re {d : Nat} {x : Code} {v v' : Value} (h : look σ d = some v) (hv : v = v') (h1 : JC c ((d, v') :: σ) H x Q) : JC c σ H x Q := by
  subst hv; exact fun a w hf hw => h1 a w (hf.over h) hw
theorem JQ.re {d : Nat} {e : Exit} {v v' : Value} (h : look σ d = some v) (hv : v = v') (h1 : JQ c ((d, v') :: σ) H Q e) : JQ c σ H Q e := by
  subst hv; exact fun a w hf hw => h1 a w (hf.over h) hw
theorem Upd.same {b : Nat} {o : Obj} {H H' : Blocks} (hu : Upd b o o H H') : H' = H := by
  induction hu with
  | here => rfl
  | there _ ih => rw [ih]
theorem JL.reH {b : Nat} {o o' : Obj} {H' : Blocks} (hu : Upd b o o' H H') (ho : o = o') (h1 : JL c ops σ H' l Q) : JL c ops σ H l Q := by
  subst ho; rw [hu.same] at h1; exact h1
theorem JC.reH {b : Nat} {o o' : Obj} {H' : Blocks} {x : Code} (hu : Upd b o o' H H') (ho : o = o') (h1 : JC c σ H' x Q) : JC c σ H x Q := by
  subst ho; rw [hu.same] at h1; exact h1
theorem JQ.reH {b : Nat} {o o' : Obj} {H' : Blocks} {e : Exit} (hu : Upd b o o' H H') (ho : o = o') (h1 : JQ c σ H' Q e) : JQ c σ H Q e := by
  subst ho; rw [hu.same] at h1; exact h1

/-! ### The function's entry and its end -/
def slots0 : Nat → List Value → Slots
  | _, [] => []
  | k, v :: vs => (k, v) :: slots0 (k + 1) vs

theorem look_slots0 : ∀ (vs : List Value) (k t : Nat) (v : Value), look (slots0 k vs) t = some v → k ≤ t ∧ vs[t - k]? = some v
  | [], _, _, _, h => by cases h
  | u :: vs, k, t, v, h => by
    rw [slots0, look_cons] at h
    by_cases e : k = t
    · rw [if_pos e] at h; cases h; subst e; simp
    · rw [if_neg e] at h
      obtain ⟨h1, h2⟩ := look_slots0 vs (k + 1) t v h
      have e2 : t - k = (t - (k + 1)) + 1 := by omega
      exact ⟨by omega, by rw [e2, List.getElem?_cons_succ]; exact h2⟩

theorem enter {P : Program} {f : FuncId} {fn : Func} {x : Code} {vs : List Value} {w : World} {R : Ending → World → Prop} {n : Nat}
    (hf : P.funcs[f]? = some fn) (hb : fn.body = some x) (hn : fn.ntmps = n) (hle : Nat.ble vs.length n = true)
    (h : JC ⟨P, none, n, [], w⟩ (slots0 0 vs) [] x (bodyPost P fn R)) : Calls P f vs.toArray w R := by
  refine calls_of_wp hf hb ?_
  refine (wpIn_wide (n := 7)).1 ?_
  refine h _ w ⟨?_, rfl, ?_⟩ (Hp.start w)
  · have := Nat.le_of_ble_eq_true hle
    simp [hn]; omega
  · intro t v hv
    obtain ⟨_, h2⟩ := look_slots0 vs 0 t v hv
    have hlt : t < vs.length := (List.getElem?_eq_some_iff.1 h2).1
    rw [Array.getElem?_append_left (by simpa using hlt)]
    simpa using h2

/-- The same for a function that writes its caller's blocks (a closure): seen from the caller's start. -/
theorem enterAt {P : Program} {f : FuncId} {fn : Func} {x : Code} {vs : List Value} {w0 w : World} {H : Blocks} {R : Ending → World → Prop} {n : Nat}
    (hf : P.funcs[f]? = some fn) (hb : fn.body = some x) (hn : fn.ntmps = n) (hle : Nat.ble vs.length n = true) (hw : Hp w0 H w)
    (h : JC ⟨P, none, n, [], w0⟩ (slots0 0 vs) H x (bodyPost P fn R)) : Calls P f vs.toArray w R := by
  refine calls_of_wp hf hb ?_
  refine (wpIn_wide (n := 7)).1 ?_
  refine h _ w ⟨?_, rfl, ?_⟩ hw
  · have := Nat.le_of_ble_eq_true hle
    simp [hn]; omega
  · intro t v hv
    obtain ⟨_, h2⟩ := look_slots0 vs 0 t v hv
    have hlt : t < vs.length := (List.getElem?_eq_some_iff.1 h2).1
    rw [Array.getElem?_append_left (by simpa using hlt)]
    simpa using h2

def aggB (d : TypeDesc) : Bool := match d with | .struct _ | .array _ _ => true | _ => false

/-- What one result variable reads as. -/
inductive Rv (P : Program) (σ : Slots) (H : Blocks) : ResultVar → Value → Prop
  | tmp {t : Tmp} {v : Value} (h : look σ t = some v) : Rv P σ H (.tmp t) v
  | agg {p : Tmp} {ty t : TypeId} {b : Nat} {cs : Array Value} {fr : Nat × Nat} {d : TypeDesc} (h : look σ p = some (.pointer (some ⟨b, 0, none⟩))) (hb : (b, Obj.cells cs t fr) ∈ H)
      (hu : P.underlying ty = some d) (hd : aggB d = true) {k : Nat} (hs : ∀ w, (sizeOf ty).run P w = .ok k w) (hk : cs.size = k) : Rv P σ H (.cell p ty) (.agg cs)
  | one {p : Tmp} {ty t : TypeId} {b : Nat} {v : Value} {fr : Nat × Nat} {d : TypeDesc} (h : look σ p = some (.pointer (some ⟨b, 0, none⟩))) (hb : (b, Obj.cells #[v] t fr) ∈ H)
      (hu : P.underlying ty = some d) (hd : aggB d = false) : Rv P σ H (.cell p ty) v

def rvSem (tmps : Array Value) : ResultVar → Sem Value
  | .tmp t => pure (tmps.getD t undef)
  | .cell a t => do loadVar t (← asAddr (tmps.getD a undef))

theorem results_eq (fn : Func) (tmps : Array Value) : results fn tmps = (do
  let vs ← fn.results.mapM (rvSem tmps)
  pure (if h : vs.size = 1 then vs[0] else .tuple vs)) := rfl

theorem run_isAgg {P : Program} {ty : TypeId} {d : TypeDesc} {w : World} (hu : P.underlying ty = some d) : (isAgg ty).run P w = .ok (aggB d) w := by
  cases d <;> simp [isAgg, run_underlying hu, aggB]

theorem run_loadVar_one {P : Program} {ty : TypeId} {d : TypeDesc} {w : World} {a : Addr} {v : Value} (hu : P.underlying ty = some d) (hd : aggB d = false)
    (hc : w.cell? a = some v) : (loadVar ty a).run P w = .ok v w := by
  simp only [loadVar, Sem.run_bind, run_isAgg hu, hd, Result.andThen_ok]
  simp [run_load, hc]

theorem info_of_size {P : Program} {ty : TypeId} {k : Nat} {w : World} (h : (sizeOf ty).run P w = .ok k w) : (P.info? ty).map (·.size) = some k := by
  cases hi : P.info? ty with
  | none => simp [sizeOf, typeInfo, hi] at h
  | some i => simp [sizeOf, typeInfo, hi] at h; simp [h]

theorem run_loadVar_rowB {P : Program} {w : World} {g : Nat} {t ty : TypeId} {cs : Array Value} {fr : Nat × Nat} {d : TypeDesc} (hg : w.heap[g]? = some (.cells cs t fr))
    (hu : P.underlying ty = some d) (hd : aggB d = true) (hi : (P.info? ty).map (·.size) = some cs.size) : (loadVar ty ⟨g, 0, none⟩).run P w = .ok (.agg cs) w := by
  cases d with
  | struct fs => exact run_loadVar_row w g t ty cs fr _ hg hu rfl hi
  | array n e => exact run_loadVar_row w g t ty cs fr _ hg hu rfl hi
  | _ => simp [aggB] at hd

theorem Rv.run {P : Program} {r : ResultVar} {v : Value} {a : Act} {w : World} {n : Nat} {ds : List Deferred} {w0 : World} (h : Rv P σ H r v) (hf : Fr n ds σ a) (hw : Hp w0 H w) : (rvSem a.tmps r).run P w = .ok v w := by
  cases h with
  | tmp h =>
    have := hf.get _ _ h
    simp [rvSem, Array.getD_eq_getD_getElem?, this]
  | agg h hb hu hd hs hk =>
    have := hf.get _ _ h
    simp only [rvSem, Array.getD_eq_getD_getElem?, this, Option.getD_some]
    simp only [Sem.run_bind]
    have e : ∀ b, (asAddr (.pointer (some b))).run P w = .ok b w := fun b => by simp [asAddr]
    rw [e]
    exact run_loadVar_rowB (hw.get hb) hu hd (by rw [info_of_size (hs w), hk])
  | one h hb hu hd =>
    have := hf.get _ _ h
    simp only [rvSem, Array.getD_eq_getD_getElem?, this, Option.getD_some]
    simp only [Sem.run_bind]
    have e : ∀ b, (asAddr (.pointer (some b))).run P w = .ok b w := fun b => by simp [asAddr]
    rw [e]
    refine run_loadVar_one hu hd ?_
    simp [World.cell?, hw.get hb]

/-- The end of a function with one result. -/
theorem JQ.end1 {P : Program} {fn : Func} {w0 : World} {n : Nat} {r : Option Nat} {H' : Blocks} {Y : Value → Blocks → Prop} {r1 : ResultVar} {v : Value} {e : Exit} (he : e = .ret ∨ e = .normal)
    (hr : fn.results = #[r1]) (h1 : Rv P σ H r1 v) (hs : Sub H' H) (hY : Y v H') :
    JQ ⟨P, r, n, [], w0⟩ σ H (bodyPost P fn (Ret w0 Y)) e := fun a w hf hw => by
  have : a.defers = [] ∧ ∃ v, (results fn a.tmps).run P w = .ok v w ∧ Ret w0 Y (.returned v) w := by
    refine ⟨hf.defers, v, ?_, v, H', rfl, hw.sub hs, hY⟩
    rw [results_eq, hr]
    simp [Rv.run h1 hf hw]
  rcases he with rfl | rfl <;> exact this

theorem JQ.end0 {P : Program} {fn : Func} {w0 : World} {n : Nat} {r : Option Nat} {H' : Blocks} {Y : Value → Blocks → Prop} {e : Exit} (he : e = .ret ∨ e = .normal)
    (hr : fn.results = #[]) (hs : Sub H' H) (hY : Y (.tuple #[]) H') :
    JQ ⟨P, r, n, [], w0⟩ σ H (bodyPost P fn (Ret w0 Y)) e := fun a w hf hw => by
  have : a.defers = [] ∧ ∃ v, (results fn a.tmps).run P w = .ok v w ∧ Ret w0 Y (.returned v) w := by
    refine ⟨hf.defers, .tuple #[], ?_, _, H', rfl, hw.sub hs, hY⟩
    rw [results_eq, hr]
    simp
  rcases he with rfl | rfl <;> exact this

theorem JQ.end2 {P : Program} {fn : Func} {w0 : World} {n : Nat} {r : Option Nat} {H' : Blocks} {Y : Value → Blocks → Prop} {r1 r2 : ResultVar} {v1 v2 : Value} {e : Exit} (he : e = .ret ∨ e = .normal)
    (hr : fn.results = #[r1, r2]) (h1 : Rv P σ H r1 v1) (h2 : Rv P σ H r2 v2) (hs : Sub H' H) (hY : Y (.tuple #[v1, v2]) H') :
    JQ ⟨P, r, n, [], w0⟩ σ H (bodyPost P fn (Ret w0 Y)) e := fun a w hf hw => by
  have : a.defers = [] ∧ ∃ v, (results fn a.tmps).run P w = .ok v w ∧ Ret w0 Y (.returned v) w := by
    refine ⟨hf.defers, .tuple #[v1, v2], ?_, _, H', rfl, hw.sub hs, hY⟩
    rw [results_eq, hr]
    simp [Rv.run h1 hf hw, Rv.run h2 hf hw]
  rcases he with rfl | rfl <;> exact this

theorem JQ.end3 {P : Program} {fn : Func} {w0 : World} {n : Nat} {r : Option Nat} {H' : Blocks} {Y : Value → Blocks → Prop} {r1 r2 r3 : ResultVar} {v1 v2 v3 : Value} {e : Exit} (he : e = .ret ∨ e = .normal)
    (hr : fn.results = #[r1, r2, r3]) (h1 : Rv P σ H r1 v1) (h2 : Rv P σ H r2 v2) (h3 : Rv P σ H r3 v3) (hs : Sub H' H) (hY : Y (.tuple #[v1, v2, v3]) H') :
    JQ ⟨P, r, n, [], w0⟩ σ H (bodyPost P fn (Ret w0 Y)) e := fun a w hf hw => by
  have : a.defers = [] ∧ ∃ v, (results fn a.tmps).run P w = .ok v w ∧ Ret w0 Y (.returned v) w := by
    refine ⟨hf.defers, .tuple #[v1, v2, v3], ?_, _, H', rfl, hw.sub hs, hY⟩
    rw [results_eq, hr]
    simp [Rv.run h1 hf hw, Rv.run h2 hf hw, Rv.run h3 hf hw]
  rcases he with rfl | rfl <;> exact this

/-! ### A region that draws its order and only reads -/
theorem JW.nil {G : Act → Prop} (h : ∀ a, Fr c.n c.ds σ a → G a) : JW c ops σ H [] G := h
theorem JW.nilQ (h : JQ c σ H Q .normal) : JW c ops σ H [] (fun a' => ∀ w', Hp c.w0 H w' → Q .normal a' w') := fun a hf w hw => h a w hf hw

theorem JW.val {G : Act → Prop} {d : Nat} {v : Value} (hd : o.dst = some d) (hdn : Nat.blt d c.n = true) (g : Gd ops σ o.guard true) (e : Ev c σ H o v)
    (h : JW c ops ((d, v) :: σ) H l G) : JW c ops σ H (o :: l) G := fun a hf => by
  unfold wpQuiet
  rw [if_pos (g.wanted hf)]
  refine ⟨v, fun w hw => ?_, h _ (by rw [hd]; exact hf.put (Nat.le_of_ble_eq_true hdn) v)⟩
  unfold Oper.quietAt
  rw [e a w hf hw]
  exact ⟨rfl, rfl⟩

theorem JW.skip {G : Act → Prop} {d : Nat} (hd : o.dst = some d) (hdn : Nat.blt d c.n = true) (g : Gd ops σ o.guard false)
    (h : JW c ops ((d, undef) :: σ) H l G) : JW c ops σ H (o :: l) G := fun a hf => by
  unfold wpQuiet
  rw [if_neg (by rw [g.wanted hf]; simp)]
  exact h _ (by rw [hd]; exact hf.put (Nat.le_of_ble_eq_true hdn) _)

theorem JW.call {G : Act → Prop} {d f : Nat} {xs : List Operand} {ats : Array TypeId} {ty : TypeId} {pos : String} {af : Array Edge} {gd : Option (Nat × Bool)} {vs : List Value} {v : Value}
    (hdn : Nat.blt d c.n = true) (g : Gd ops σ gd true) (hx : evs σ xs = some vs)
    (hent : ∀ args w, (callFunc f args).run c.P w = .ok (.enter f args) w)
    (hc : ∀ w, Hp c.w0 H w → Calls c.P f vs.toArray w (Ret w fun v' _ => v' = v))
    (h : JW c ops ((d, v) :: σ) H l G) :
    JW c ops σ H ({ dst := some d, op := .call { callee := .value (.func f), args := xs.toArray, argTypes := ats }, type := ty, pos := pos, after := af, guard := gd } :: l) G := fun a hf => by
  unfold wpQuiet
  rw [if_pos (g.wanted hf)]
  refine ⟨v, fun w hw => ?_, h _ (hf.put (Nat.le_of_ble_eq_true hdn) v)⟩
  unfold Oper.quietAt
  have e1 : execOp a.eval { dst := some d, op := .call { callee := .value (.func f), args := xs.toArray, argTypes := ats }, type := ty, pos := pos, after := af, guard := gd } = callFunc f (#[] ++ xs.toArray.map a.eval ++ #[]) := rfl
  have h2 := hf.evs hx
  rw [e1, hent]
  refine ⟨rfl, ?_⟩
  simp only [List.map_toArray, h2, Array.empty_append, Array.append_empty]
  exact (Ret.lift hw (hc w hw)).mono fun e w' ⟨v', H', he, h1, H1, e2, hv⟩ => by
    subst hv
    subst e2
    exact ⟨he, h1.below, fun x hx => h1.blk x (List.mem_append_right _ hx), (List.pairwise_append.1 h1.apart).2.1, h1.mono⟩
end
end Go.Proofs.YtebinlinhmohbaaDoor
