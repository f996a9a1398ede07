/-
  Several small texts in one: Con, Pop, Bits, Down, Pair, Turn.
-/
import Derived.Test.YtopaednfjjjnbaaDoorPackBHd
namespace Go.Proofs.YtopaednfjjjnbaaDoor
open Go

/-- The proof of the first m leaves of a list. -/
def proofR (l : List Dig) (m : Nat) (fr : Bool) : List Dig :=
  if h : m = l.length ∨ l.length < 2 then (if fr then [] else [rootR l])
  else if m ≤ bel l.length then proofR (l.take (bel l.length)) m fr ++ [rootR (l.drop (bel l.length))]
  else proofR (l.drop (bel l.length)) (m - bel l.length) false ++ [rootR (l.take (bel l.length))]
  termination_by l.length
  decreasing_by
    · have := bel_lt (n := l.length) (by omega); rw [List.length_take]; omega
    · have := bel_pos l.length; rw [List.length_drop]; omega
/-- Its length. -/
def stepsC (m n : Nat) (fr : Bool) : Nat :=
  if h : m = n ∨ n < 2 then (if fr then 0 else 1) else if m ≤ bel n then stepsC m (bel n) fr + 1 else stepsC (m - bel n) (n - bel n) false + 1
  termination_by n
  decreasing_by
    · exact bel_lt (by omega)
    · have := bel_pos n; omega
/-- Following a proof: the old root and the new one. -/
def ledC (m n : Nat) (fr : Bool) (was : Dig) (p : List Dig) : Dig × Dig :=
  if h : m = n ∨ n < 2 then (if fr then (was, was) else (p.headD zeroD, p.headD zeroD))
  else if m ≤ bel n then ((ledC m (bel n) fr was p.dropLast).1, nodeD (ledC m (bel n) fr was p.dropLast).2 (p.getLastD zeroD))
  else (nodeD (p.getLastD zeroD) (ledC (m - bel n) (n - bel n) false was p.dropLast).1, nodeD (p.getLastD zeroD) (ledC (m - bel n) (n - bel n) false was p.dropLast).2)
  termination_by n
  decreasing_by
    all_goals first | exact bel_lt (by omega) | (have := bel_pos n; omega)
/-! ### Peaks -/
def overR (l : List Dig) : List Dig :=
  if h : l.length = 0 then [] else rootR (l.take (bel (l.length + 1))) :: overR (l.drop (bel (l.length + 1)))
  termination_by l.length
  decreasing_by
    have := bel_pos (l.length + 1); rw [List.length_drop]; omega
def onesR (n : Nat) : Nat :=
  if h : n = 0 then 0 else n % 2 + onesR (n / 2)
  termination_by n
  decreasing_by omega
def withR (p : List Dig) (n : Nat) (x : Dig) : List Dig :=
  if h : n % 2 = 0 then p ++ [x] else withR p.dropLast (n / 2) (nodeD (p.getLastD zeroD) x)
  termination_by n
  decreasing_by omega
def prootR : List Dig → Dig
  | [] => sumD
  | [x] => x
  | x :: y :: r => nodeD x (prootR (y :: r))
end Go.Proofs.YtopaednfjjjnbaaDoor
namespace Go.Proofs.YtopaednfjjjnbaaDoor
open Go

def pop64 (x : UInt64) : UInt64 :=
  let x1 := ((x >>> 1) &&& 0x5555555555555555) + (x &&& 0x5555555555555555)
  let x2 := ((x1 >>> 2) &&& 0x3333333333333333) + (x1 &&& 0x3333333333333333)
  let x3 := ((x2 >>> 4) + x2) &&& 0x0f0f0f0f0f0f0f0f
  let x4 := x3 + (x3 >>> 8)
  let x5 := x4 + (x4 >>> 16)
  let x6 := x5 + (x5 >>> 32)
  x6 &&& 127
def onesF : Nat → Nat → Nat
  | 0, _ => 0
  | f + 1, n => if n = 0 then 0 else n % 2 + onesF f (n / 2)
end Go.Proofs.YtopaednfjjjnbaaDoor
namespace Go.Proofs.YtopaednfjjjnbaaDoor
open Go Go.RowKit

section
variable {P : Program} {T : TypeId}
end
section
variable {c : Cx} {σ : Slots} {H : Blocks} {ty : TypeId} {pos : String} {af : Array Edge} {gd : Option (Nat × Bool)} {dst : Option Nat}
end
def len8 (n : Nat) : Nat := if n = 0 then 0 else Nat.log2 n + 1
def pop6 (x : UInt64) : UInt64 :=
  let x1 := ((x >>> 1) &&& 0x5555555555555555) + (x &&& 0x5555555555555555)
  let x2 := ((x1 >>> 2) &&& 0x3333333333333333) + (x1 &&& 0x3333333333333333)
  let x3 := ((x2 >>> 4) + x2) &&& 0x0f0f0f0f0f0f0f0f
  let x4 := x3 + (x3 >>> 8)
  let x5 := x4 + (x4 >>> 16)
  x5 + (x5 >>> 32)
end Go.Proofs.YtopaednfjjjnbaaDoor
namespace Go.Proofs.YtopaednfjjjnbaaDoor
open Go

structure Tn where
  fm : Nat
  n : Nat
  k : Nat
  rt : Bool
/-- The turns from the whole list to the part that the prefix ends with. -/
def downW (m n fm : Nat) : List Tn :=
  if h : m = n ∨ n < 2 then [] else if m ≤ bel n then ⟨fm, n, bel n, false⟩ :: downW m (bel n) fm else ⟨fm, n, bel n, true⟩ :: downW (m - bel n) (n - bel n) (fm + bel n)
  termination_by n
  decreasing_by
    · exact bel_lt (by omega)
    · have := bel_pos n; omega
/-- Whether that part lies at the front. -/
def downF (m n : Nat) (fr : Bool) : Bool :=
  if h : m = n ∨ n < 2 then fr else if m ≤ bel n then downF m (bel n) fr else downF (m - bel n) (n - bel n) false
  termination_by n
  decreasing_by
    · exact bel_lt (by omega)
    · have := bel_pos n; omega
/-- Where that part begins. -/
def downA (m n fm : Nat) : Nat :=
  if h : m = n ∨ n < 2 then fm else if m ≤ bel n then downA m (bel n) fm else downA (m - bel n) (n - bel n) (fm + bel n)
  termination_by n
  decreasing_by
    · exact bel_lt (by omega)
    · have := bel_pos n; omega
/-- The other part of a turn. -/
def otherD (L : List Dig) (t : Tn) : List Dig := if t.rt then (L.drop t.fm).take t.k else (L.drop (t.fm + t.k)).take (t.n - t.k)
/-- One step of following. -/
def stepB (x : Dig × Dig) (z : Tn × Dig) : Dig × Dig := if z.1.rt then (nodeD z.2 x.1, nodeD z.2 x.2) else (x.1, nodeD x.2 z.2)
end Go.Proofs.YtopaednfjjjnbaaDoor
namespace Go.Proofs.YtopaednfjjjnbaaDoor
open Go Go.RowKit

def fpl (ps : List (Dig × Dig)) : List Dig := ps.flatMap fun p => [p.1, p.2]
def fp (ps : List (Dig × Dig)) : List Value := fl (fpl ps)
section
variable {c : Cx} {σ : Slots} {H : Blocks} {ty : TypeId} {pos : String} {af : Array Edge} {gd : Option (Nat × Bool)} {dst : Option Nat}
end
end Go.Proofs.YtopaednfjjjnbaaDoor
namespace Go.Proofs.YtopaednfjjjnbaaDoor
open Go Go.RowKit

def tcl (t : Tn) : List Value := [.int .i64 (t.fm : Int), .int .i64 (t.n : Int), .int .i64 (t.k : Int), .bool t.rt]
def ft (ts : List Tn) : List Value := ts.flatMap tcl
section
variable {c : Cx} {σ : Slots} {H : Blocks} {ty : TypeId} {pos : String} {af : Array Edge} {gd : Option (Nat × Bool)} {dst : Option Nat}
end
section
variable {c : Cx} {σ : Slots} {H : Blocks} {ops : Array Oper}
theorem run_clo {σ : Slots} {c : Cx} {a : Act} {dst : Option Nat} {g : Nat} {f : Operand} {pre post : List Value} {xs : List Operand} {ats : Array TypeId} {vs : List Value} {ty : TypeId} {pos : String} {af : Array Edge} {gd : Option (Nat × Bool)} (hfr : Fr c.n c.ds σ a)
    (hf : ev σ f = some (.func (.func g) pre.toArray post.toArray)) (hx : evs σ xs = some vs) (hent : ∀ args w, (callFunc g args).run c.P w = .ok (.enter g args) w) (w : World) :
    (execOp a.eval { dst := dst, op := .call { callee := .value f, args := xs.toArray, argTypes := ats }, type := ty, pos := pos, after := af, guard := gd }).run c.P w = .ok (.enter g (pre ++ vs ++ post).toArray) w := by
  have e1 := hfr.ev hf
  have e2 := hfr.evs hx
  have key : execOp a.eval { dst := dst, op := .call { callee := .value f, args := xs.toArray, argTypes := ats }, type := ty, pos := pos, after := af, guard := gd } =
      (do let d ← resolve a.eval { callee := .value f, args := xs.toArray, argTypes := ats } ty; invoke d.target d.args) := rfl
  rw [key]
  simp only [resolve, e1, List.map_toArray, e2, Deferred.ofValue, Sem.run_bind, Sem.run_pure, Result.andThen_ok, invoke]
  have := hent (pre ++ vs ++ post).toArray w
  simpa using this
theorem JW.callCloV {G : Act → Prop} {d g : Nat} {f : Operand} {pre post : List Value} {xs : List Operand} {ats : Array TypeId} {ty : TypeId} {pos : String} {af : Array Edge} {gd : Option (Nat × Bool)} {vs : List Value} {v : Value} {l : List Oper}
    (hdn : Nat.blt d c.n = true) (hg : Gd ops σ gd true) (hf : ev σ f = some (.func (.func g) pre.toArray post.toArray)) (hx : evs σ xs = some vs)
    (hent : ∀ args w, (callFunc g args).run c.P w = .ok (.enter g args) w)
    (hc : ∀ w, Hp c.w0 H w → Calls c.P g (pre ++ vs ++ post).toArray w (Ret w fun v' _ => v' = v))
    (h : JW c ops ((d, v) :: σ) H l G) :
    JW c ops σ H ({ dst := some d, op := .call { callee := .value f, args := xs.toArray, argTypes := ats }, type := ty, pos := pos, after := af, guard := gd } :: l) G := fun a hfr => by
  unfold wpQuiet
  rw [if_pos (hg.wanted hfr)]
  refine ⟨v, fun w hw => ?_, h _ (hfr.put (Nat.le_of_ble_eq_true hdn) v)⟩
  unfold Oper.quietAt
  rw [run_clo hfr hf hx hent w]
  refine ⟨rfl, ?_⟩
  exact (Ret.lift hw (hc w hw)).mono fun e w' ⟨v', H', he, h1, H1, e2, hv⟩ => by
    subst hv
    subst e2
    exact ⟨he, h1.below, fun x hx => h1.blk x (List.mem_append_right _ hx), (List.pairwise_append.1 h1.apart).2.1⟩
end
end Go.Proofs.YtopaednfjjjnbaaDoor
