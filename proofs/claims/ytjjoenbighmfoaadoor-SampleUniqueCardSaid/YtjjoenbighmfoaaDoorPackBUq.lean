/-
  Several small texts in one: Tree, Dig, Short, Ent, Head, Own, Map.
-/
import Derived.Test.YtjjoenbighmfoaaDoorPackAUq
import Derived.ChangeKeysEq
import Derived.MapKept
namespace Go.Proofs.YtjjoenbighmfoaaDoor

abbrev Dig := { l : List UInt8 // l.length = 32 }
def nodeD (a b : Dig) : Dig := ⟨sha (1 :: (a.1 ++ b.1)), sha_length _⟩
def sumD : Dig := ⟨sha [], sha_length _⟩
def zeroD : Dig := ⟨List.replicate 32 0, rfl⟩
instance : Inhabited Dig := ⟨zeroD⟩

/-! ### The greatest power of two below -/
def bel (n : Nat) : Nat := 2 ^ Nat.log2 (n - 1)
/-! ### Levels -/
def up : List Dig → List Dig
  | a :: b :: l => nodeD a b :: up l
  | l => l
/-! ### Roots -/
def rootF : Nat → List Dig → Dig
  | 0, _ => sumD
  | f + 1, l => match l with
    | [] => sumD
    | [x] => x
    | l => nodeD (rootF f (l.take (bel l.length))) (rootF f (l.drop (bel l.length)))
def rootR (l : List Dig) : Dig := rootF l.length l
/-! ### Paths -/
def pathF : Nat → List Dig → Nat → List Dig
  | 0, _, _ => []
  | f + 1, l, i => if l.length ≤ 1 then [] else if i < bel l.length then pathF f (l.take (bel l.length)) i ++ [rootR (l.drop (bel l.length))] else pathF f (l.drop (bel l.length)) (i - bel l.length) ++ [rootR (l.take (bel l.length))]
def pathR (l : List Dig) (i : Nat) : List Dig := pathF l.length l i
/-- The other place of a pair. -/
def oth (i : Nat) : Nat := if i % 2 = 1 then i - 1 else i + 1
def sib (l : List Dig) (i : Nat) : List Dig := (l[oth i]?).toList
/-! ### Lengths -/
def stepsF : Nat → Nat → Nat → Nat
  | 0, _, _ => 0
  | f + 1, i, n => if n ≤ 1 then 0 else if i < bel n then stepsF f i (bel n) + 1 else stepsF f (i - bel n) (n - bel n) + 1
def stepsR (i n : Nat) : Nat := stepsF n i n
/-- Whether there is a sibling. -/
def isT (i n : Nat) : Bool := decide (i % 2 = 1 ∨ i + 1 < n)
/-! ### Following -/
def ledF : Nat → Dig → Nat → Nat → List Dig → Dig
  | 0, x, _, _, _ => x
  | f + 1, x, i, n, p => if n ≤ 1 then x else if i < bel n then nodeD (ledF f x i (bel n) p.dropLast) (p.getLastD zeroD) else nodeD (p.getLastD zeroD) (ledF f x (i - bel n) (n - bel n) p.dropLast)
def ledR (x : Dig) (i n : Nat) (p : List Dig) : Dig := ledF n x i n p
/-- One pair hashed. -/
def stepD (i : Nat) (x y : Dig) : Dig := if i % 2 = 1 then nodeD y x else nodeD x y
/-! ### Halving, so many times -/
def it {α : Type} (f : α → α) : Nat → α → α
  | 0, x => x
  | k + 1, x => f (it f k x)
def hn (n k : Nat) : Nat := it (fun n => (n + 1) / 2) k n
def lgF : Nat → Nat → Nat
  | 0, _ => 0
  | f + 1, n => if n ≤ 1 then 0 else lgF f ((n + 1) / 2) + 1
def lg (n : Nat) : Nat := lgF n n
def lv (l : List Dig) (k : Nat) : List Dig := it up k l
def dv (i k : Nat) : Nat := it (fun i => i / 2) k i
end Go.Proofs.YtjjoenbighmfoaaDoor
namespace Go.Proofs.YtjjoenbighmfoaaDoor
open Go Go.RowKit

def fl (ds : List Dig) : List Value := ds.flatMap fun d => d.1.map u8
theorem fl_one (ds : List Dig) : ∀ u ∈ fl ds, u.oneCell' = true := by
  intro u hu
  obtain ⟨d, _, hd⟩ := List.mem_flatMap.1 hu
  exact u8s_one d.1 u hd
theorem dig_size (d : Dig) : (arr8 d.1).size = 32 := by rw [arr8_size, d.2]
/-- A slice of digests. -/
abbrev Dl (w : World) (oa : Option Addr) (cap : Nat) (ds : List Dig) : Prop := Cs w oa ds.length cap (fl ds)
/-- Where a slice of digests lies: as found, or in a row of the call's own. -/
def Lv (w0 : World) (e : TypeId) (oa : Option Addr) (cap : Nat) (ds : List Dig) (O : Blocks) : Prop :=
  Dl w0 oa cap ds ∨ ∃ r : Row, oa = some ⟨r.g, 0, none⟩ ∧ cap = r.cap ∧ (r.g, Obj.cells r.cs e (0, 0)) ∈ O ∧ Row.ok 32 ds.length (fl ds) (some r)
theorem Lv.cs {w0 w : World} {e : TypeId} {oa : Option Addr} {cap : Nat} {ds : List Dig} {O H : Blocks} (h : Lv w0 e oa cap ds O) (hw : Hp w0 H w) (hm : ∀ p ∈ O, p ∈ H) : Dl w oa cap ds := by
  rcases h with h | ⟨r, rfl, rfl, hr, hok⟩
  · exact h.old hw
  · obtain ⟨oa, cap, e1, _, hC⟩ := Row.vw (e := e) hok
    rw [Row.v] at e1
    obtain ⟨rfl, _, rfl⟩ := Value.slice.inj e1
    exact hC w hw (fun p hp => by
      have : p = (r.g, Obj.cells r.cs e (0, 0)) := by simpa [Row.b] using hp
      rw [this]; exact hm _ hr)
theorem Lv.mono {w0 : World} {e : TypeId} {oa : Option Addr} {cap : Nat} {ds : List Dig} {O O' : Blocks} (h : Lv w0 e oa cap ds O) (hm : ∀ p ∈ O, p ∈ O') : Lv w0 e oa cap ds O' := by
  rcases h with h | ⟨r, h1, h2, h3, h4⟩
  · exact .inl h
  · exact .inr ⟨r, h1, h2, hm _ h3, h4⟩
theorem Lv.row {w0 : World} {e : TypeId} {ds : List Dig} {r : Row} (h : Row.ok 32 ds.length (fl ds) (some r)) : Lv w0 e (some ⟨r.g, 0, none⟩) r.cap ds (Row.b e (some r)) := .inr ⟨r, rfl, rfl, by simp [Row.b], h⟩
theorem Lv.get_some {w0 : World} {e : TypeId} {oa : Option Addr} {cap : Nat} {ds : List Dig} {O : Blocks} (h : Lv w0 e oa cap ds O) (hl : 0 < ds.length) : ∃ a, oa = some a := by
  rcases h with h | ⟨r, rfl, _⟩
  · exact Cs.get_some h hl
  · exact ⟨_, rfl⟩
theorem Lv.le {w0 : World} {e : TypeId} {oa : Option Addr} {cap : Nat} {ds : List Dig} {O : Blocks} (h : Lv w0 e oa cap ds O) : ds.length ≤ cap := by
  rcases h with h | ⟨r, _, rfl, _, h⟩
  · exact h.le
  · exact h.2.1

/-! ### Parts of several cells -/
def setR (cs : Array Value) (off : Nat) : List Value → Array Value
  | [] => cs
  | v :: vs => setR (cs.setIfInBounds off v) (off + 1) vs
theorem setR_fold (vs : List Value) : ∀ (cs : Array Value) (off n : Nat), (vs.zipIdx n).foldl (fun cs (c, j) => cs.setIfInBounds (off + j) c) cs = setR cs (off + n) vs := by
  induction vs with
  | nil => intro cs off n; rfl
  | cons v vs ih =>
    intro cs off n
    rw [List.zipIdx_cons, List.foldl_cons, ih]
    rfl
theorem setR_toList (vs : List Value) : ∀ (cs : Array Value) (off : Nat), off + vs.length ≤ cs.size → (setR cs off vs).toList = cs.toList.take off ++ vs ++ cs.toList.drop (off + vs.length) := by
  induction vs with
  | nil => intro cs off _; simp [setR]
  | cons v vs ih =>
    intro cs off h
    simp only [List.length_cons] at h
    rw [setR, ih _ _ (by rw [Array.size_setIfInBounds]; omega), Array.toList_setIfInBounds]
    have hl : off < cs.toList.length := by rw [Array.length_toList]; omega
    rw [List.take_add_one, List.take_set_of_le (Nat.le_refl _), List.getElem?_set_self hl, List.drop_set_of_lt (by omega)]
    simp only [Option.toList_some, List.append_assoc, List.cons_append, List.nil_append, List.length_cons]
    rw [show off + 1 + vs.length = off + (vs.length + 1) by omega]
theorem fill_seq {s : Nat} (hs : 0 < s) : ∀ (vs : List Value) (o : Nat) (cs : Array Value), (∀ v ∈ vs, v.cells.size = s) → (o + vs.length) * s ≤ cs.size →
    ∃ cs', Instr.fill (fun i => some (i * s, s)) cs ((List.range' o vs.length).zip vs) = some cs' ∧ cs'.toList = cs.toList.take (o * s) ++ vs.flatMap (·.cells.toList) ++ cs.toList.drop ((o + vs.length) * s)
  | [], o, cs, _, _ => ⟨cs, rfl, by simp⟩
  | v :: vs, o, cs, hv, hl => by
    have h1 := hv v (List.mem_cons_self ..)
    have h2 : v.cells.toList.length = s := by rw [Array.length_toList, h1]
    rw [List.length_cons] at hl
    have e1 : (o + (vs.length + 1)) * s = (o + 1 + vs.length) * s := by congr 1; omega
    have e2 : (o + 1) * s = o * s + s := by rw [Nat.add_mul]; omega
    have e3 : (o + 1) * s ≤ (o + 1 + vs.length) * s := Nat.mul_le_mul_right _ (by omega)
    have hfold : v.cells.zipIdx.foldl (fun cs (c, j) => cs.setIfInBounds (o * s + j) c) cs = setR cs (o * s) v.cells.toList := by
      have := setR_fold v.cells.toList cs (o * s) 0
      rw [Nat.add_zero] at this
      rw [← this, ← Array.foldl_toList, Array.toList_zipIdx]
    have hset := setR_toList v.cells.toList cs (o * s) (by rw [h2]; omega)
    have hsz : (setR cs (o * s) v.cells.toList).size = cs.size := by
      rw [← Array.length_toList, hset]
      simp only [List.length_append, List.length_take, List.length_drop, Array.length_toList, h1]
      omega
    obtain ⟨cs', h3, h4⟩ := fill_seq hs vs (o + 1) (setR cs (o * s) v.cells.toList) (fun u hu => hv u (List.mem_cons_of_mem _ hu)) (by rw [hsz]; omega)
    refine ⟨cs', ?_, ?_⟩
    · rw [List.length_cons, List.range'_succ, List.zip_cons_cons, Instr.fill]
      simp only [h1]
      rw [if_neg (by simp; omega), hfold]
      exact h3
    · have e4 : o * s ≤ cs.size := by omega
      have hlen : (cs.toList.take (o * s) ++ v.cells.toList).length = (o + 1) * s := by
        rw [List.length_append, List.length_take, Array.length_toList, h2, e2, Nat.min_eq_left e4]
      rw [h4, hset, h2, List.take_left' hlen, List.drop_append, List.drop_of_length_le (by rw [hlen]; exact e3), hlen, List.drop_drop, List.nil_append, List.flatMap_cons, List.length_cons, e1]
      have e5 : o * s + s + ((o + 1 + vs.length) * s - (o + 1) * s) = (o + 1 + vs.length) * s := by omega
      rw [e5]
      simp only [List.append_assoc]
theorem fill_all {s n : Nat} (hs : 0 < s) {vs : List Value} {cs : Array Value} (hv : ∀ v ∈ vs, v.cells.size = s) (hn : vs.length = n) (hl : n * s = cs.size) :
    Instr.fill (fun i => some (i * s, s)) cs ((List.range n).zip vs) = some (vs.flatMap (·.cells.toList)).toArray := by
  subst hn
  obtain ⟨cs', h1, h2⟩ := fill_seq hs vs 0 cs hv (by rw [Nat.zero_add]; omega)
  rw [← List.range_eq_range'] at h1
  rw [h1]
  congr 1
  apply Array.toList_inj.1
  rw [h2]
  simp [hl]

section
variable {c : Cx} {σ : Slots} {H : Blocks} {Q : Post1} {ty : TypeId} {pos : String} {af : Array Edge} {gd : Option (Nat × Bool)} {dst : Option Nat}
theorem En.bsA {T e : TypeId} {n s : Nat} {parts : List (Nat × Operand)} {vs : List Value} {z : Value} (hx : evs σ (parts.map (·.2)) = some vs) (hp : parts.map (·.1) = List.range n) (hT : c.P.underlying T = some (.slice e)) (hs : ∀ w, (sizeOf e).run c.P w = .ok s w)
    (hz : ∀ w, (zeroValue e).run c.P w = .ok z w) (hv : ∀ v ∈ vs, v.cells.size = s) (hs0 : 0 < s) (hn : n * s ≤ 16777216) (hn0 : 0 < n) :
    En c σ H ⟨dst, .buildSlice T n parts.toArray, ty, pos, af, gd⟩ (fun b => .slice (some ⟨b, 0, none⟩) n n) (.cells (vs.flatMap (·.cells.toList)).toArray e (0, 0)) := by
  refine En.buildSlice (vs := (List.range n).zip vs) ?_ ?_
  · intro a hf
    rw [parts_zip, hf.evs hx, hp]
  · intro w
    have hl : vs.length = n := by
      have h1 := congrArg List.length hp
      rw [List.length_map, List.length_range] at h1
      have h2 : ∀ (xs : List Operand) (us : List Value), evs σ xs = some us → us.length = xs.length := by
        intro xs
        induction xs with
        | nil => intro us h; simp only [evs, Option.some.injEq] at h; subst h; rfl
        | cons x xs ih =>
          intro us h
          simp only [evs] at h
          split at h
          · rename_i v ws h3 h4
            simp only [Option.some.injEq] at h
            subst h
            simp [ih ws h4]
          · cases h
      rw [h2 _ _ hx, List.length_map, h1]
    have hns : 0 < n * s := Nat.mul_pos hn0 hs0
    have hf := fill_all hs0 (cs := (Array.range (n * s)).map (z.cells[· % z.cells.size]!)) hv hl (by simp)
    have hgt : ¬ 2 ^ 24 < n * s := by omega
    have hne : ¬ n * s = 0 := by omega
    simp only [Instr.buildSlice, Sem.run_bind, run_underlying hT, Result.andThen_ok, hs w]
    rw [if_neg hgt, if_neg hne]
    all_goals simp [newRow, hz w, hf]
theorem Ev.fld {T : TypeId} {x : Operand} {b o i : Nat} (off : Nat) (hx : ev σ x = some (.pointer (some ⟨b, o, none⟩))) (h : ∀ a w, (Instr.fieldAt T (.pointer (some a)) i).run c.P w = .ok (.pointer (some (a.add off))) w) :
    Ev c σ H ⟨dst, .fieldAddr T x i, ty, pos, af, gd⟩ (.pointer (some ⟨b, o + off, none⟩)) := fun A w hf _ => by
  have e : execOp A.eval ⟨dst, .fieldAddr T x i, ty, pos, af, gd⟩ = (do pure (Next.value (← Instr.fieldAt T (A.eval x) i))) := rfl
  rw [e, hf.ev hx]
  simp only [Sem.run_bind, h, Result.andThen_ok, Sem.run_pure, add_lit]
end
/-! ### Taking an operation first, inside a round too (after Derived/OrdersIn.lean; no operation defers) -/
section
variable {P : Program} {ops : Array Oper} {md : Region.Mode} {Q : Post1} {F : Fence} {n : Nat}
theorem yieldsR {i : Nat} {o : Oper} {v : Value} {a : Act} (hnd : notDefer o = true) (hi : ops[i]? = some o) (hy : YieldsFenced P ops o v a)
    {K : Act → World → Prop} {w : World} (h : K (a.put o.dst v) w) : wpOpIn F n P ops Q i K a w := by
  unfold Go.wpOpIn
  simp only [hi]
  have hab : ∀ f, o.about P w a.eval = some f → F.fn f := fun f hf => by rw [hy.2 w] at hf; cases hf
  rcases hy.1 with ⟨hw, hv⟩ | ⟨hw, rfl⟩
  · simp only [hw, if_true, Oper.wpIn]
    refine ⟨hab, ?_⟩
    rw [Oper.semAt_eq _ _ _ (notDefer_ne hnd), hv w]
    exact h
  · simp only [hw, Bool.false_eq_true, if_false]; exact ⟨hab, h⟩
theorem wpOpIn_putR {j : Nat} {oi oj : Oper} {v : Value} (hnd : notDefer oj = true) (hj : ops[j]? = some oj) (hap : oi.apart ops oj = true)
    (hsi : ∀ cs b, oi.op ≠ .select cs b) (hsj : ∀ cs b, oj.op ≠ .select cs b)
    (hQ : ∀ c a w, Q (.panic c) (a.put oi.dst v) w → Q (.panic c) a w) {K : Act → World → Prop} {a : Act} {w : World}
    (hy : YieldsFenced P ops oi v a) (h : wpOpIn F n P ops Q j K (a.put oi.dst v) w) :
    wpOpIn F n P ops Q j (fun a' w' => YieldsFenced P ops oi v a' ∧ K (a'.put oi.dst v) w') a w := by
  obtain ⟨h1, h2, h3⟩ := Oper.apart_spec hap
  have keep : ∀ (a : Act), YieldsFenced P ops oi v a → ∀ u, YieldsFenced P ops oi v (a.put oj.dst u) := fun a hy u =>
    hy.of_same (execOp_put oi hsi a oj.dst u h3) (wanted_put oi a oj.dst u h3) (fun w => about_put oi w a oj.dst u h3)
  have keepD : ∀ d, YieldsFenced P ops oi v { a with defers := d :: a.defers } := fun d => hy.of_same rfl rfl (fun _ => rfl)
  unfold wpOpIn at *
  simp only [hj] at *
  rw [wanted_put oj a oi.dst v h1, about_put oj w a oi.dst v h1] at h
  split
  · rename_i hw
    simp only [hw, if_true] at h
    unfold Oper.wpIn at *
    rw [about_put oj w a oi.dst v h1] at h
    refine ⟨h.1, ?_⟩
    have h := h.2
    rw [Oper.semAt_eq _ _ _ (notDefer_ne hnd), execOp_put oj hsj a oi.dst v h1] at h
    rw [Oper.semAt_eq _ _ _ (notDefer_ne hnd)]
    generalize (execOp a.eval oj).run P w = r at *
    cases r with
    | ok x w' =>
      cases x <;> simp only [Oper.uponIn] at h ⊢
      case value u => exact ⟨keep a hy u, by rw [← Act.put_comm a v u h2]; exact h⟩
      case skip => exact ⟨keep a hy _, by rw [← Act.put_comm a v undef h2]; exact h⟩
      case defer d =>
        refine ⟨keep _ (keepD d) _, ?_⟩
        rw [← Act.put_comm _ v undef h2, ← Act.put_defers]
        exact h
      case enter f args =>
        refine ⟨h.1, CallsIn.mono h.2 fun e w'' he => ?_⟩
        cases e with
        | returned u => exact ⟨keep a hy u, by rw [← Act.put_comm a v u h2]; exact he⟩
        | panicked c => exact hQ _ _ _ he
        | outgrown => exact he
      case row row args => exact ⟨h.1, RowsIn.mono h.2 fun u w'' he => ⟨keep a hy u, by rw [← Act.put_comm a v u h2]; exact he⟩⟩
      case round l f tmps assign body =>
        refine ⟨h.1, RoundIn.mono h.2 fun e w'' he => ?_⟩
        cases e with
        | returned u => exact ⟨keep a hy u, by rw [← Act.put_comm a v u h2]; exact he⟩
        | panicked c => exact hQ _ _ _ he
        | outgrown => exact he
    | halt x w' =>
      cases x <;> simp only [Oper.uponIn] at h ⊢
      case panic u => exact hQ _ _ _ h
  · rename_i hw
    simp only [hw] at h
    exact ⟨h.1, keep a hy _, by rw [← Act.put_comm a v undef h2]; exact h.2⟩
theorem wpAnyIn_firstR {i : Nat} {oi : Oper} {v : Value} (hnd : allKept ops = true) (hi : ops[i]? = some oi) (hsel : ∀ (j : Nat) (o : Oper) cs b, ops[j]? = some o → o.op ≠ .select cs b)
    (hQ : ∀ c a w, Q (.panic c) (a.put oi.dst v) w → Q (.panic c) a w) :
    ∀ (fuel : Nat) (listed : Array Bool) (a : Act) (w : World),
      (∀ j oj, ops[j]? = some oj → j ≠ i → listed.getD j true = false → (∀ e ∈ oj.after, Region.binds md e = true → e.on ≠ i) → oi.apart ops oj = true) →
      i ∈ Region.ready md ops listed → YieldsFenced P ops oi v a →
      wpAnyIn F n P md ops Q fuel (listed.setIfInBounds i true) (a.put oi.dst v) w → wpAnyIn F n P md ops Q (fuel + 1) listed a w := by
  intro fuel
  induction fuel with
  | zero =>
    intro listed a w _ hr hy H
    refine ⟨fun h => (by rw [h] at hr; cases hr), fun j hj => ?_⟩
    by_cases hji : j = i
    · subst hji; exact yieldsR (allKept_spec hnd hi) hi hy H
    · have := ready_mono hj hji
      rw [H.1] at this
      cases this
  | succ fuel ih =>
    intro listed a w hfree hr hy H
    refine ⟨fun h => (by rw [h] at hr; cases hr), fun j hj => ?_⟩
    by_cases hji : j = i
    · subst hji; exact yieldsR (allKept_spec hnd hi) hi hy H
    · have h1 := H.2 j (ready_mono hj hji)
      obtain ⟨hjun, oj, hoj, hall⟩ := mem_ready.1 hj
      have hnot : ∀ e ∈ oj.after, Region.binds md e = true → e.on ≠ i := fun e he hb heq => by
        have h1 := hall e he hb
        have h0 := (mem_ready.1 hr).1
        rw [heq] at h1
        rcases Nat.lt_or_ge i listed.size with h' | h'
        · simp [h'] at h0 h1; rw [h0] at h1; cases h1
        · simp [Array.getElem?_eq_none h'] at h1
      have h2 := wpOpIn_putR (allKept_spec hnd hoj) hoj (hfree j oj hoj hji hjun hnot) (fun cs b => hsel i oi cs b hi) (fun cs b => hsel j oj cs b hoj) hQ hy h1
      have hfree' : ∀ k ok, ops[k]? = some ok → k ≠ i → (listed.setIfInBounds j true).getD k true = false →
          (∀ e ∈ ok.after, Region.binds md e = true → e.on ≠ i) → oi.apart ops ok = true := fun k ok hk hki hun hno => by
        refine hfree k ok hk hki ?_ hno
        by_cases hjk : j = k
        · subst hjk; exact hjun
        · rw [getD_set_ne true hjk] at hun; exact hun
      refine wpOpIn_mono (fun a' w' h3 => ih (listed.setIfInBounds j true) a' w' hfree' (ready_mono hr (Ne.symm hji)) h3.1 ?_) h2
      rw [Array.setIfInBounds_comm _ _ hji]
      exact h3.2
end
theorem JA.takeR {c : Cx} {ops : Array Oper} {σ : Slots} {H : Blocks} {fuel : Nat} {listed : Array Bool} {Q : Post1} {o : Oper} (i : Nat) {d : Nat} {v : Value} (hnd : allKept ops = true) (hi : ops[i]? = some o) (hd : o.dst = some d) (hdn : Nat.blt d c.n = true) (hs : Region.noSelect ops = true) (hf : Region.free .any ops listed i = true) (hr : (Region.ready .any ops listed).contains i = true)
    (hQ : ∀ ch a w, Q (.panic ch) (a.put o.dst v) w → Q (.panic ch) a w) (hab : ∀ w (a : Act), o.about c.P w a.eval = none)
    (g : Gd ops σ o.guard true) (e : ∀ w0, Ev { c with w0 := w0 } σ [] o v) (h : JA c ops ((d, v) :: σ) H fuel (listed.setIfInBounds i true) Q) : JA c ops σ H (fuel + 1) listed Q := fun a w hf1 hw =>
  wpAnyIn_firstR (i := i) (v := v) hnd hi (Region.noSelect_spec hs) hQ fuel listed a w (Region.free_spec hi hf) (by simpa using hr) ⟨.inl ⟨g.wanted hf1, fun w' => e w' a w' hf1 (Hp.start w')⟩, fun w' => hab w' a⟩
    (h _ _ (by rw [hd]; exact hf1.put (Nat.le_of_ble_eq_true hdn) v) hw)

theorem JO.skip {c : Cx} {ops : Array Oper} {σ : Slots} {H : Blocks} {o : Oper} {K : Act → World → Prop} {Q : Post1} {d : Nat} (hd : o.dst = some d) (hdn : Nat.blt d c.n = true) (g : Gd ops σ o.guard false) (h : J c ((d, undef) :: σ) H K) : JO c ops σ H o K Q := fun a w hf hw => by
  rw [if_neg (by rw [g.wanted hf]; simp)]
  exact ⟨fun _ _ => trivial, h _ _ (by rw [hd]; exact hf.put (Nat.le_of_ble_eq_true hdn) _) hw⟩
/-- A guard that was itself left out. -/
theorem wantU {n : Nat} {ds : List Deferred} {ops : Array Oper} {σ : Slots} {o : Oper} {j e : Nat} {b : Bool} (h : o.guard = some (j, b)) (hd : (ops[j]?).bind (·.dst) = some e) (hb : look σ e = some undef) : ∀ a, Fr n ds σ a → Region.wanted o (yielded ops a.tmps) = false := fun a hf => by
  have := hf.get _ _ hb
  simp [Region.wanted, h, yielded, hd, this, undef]
theorem JA.skipW {c : Cx} {ops : Array Oper} {σ : Slots} {H : Blocks} {fuel : Nat} {listed : Array Bool} {Q : Post1} {o : Oper} (i : Nat) {d : Nat} (hnd : allKept ops = true) (hi : ops[i]? = some o) (hd : o.dst = some d) (hdn : Nat.blt d c.n = true) (hs : Region.noSelect ops = true) (hf : Region.free .any ops listed i = true) (hr : (Region.ready .any ops listed).contains i = true)
    (hQ : ∀ ch a w, Q (.panic ch) (a.put o.dst undef) w → Q (.panic ch) a w) (hab : ∀ w (a : Act), o.about c.P w a.eval = none)
    (g : ∀ a, Fr c.n c.ds σ a → Region.wanted o (yielded ops a.tmps) = false) (h : JA c ops ((d, undef) :: σ) H fuel (listed.setIfInBounds i true) Q) : JA c ops σ H (fuel + 1) listed Q := fun a w hf1 hw =>
  wpAnyIn_firstR (i := i) (v := undef) hnd hi (Region.noSelect_spec hs) hQ fuel listed a w (Region.free_spec hi hf) (by simpa using hr) ⟨.inr ⟨by rw [g a hf1], rfl⟩, fun w' => hab w' a⟩
    (h _ _ (by rw [hd]; exact hf1.put (Nat.le_of_ble_eq_true hdn) undef) hw)
theorem JO.skipW {c : Cx} {ops : Array Oper} {σ : Slots} {H : Blocks} {o : Oper} {K : Act → World → Prop} {Q : Post1} {d : Nat} (hd : o.dst = some d) (hdn : Nat.blt d c.n = true) (g : ∀ a, Fr c.n c.ds σ a → Region.wanted o (yielded ops a.tmps) = false) (h : J c ((d, undef) :: σ) H K) : JO c ops σ H o K Q := fun a w hf hw => by
  rw [if_neg (by rw [g a hf]; simp)]
  exact ⟨fun _ _ => trivial, h _ _ (by rw [hd]; exact hf.put (Nat.le_of_ble_eq_true hdn) _) hw⟩
theorem JA.know {c : Cx} {ops : Array Oper} {σ : Slots} {H : Blocks} {fuel : Nat} {listed : Array Bool} {Q : Post1} {d : Nat} {b b' : Bool} (h : look σ d = some (.bool b')) (hb : b' = b) (h1 : JA c ops ((d, .bool b) :: σ) H fuel listed Q) : JA c ops σ H fuel listed Q := by
  subst hb; exact fun a w hf hw => h1 a w (hf.over h) hw
theorem JA.split {c : Cx} {ops : Array Oper} {σ : Slots} {H : Blocks} {fuel : Nat} {listed : Array Bool} {Q : Post1} {d : Nat} {b : Bool} (h : look σ d = some (.bool b)) (h1 : b = true → JA c ops ((d, .bool true) :: σ) H fuel listed Q) (h2 : b = false → JA c ops ((d, .bool false) :: σ) H fuel listed Q) : JA c ops σ H fuel listed Q := by
  cases b
  · exact fun a w hf hw => h2 rfl a w (hf.over h) hw
  · exact fun a w hf hw => h1 rfl a w (hf.over h) hw
end Go.Proofs.YtjjoenbighmfoaaDoor
namespace Go.Proofs.YtjjoenbighmfoaaDoor
open Go Go.RowKit

theorem Sub.k {A H : Blocks} (h : Sub A H := by first | exact Sub.all | exact Sub.of_cnt (fun a => by (try dsimp only); simp only [cntA]; omega)) : Sub A H := h
theorem Keeps.k {σ σ' : Slots} (h : Keeps σ σ' := by repeat (first | exact Keeps.nil | refine Keeps.cons rfl ?_)) : ∀ p ∈ σ', look σ p.1 = some p.2 := h.get
theorem Upd.k {b : Nat} {o o' : Obj} {H H' : Blocks} (h : Upd b o o' H H' := by repeat (first | exact .here | apply Upd.there | apply Upd.left)) : Upd b o o' H H' := h
theorem Cut.k {A H H0 : Blocks} (h : Cut A H H0 := by repeat (first | exact .last | exact .here | apply Cut.past | apply Cut.there)) : Cut A H H0 := h
theorem memK {α : Type} {x : α} {l : List α} (h : x ∈ l := by repeat (first | exact List.Mem.head _ | refine List.Mem.tail _ ?_ | refine List.mem_append_right _ ?_ | assumption)) : x ∈ l := h
section
variable {c : Cx} {σ : Slots} {H : Blocks} {ty : TypeId} {pos : String} {af : Array Edge} {gd : Option (Nat × Bool)} {dst : Option Nat}
end
section
variable {c : Cx} {σ : Slots} {H : Blocks} {Q : Post1} {ops : Array Oper} {l : List Oper} {fuel : Nat} {listed : Array Bool} {ty : TypeId} {pos : String} {af : Array Edge}
theorem JL.mv {d : Nat} {x : Operand} {v : Value} (h : JL c ops ((d, v) :: σ) H l Q) (hx : ev σ x = some v := by exact rfl) (hdn : Nat.blt d c.n = true := by exact rfl) :
    JL c ops σ H ({ dst := some d, op := .move x, type := ty, pos := pos, after := af, guard := none } :: l) Q := JL.val rfl hdn rfl (.none rfl) (Ev.move hx) h
theorem JL.asg {d : Nat} {x : Operand} {v : Value} (h : JL c ops ((d, v) :: σ) H l Q) (hx : ev σ x = some v := by exact rfl) (hdn : Nat.blt d c.n = true := by exact rfl) :
    JL c ops σ H ({ dst := some d, op := .assign x, type := ty, pos := pos, after := af, guard := none } :: l) Q := JL.val rfl hdn rfl (.none rfl) (Ev.assign hx) h
theorem JA.one {o : Oper} (i : Nat) (h : JO c ops σ H o (wpAnyIn (Fw c.r) 7 c.P .any ops Q fuel (listed.setIfInBounds i true)) Q) (hr : Region.ready .any ops listed = [i] := by kernel_rfl) (ho : ops[i]? = some o := by exact rfl) :
    JA c ops σ H (fuel + 1) listed Q := JA.branch [i] hr rfl (JAll.cons ho h JAll.nil)
theorem JA.tk {o : Oper} (i : Nat) {d : Nat} {v : Value} (hi : ops[i]? = some o) (g : Gd ops σ o.guard true) (e : ∀ w0, Ev { c with w0 := w0 } σ [] o v) (h : JA c ops ((d, v) :: σ) H fuel (listed.setIfInBounds i true) Q)
    (hd : o.dst = some d := by exact rfl) (hdn : Nat.blt d c.n = true := by exact rfl) (hnd : allKept ops = true := by kernel_rfl) (hs : Region.noSelect ops = true := by kernel_rfl) (hf : Region.free .any ops listed i = true := by kernel_rfl) (hr : (Region.ready .any ops listed).contains i = true := by kernel_rfl)
    (hQ : ∀ ch a w, Q (.panic ch) (a.put o.dst v) w → Q (.panic ch) a w := by exact fun _ _ _ h => h) (hab : ∀ w (a : Act), o.about c.P w a.eval = none := by exact fun _ _ => rfl) : JA c ops σ H (fuel + 1) listed Q :=
  JA.takeR i hnd hi hd hdn hs hf hr hQ hab g e h
end
end Go.Proofs.YtjjoenbighmfoaaDoor
namespace Go.Proofs.YtjjoenbighmfoaaDoor
open Go Go.RowKit

abbrev Ent := UInt8 × List UInt8
structure Et where
  k : UInt8
  o : Option Addr
  cap : Nat
  l : List UInt8
def Et.cl (x : Et) : List Value := [u8 x.k, .slice x.o x.l.length x.cap]
def Et.e (x : Et) : Ent := (x.k, x.l)
def ef (xs : List Et) : List Value := xs.flatMap Et.cl
theorem ef_append (a b : List Et) : ef (a ++ b) = ef a ++ ef b := by simp [ef]
theorem ef_length : ∀ xs : List Et, (ef xs).length = xs.length * 2
  | [] => rfl
  | x :: xs => by
    show (x.cl ++ ef xs).length = _
    rw [List.length_append, ef_length xs, List.length_cons]
    show 2 + xs.length * 2 = _
    omega
theorem ef_get : ∀ (xs : List Et) (k : Nat) (x : Et), xs[k]? = some x → ((ef xs).drop (k * 2)).take 2 = x.cl
  | [], k, x, h => by simp at h
  | y :: xs, 0, x, h => by
    simp only [List.getElem?_cons_zero, Option.some.injEq] at h
    subst h
    rfl
  | y :: xs, k + 1, x, h => by
    rw [List.getElem?_cons_succ] at h
    rw [show (k + 1) * 2 = 2 + k * 2 by omega, ← List.drop_drop]
    exact ef_get xs k x h
/-- A board's entries. -/
structure Bd (w : World) (oa : Option Addr) (cap : Nat) (xs : List Et) : Prop where
  cs : Cs w oa xs.length cap (ef xs)
  each : ∀ x ∈ xs, Bs w x.o x.cap x.l
theorem Bd.old {w0 w : World} {H : Blocks} {oa : Option Addr} {cap : Nat} {xs : List Et} (hw : Hp w0 H w) (h : Bd w0 oa cap xs) : Bd w oa cap xs := ⟨h.cs.old hw, fun x hx => (h.each x hx).old hw⟩
theorem Bd.get_some {w : World} {oa : Option Addr} {cap : Nat} {xs : List Et} (h : Bd w oa cap xs) (hl : 0 < xs.length) : ∃ a, oa = some a := h.cs.get_some hl
theorem Bd.at {w : World} {a : Addr} {cap : Nat} {xs : List Et} (h : Bd w (some a) cap xs) {k : Nat} {x : Et} (hk : xs[k]? = some x) : Mem w (a.add (k * 2)) x.cl := by
  have := (h.cs.mem a rfl).cut (k * 2) 2
  rwa [ef_get xs k x hk] at this
theorem Bd.bs {w : World} {oa : Option Addr} {cap : Nat} {xs : List Et} (h : Bd w oa cap xs) {k : Nat} {x : Et} (hk : xs[k]? = some x) : Bs w x.o x.cap x.l := h.each x (List.mem_of_getElem? hk)
theorem Bd.take {w : World} {oa : Option Addr} {cap : Nat} {xs : List Et} (h : Bd w oa cap xs) {k : Nat} (hk : k ≤ xs.length) : Bd w oa cap (xs.take k) := by
  have hl : (xs.take k).length = k := by rw [List.length_take]; omega
  have hc := h.cs.le
  refine ⟨⟨by omega, h.cs.top, h.cs.empty, fun a ha => ?_⟩, fun x hx => h.each x (List.mem_of_mem_take hx)⟩
  have := (h.cs.mem a ha).cut 0 (k * 2)
  rw [List.drop_zero, show a.add 0 = a from by simp [Addr.add]] at this
  have e : (ef xs).take (k * 2) = ef (xs.take k) := by
    have h1 : ef xs = ef (xs.take k) ++ ef (xs.drop k) := by rw [← ef_append, List.take_append_drop]
    rw [h1, List.take_left' (by rw [ef_length, hl])]
  rwa [e] at this
def okE (x : Ent) : Bool := decide (1 ≤ x.1.toNat) && (decide (x.1.toNat ≤ 13) && decide (x.2.length ≤ 8000))
/-- A valid board. -/
def okB (xs : List Ent) : Prop := xs.length ≤ 1024 ∧ ∀ x ∈ xs, okE x = true
instance (xs : List Ent) : Decidable (okB xs) := inferInstanceAs (Decidable (_ ∧ _))
def leafE (x : Ent) : Dig := ⟨sha (0 :: x.1 :: x.2), sha_length _⟩
def leavesE (xs : List Ent) : List Dig := xs.map leafE

/-! ### Boards of the call's own -/
structure OE where
  k : UInt8
  q : Option Row
  l : List UInt8
def OE.cl (x : OE) : List Value := [u8 x.k, Row.v x.l.length x.q]
def OE.e (x : OE) : Ent := (x.k, x.l)
def OE.ok (x : OE) : Prop := Row.ok 1 x.l.length (x.l.map u8) x.q
def oef (xs : List OE) : List Value := xs.flatMap OE.cl
def oeD (t : TypeId) (xs : List OE) : Blocks := xs.flatMap fun x => Row.b t x.q
def OE.et (x : OE) : Et := match x.q with
  | none => ⟨x.k, none, 0, x.l⟩
  | some r => ⟨x.k, some ⟨r.g, 0, none⟩, r.cap, x.l⟩
section
variable {c : Cx} {σ : Slots} {H : Blocks} {ty : TypeId} {pos : String} {af : Array Edge} {gd : Option (Nat × Bool)} {dst : Option Nat}
end
end Go.Proofs.YtjjoenbighmfoaaDoor
namespace Go.Proofs.YtjjoenbighmfoaaDoor
open Go Go.RowKit

structure Hd where
  n : Int
  root : Dig
  r : UInt64
  s : UInt64
def Hd.cl (h : Hd) : List Value := .int .i64 h.n :: (h.root.1.map u8 ++ [u64 h.r, u64 h.s])
theorem Hd.cl_length (h : Hd) : h.cl.length = 35 := by
  show (h.root.1.map u8 ++ [u64 h.r, u64 h.s]).length + 1 = 35
  rw [List.length_append, List.length_map, h.root.2]
  rfl
theorem Hd.size (h : Hd) : h.cl.toArray.size = 35 := by rw [List.size_toArray, h.cl_length]
theorem Hd.one (h : Hd) : ∀ u ∈ h.cl.toArray.toList, u.oneCell' = true := by
  intro u hu
  rcases List.mem_cons.1 hu with rfl | hu
  · rfl
  · rcases List.mem_append.1 hu with hu | hu
    · exact u8s_one _ u hu
    · simp only [List.mem_cons, List.not_mem_nil, or_false] at hu
      rcases hu with rfl | rfl <;> rfl
theorem setR_size (vs : List Value) : ∀ (cs : Array Value) (off : Nat), (setR cs off vs).size = cs.size := by
  induction vs with
  | nil => intro cs off; rfl
  | cons v vs ih => intro cs off; rw [setR, ih, Array.size_setIfInBounds]
theorem fill_step {pl : Nat → Option (Nat × Nat)} {cs : Array Value} {i off size : Nat} {v : Value} {rest : List (Nat × Value)} (hp : pl i = some (off, size)) (hv : v.cells.size = size) (hl : off + size ≤ cs.size) :
    Instr.fill pl cs ((i, v) :: rest) = Instr.fill pl (setR cs off v.cells.toList) rest := by
  have hfold : v.cells.zipIdx.foldl (fun cs (c, j) => cs.setIfInBounds (off + j) c) cs = setR cs off v.cells.toList := by
    have := setR_fold v.cells.toList cs off 0
    rw [Nat.add_zero] at this
    rw [← this, ← Array.foldl_toList, Array.toList_zipIdx]
  rw [Instr.fill, hp]
  simp only [hv]
  rw [if_neg (by simp; omega), hfold]
section
variable {c : Cx} {σ : Slots} {H : Blocks} {ty : TypeId} {pos : String} {af : Array Edge} {gd : Option (Nat × Bool)} {dst : Option Nat}
end
end Go.Proofs.YtjjoenbighmfoaaDoor
namespace Go.Proofs.YtjjoenbighmfoaaDoor
open Go Go.RowKit

theorem rowv_one (n : Nat) (r : Option Row) : (Row.v n r).oneCell' = true := by cases r <;> rfl
theorem OE.one (x : OE) : ∀ u ∈ x.cl, u.oneCell' = true := by
  intro u hu
  simp only [OE.cl, List.mem_cons, List.not_mem_nil, or_false] at hu
  rcases hu with rfl | rfl
  · rfl
  · exact rowv_one _ _
/-- A board that the call has laid. -/
def OwnB (e t : TypeId) (es : List Ent) (v : Value) (H : Blocks) : Prop :=
  ∃ (r : Option Row) (os : List OE), v = .agg #[Row.v os.length r] ∧ H = Row.b e r ++ oeD t os ∧ Row.ok 2 os.length (oef os) r ∧ (∀ o ∈ os, o.ok) ∧ os.map OE.e = es
section
variable {c : Cx} {σ : Slots} {H : Blocks} {ty : TypeId} {pos : String} {af : Array Edge} {gd : Option (Nat × Bool)} {dst : Option Nat}
/-- A struct of two fields of one cell each. -/
theorem Ev.bu2 {T : TypeId} {fs : Array Field} {x y : Operand} {v1 v2 z1 z2 : Value} (hx : ev σ x = some v1) (hy : ev σ y = some v2) (h1 : v1.cells = #[v1]) (h2 : v2.cells = #[v2]) (hu : c.P.underlying T = some (.struct fs))
    (hpl : ∀ w, (fs.mapM fun f => (do pure (f.offset, ← sizeOf f.type) : Sem (Nat × Nat))).run c.P w = .ok #[(0, 1), (1, 1)] w)
    (hz : ∀ w, (zeroValue T).run c.P w = .ok (.agg #[z1, z2]) w) : Ev c σ H ⟨dst, .build T #[(0, x), (1, y)], ty, pos, af, gd⟩ (.agg #[v1, v2]) := by
  refine Ev.build (parts := [(0, x), (1, y)]) (vs := [(0, v1), (1, v2)]) ?_ ?_
  · intro A hf
    simp [hf.ev hx, hf.ev hy]
  · intro w
    have hg : Instr.fill ((#[(0, 1), (1, 1)] : Array (Nat × Nat))[·]?) #[z1, z2] [(0, v1), (1, v2)] = some #[v1, v2] := by
      rw [fill_step (v := v1) (off := 0) (size := 1) rfl (by rw [h1]; rfl) (by simp), fill_step (v := v2) (off := 1) (size := 1) rfl (by rw [h2]; rfl) (by rw [setR_size]; simp), h1, h2]
      rfl
    simp only [Instr.build, Sem.run_bind, hz w, Result.andThen_ok, run_underlying hu, hpl w]
    show (match Instr.fill ((#[(0, 1), (1, 1)] : Array (Nat × Nat))[·]?) #[z1, z2] [(0, v1), (1, v2)] with | some cells => pure (.agg cells) | _ => stuck _ : Sem Value).run c.P w = _
    rw [hg]
    rfl
end
end Go.Proofs.YtjjoenbighmfoaaDoor
namespace Go.Proofs.YtjjoenbighmfoaaDoor
open Go Go.RowKit

def ints (l : List Int) : List Value := l.map fun z => .int .i64 z
theorem ints_one (l : List Int) : ∀ u ∈ ints l, u.oneCell' = true := fun u hu => by
  obtain ⟨z, _, rfl⟩ := List.mem_map.1 hu
  rfl
/-- An entry. -/
structure Me where
  k : UInt8
  l : List Int
  r : Option Row
def Me.p (m : Me) : Value × Value := (u8 m.k, Row.v m.l.length m.r)
def mB (t : TypeId) (ms : List Me) : Blocks := ms.flatMap fun m => Row.b t m.r
def getM : List Me → UInt8 → List Int × Option Row
  | [], _ => ([], none)
  | m :: ms, k => if m.k = k then (m.l, m.r) else getM ms k
def delM : List Me → UInt8 → List Me
  | [], _ => []
  | m :: ms, k => if m.k = k then ms else m :: delM ms k
def putM : List Me → UInt8 → List Int → Option Row → List Me
  | [], k, l, r => [⟨k, l, r⟩]
  | m :: ms, k, l, r => if m.k = k then ⟨k, l, r⟩ :: ms else m :: putM ms k l r
def Me.ok (m : Me) : Prop := Row.ok 1 m.l.length (ints m.l) m.r
def kv (e : MapEntry) : Value × Value := (e.key, e.val)
theorem find_first (k : UInt8) : ∀ (es : List MapEntry) (ms : List Me) (i : Nat), es.map kv = ms.map Me.p →
    (Instr.findNow (.int .u8) (u8 k) es i = some none ∧ getM ms k = ([], none) ∧ ∀ l r, putM ms k l r = ms ++ [⟨k, l, r⟩]) ∨
    ∃ j e, Instr.findNow (.int .u8) (u8 k) es i = some (some (i + j, e.val)) ∧ es[j]? = some e ∧ e.key = u8 k ∧ e.val = Row.v (getM ms k).1.length (getM ms k).2 ∧
      ∀ l r, (es.modify j fun e => { e with key := u8 k, val := Row.v l.length r }).map kv = (putM ms k l r).map Me.p
  | [], [], _, _ => .inl ⟨rfl, rfl, fun _ _ => rfl⟩
  | [], m :: ms, _, h => by cases h
  | e :: es, [], _, h => by cases h
  | e :: es, m :: ms, i, h => by
    simp only [List.map_cons, List.cons.injEq] at h
    obtain ⟨h1, h2⟩ := h
    have hk : e.key = u8 m.k := congrArg Prod.fst h1
    have hv : e.val = Row.v m.l.length m.r := congrArg Prod.snd h1
    have hs : Instr.sameNow (.int .u8) (u8 k) e.key = some ((k.toNat : Int) == (m.k.toNat : Int)) := by rw [hk]; rfl
    by_cases hkm : m.k = k
    · subst hkm
      refine .inr ⟨0, e, ?_, rfl, hk, ?_, fun l r => ?_⟩
      · simp [Instr.findNow, hs]
      · rw [getM, if_pos rfl]; exact hv
      · rw [putM, if_pos rfl]
        simp only [List.modify_zero_cons, List.map_cons, h2]
        rfl
    · have hf : ((k.toNat : Int) == (m.k.toNat : Int)) = false := by
        rw [beq_eq_false_iff_ne]
        intro h3
        exact hkm (UInt8.toNat_inj.1 (by omega))
      rw [hf] at hs
      rcases find_first k es ms (i + 1) h2 with ⟨q1, q2, q3⟩ | ⟨j, e', q1, q2, q3, q4, q5⟩
      · refine .inl ⟨by simp [Instr.findNow, hs, q1], by rw [getM, if_neg hkm, q2], fun l r => by rw [putM, if_neg hkm, q3 l r]; rfl⟩
      · refine .inr ⟨j + 1, e', by simp [Instr.findNow, hs, q1]; omega, by simpa using q2, q3, by rw [getM, if_neg hkm, q4], fun l r => ?_⟩
        rw [putM, if_neg hkm]
        simp only [List.modify_succ_cons, List.map_cons, q5 l r, h1]
/-- The entries behind a write. -/
def upd8 (es : Array MapEntry) (clock : Nat) (k : UInt8) (v : Value) : Array MapEntry × Nat := match Instr.findNow (.int .u8) (u8 k) es.toList 0 with
  | some (some (j, _)) => (es.modify j fun e => { e with key := u8 k, val := v }, clock)
  | _ => (es.push { key := u8 k, val := v, born := clock }, clock + 1)
section
variable {c : Cx} {σ : Slots} {H : Blocks} {ty : TypeId} {pos : String} {af : Array Edge} {gd : Option (Nat × Bool)} {dst : Option Nat}
theorem En.makeMap {T : TypeId} : En c σ H ⟨dst, .makeMap T none, ty, pos, af, gd⟩ (fun b => .map (some b)) (.map #[] 0) := fun A w _ _ => by
  have e : execOp A.eval ⟨dst, .makeMap T none, ty, pos, af, gd⟩ = (do pure (Next.value (← Instr.makeMap T none))) := rfl
  rw [e]
  simp [Instr.makeMap]
theorem isKey8 (k : UInt8) : Go.MapKept.IsKey (.int .u8) (u8 k) := rfl
theorem Es.putM {T kt et : TypeId} {x y z : Operand} {b clock : Nat} {es : Array MapEntry} {ms : List Me} {k : UInt8} {l : List Int} {r : Option Row} {H' : Blocks} (hx : ev σ x = some (.map (some b))) (hy : ev σ y = some (u8 k)) (hv : ev σ z = some (Row.v l.length r)) (hT : c.P.underlying T = some (.map kt et)) (hkt : c.P.underlying kt = some (.int .u8))
    (hu : Upd b (.map es clock) (.map (upd8 es clock k (Row.v l.length r)).1 (upd8 es clock k (Row.v l.length r)).2) H H') (hm : es.toList.map kv = ms.map Me.p) : Es c σ H ⟨dst, .mapUpdate T x y z, ty, pos, af, gd⟩ H' := fun A w hf hw => by
  have e : execOp A.eval ⟨dst, .mapUpdate T x y z, ty, pos, af, gd⟩ = (do Instr.mapUpdate T (A.eval x) (A.eval y) (A.eval z); pure Next.skip) := rfl
  rw [e, hf.ev hx, hf.ev hy, hf.ev hv]
  have hg := hw.get hu.mem
  refine ⟨_, ?_, hw.putObj hu⟩
  unfold upd8
  rcases find_first k es.toList ms 0 hm with ⟨q1, _, _⟩ | ⟨j, e', q1, q2, q3, _, _⟩
  · rw [q1]
    simp [Instr.mapUpdate, run_underlying hT, Go.MapKept.run_getObj_map hg, Go.MapKept.run_checkKey hkt (isKey8 k), Go.MapKept.run_findKey hkt q1, Go.MapKept.run_setObj_map _ hg]
    rfl
  · have hj : es[j]? = some e' := by simpa using q2
    rw [Nat.zero_add] at q1
    rw [q1]
    simp [Instr.mapUpdate, run_underlying hT, Go.MapKept.run_getObj_map hg, Go.MapKept.run_checkKey hkt (isKey8 k), Go.MapKept.run_findKey hkt q1, hj, q3, Go.MapKept.run_keyThatStays (isKey8 k), Go.MapKept.run_setObj_map _ hg]
    rfl
end
end Go.Proofs.YtjjoenbighmfoaaDoor
