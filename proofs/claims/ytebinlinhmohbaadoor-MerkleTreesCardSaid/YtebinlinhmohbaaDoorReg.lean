/-
  Regions that draw their order: all operations but the last few only read (or call what only makes blocks of its own); the last few come one behind the other. One walk of the order of the text serves every order; inside a round of a range over a function too.
-/
import Derived.Test.YtebinlinhmohbaaDoorWp
import Derived.OrdersIn
import Derived.StillTail
namespace Go.Proofs.YtebinlinhmohbaaDoor
open Go Go.RowKit

section
variable {P : Program} {ops : Array Oper} {md : Region.Mode} {C : World → Prop}

def allKept (ops : Array Oper) : Bool := ops.all notDefer
theorem allKept_spec (h : allKept ops = true) {i : Nat} {o : Oper} (hi : ops[i]? = some o) : notDefer o = true := by
  unfold allKept at h
  rw [Array.all_eq_true] at h
  obtain ⟨hlt, rfl⟩ := Array.getElem?_eq_some_iff.1 hi
  exact h i hlt

theorem wpIn_of_quiet {r : Option Nat} {o : Oper} {a : Act} {K : Act → Prop} {K' : Act → World → Prop} {Q' : Post1} {w : World} (hnd : notDefer o = true) (hw : C w) (h : ∀ a w', C w' → K a → K' a w') (hh : o.quiet P a C K) :
    o.wpIn (Fw r) 7 P a w K' Q' := by
  obtain ⟨v, h1, h2⟩ := hh
  have h3 := h1 w hw
  refine ⟨fun _ _ => trivial, ?_⟩
  rw [Oper.semAt_eq _ _ _ (notDefer_ne hnd)]
  unfold Oper.quietAt at h3
  generalize (execOp a.eval o).run P w = x at *
  cases x with
  | ok n w' =>
    cases n <;> simp only [Oper.quietUpon] at h3 <;> simp only [Oper.uponIn]
    case value u =>
      obtain ⟨e1, e2⟩ := h3
      rw [e1, e2]; exact h _ _ hw h2
    case skip =>
      obtain ⟨e1, e2⟩ := h3
      rw [e1, ← e2]; exact h _ _ hw h2
    case enter f args =>
      obtain ⟨e1, hc⟩ := h3
      rw [e1]
      refine ⟨fun h => by simp [Fw] at h, (callsW hc r _).mono ?_⟩
      rintro e w'' ⟨he, hw''⟩
      subst he
      exact h _ _ hw'' h2
  | halt x w' => simp only [Oper.quietUpon] at h3

theorem wpOpIn_of_qOp {r : Option Nat} {i : Nat} {a : Act} {K : Act → Prop} {K' : Act → World → Prop} {Q' : Post1} {w : World} (hnd : allKept ops = true) (hC : C w) (h : ∀ a w', C w' → K a → K' a w') (hh : qOp P ops C i K a) :
    wpOpIn (Fw r) 7 P ops Q' i K' a w := by
  unfold qOp at hh
  unfold wpOpIn
  split
  · rename_i ho; simp only [ho] at hh; exact h _ _ hC hh
  · rename_i o ho
    simp only [ho] at hh
    split
    · rename_i hw; simp only [hw, if_true] at hh; exact wpIn_of_quiet (allKept_spec hnd ho) hC h hh
    · rename_i hw; simp only [hw] at hh; exact ⟨fun _ _ => trivial, h _ _ hC hh⟩

theorem wpAnyIn_of_quiet {r : Option Nat} {Q : Act → Prop} {Q' : Post1} (hnd : allKept ops = true) (hQ : ∀ a w, C w → Q a → Q' .normal a w) : ∀ (fuel : Nat) (listed : Array Bool) (a : Act) (w : World), C w →
    wpAnyQ P md ops C Q fuel listed a → wpAnyIn (Fw r) 7 P md ops Q' fuel listed a w
  | 0, _, _, _, hw, h => ⟨h.1, hQ _ _ hw h.2⟩
  | fuel + 1, _, _, _, hw, h => ⟨fun h0 => hQ _ _ hw (h.1 h0), fun i hi => wpOpIn_of_qOp hnd hw (fun a' w' hw' => wpAnyIn_of_quiet hnd hQ fuel _ a' w' hw') (h.2 i hi)⟩

/-! the head and the tail (after Derived/StillTail.lean, over a class of worlds and inside a fence) -/
def wpAnyLQ (P : Program) (md : Region.Mode) (ops : Array Oper) (C : World → Prop) (n : Nat) (L : Array Bool → Act → Prop) : Nat → Array Bool → Act → Prop
  | 0, listed, a => L listed a
  | f + 1, listed, a =>
    Region.ready md ops listed ≠ [] ∧ ∀ i ∈ Region.ready md ops listed, i < n ∧ qOp P ops C i (wpAnyLQ P md ops C n L f (listed.setIfInBounds i true)) a

theorem wpAnyIn_of_head {r : Option Nat} {n g : Nat} {L : Array Bool → Act → Prop} {Q' : Post1} (hnd : allKept ops = true) (hL : ∀ listed a w, C w → L listed a → wpAnyIn (Fw r) 7 P md ops Q' g listed a w) :
    ∀ (f : Nat) (listed : Array Bool) (a : Act) (w : World), C w → wpAnyLQ P md ops C n L f listed a → wpAnyIn (Fw r) 7 P md ops Q' (f + g) listed a w
  | 0, listed, a, w, hw, h => by rw [Nat.zero_add]; exact hL _ _ _ hw h
  | f + 1, listed, a, w, hw, h => by
    rw [show f + 1 + g = (f + g) + 1 by omega]
    exact ⟨fun h0 => absurd h0 h.1, fun i hi => wpOpIn_of_qOp hnd hw (fun a' w' hw' h' => wpAnyIn_of_head hnd hL f _ a' w' hw' h') (h.2 i hi).2⟩

theorem wpAnyLQ_first {n i : Nat} {oi : Oper} {v : Value} {L : Array Bool → Act → Prop} (hi : ops[i]? = some oi) (hsel : ∀ (j : Nat) (o : Oper) cs b, ops[j]? = some o → o.op ≠ .select cs b)
    (hs : Region.sinkB md ops n = true) (hc : Region.chainB md ops n = true) (hn : n < ops.size) (hin : i < n)
    (hdone : ∀ listed a, L listed a → ∀ j ∈ Region.ready md ops listed, n ≤ j) :
    ∀ (f : Nat) (listed : Array Bool) (a : Act), HeadInv md ops n listed →
      (∀ j oj, ops[j]? = some oj → j ≠ i → listed.getD j true = false → (∀ e ∈ oj.after, Region.binds md e = true → e.on ≠ i) → oi.apart ops oj = true) →
      i ∈ Region.ready md ops listed → YieldsIn P ops C oi v a →
      wpAnyLQ P md ops C n L f (listed.setIfInBounds i true) (a.put oi.dst v) → wpAnyLQ P md ops C n L (f + 1) listed a := by
  intro f
  induction f with
  | zero =>
    intro listed a inv _ hr hy H
    have hun := (mem_ready.1 hr).1
    refine ⟨fun h => (by rw [h] at hr; cases hr), fun j hj => ?_⟩
    have hjn : j < n := by
      rcases Nat.lt_or_ge j n with h | h
      · exact h
      · exact absurd hj (tail_waits hs hc hn inv _ i rfl hin hun j h)
    refine ⟨hjn, ?_⟩
    by_cases hji : j = i
    · subst hji; exact hy.qOp hi H
    · have := hdone _ _ H j (ready_mono hj hji)
      omega
  | succ f ih =>
    intro listed a inv hfree hr hy H
    have hun := (mem_ready.1 hr).1
    refine ⟨fun h => (by rw [h] at hr; cases hr), fun j hj => ?_⟩
    have hjn : j < n := by
      rcases Nat.lt_or_ge j n with h | h
      · exact h
      · exact absurd hj (tail_waits hs hc hn inv _ i rfl hin hun j h)
    refine ⟨hjn, ?_⟩
    by_cases hji : j = i
    · subst hji; exact hy.qOp hi H
    · have h1 := (H.2 j (ready_mono hj hji)).2
      obtain ⟨hjun, oj, hoj, hall⟩ := mem_ready.1 hj
      have hnot : ∀ e ∈ oj.after, Region.binds md e = true → e.on ≠ i := fun e he hb heq => by
        have h1 := hall e he hb
        rw [heq, getD_both hun] at h1
        cases h1
      have h2 := qOp_put hoj (hfree j oj hoj hji hjun hnot) (fun cs b => hsel i oi cs b hi) (fun cs b => hsel j oj cs b hoj) hy h1
      have hfree' : ∀ k ok, ops[k]? = some ok → k ≠ i → (listed.setIfInBounds j true).getD k true = false →
          (∀ e ∈ ok.after, Region.binds md e = true → e.on ≠ i) → oi.apart ops ok = true := fun k ok hk hki hun hno => by
        refine hfree k ok hk hki ?_ hno
        by_cases hjk : j = k
        · subst hjk; exact hjun
        · rw [getD_set_ne true hjk] at hun; exact hun
      refine qOp_mono (fun a' h3 => ih (listed.setIfInBounds j true) a' (inv.set hj hjn) hfree' (ready_mono hr (Ne.symm hji)) h3.1 ?_) h2
      rw [Array.setIfInBounds_comm _ _ hji]
      exact h3.2

theorem wpAnyIn_of_seq {r : Option Nat} {Q' : Post1} : ∀ (l : List Oper) (k : Nat) (listed : Array Bool) (a : Act) (w : World), (∀ j, l[j]? = ops[k + j]?) →
    Region.seqB md ops l.length k listed = true → wpListIn (Fw r) 7 P ops Q' l a w → wpAnyIn (Fw r) 7 P md ops Q' l.length listed a w
  | [], _, _, _, _, _, hB, h => ⟨by simpa [Region.seqB] using hB, h⟩
  | o :: l, k, listed, a, w, hl, hB, h => by
    have h0 : ops[k]? = some o := by simpa using (hl 0).symm
    simp only [List.length_cons, Region.seqB, Bool.and_eq_true, decide_eq_true_eq] at hB
    refine ⟨fun h1 => (by rw [hB.1] at h1; cases h1), fun i hi => ?_⟩
    rw [hB.1] at hi
    have hik : i = k := by simpa using hi
    subst hik
    have hw : wpOpIn (Fw r) 7 P ops Q' i (wpListIn (Fw r) 7 P ops Q' l) a w := by unfold wpOpIn; simp only [h0]; exact h
    exact wpOpIn_mono (fun a' w' h' => wpAnyIn_of_seq l (i + 1) _ a' w' (fun j => by have := hl (j + 1); simpa [Nat.add_assoc, Nat.add_comm 1 j] using this) hB.2 h') hw

theorem wpAnyLQ_lex {n g : Nat} {Lq : Act → Prop} (hsel : Region.noSelect ops = true) (hs : Region.sinkB md ops n = true) (hc : Region.chainB md ops n = true) (hn : n < ops.size) :
    ∀ (l : List Oper) (k : Nat) (listed : Array Bool) (a : Act), (∀ j, j < l.length → l[j]? = ops[k + j]?) → k + l.length = n → HeadInv md ops n listed →
    Region.lexHead md ops g l.length k listed = true → wpQuiet P ops C Lq l a →
    wpAnyLQ P md ops C n (fun listed' a' => Region.seqB md ops g n listed' = true ∧ Lq a') l.length listed a
  | [], k, listed, a, _, hk, _, hB, h => by
    have : k = n := by simpa using hk
    subst this
    exact ⟨by simpa [Region.lexHead] using hB, h⟩
  | o :: l, k, listed, a, hl, hk, inv, hB, h => by
    have h0 : ops[k]? = some o := by simpa using (hl 0 (by simp)).symm
    simp only [List.length_cons, Region.lexHead, Bool.and_eq_true] at hB
    obtain ⟨⟨hr, hf⟩, hB'⟩ := hB
    have hkn : k < n := by simp only [List.length_cons] at hk; omega
    have hr' : k ∈ Region.ready md ops listed := by simpa using hr
    have hst : qOp P ops C k (wpQuiet P ops C Lq l) a := by unfold qOp; simp only [h0]; exact h
    obtain ⟨v, hy, hK⟩ := yieldsIn_of_qOp h0 hst
    exact wpAnyLQ_first h0 (Region.noSelect_spec hsel) hs hc hn hkn (fun listed' a' hL => seqB_ready hL.1) l.length listed a inv (Region.free_spec h0 hf) hr' hy
      (wpAnyLQ_lex hsel hs hc hn l (k + 1) _ _ (fun j hj => by have := hl (j + 1) (by simp; omega); simpa [Nat.add_assoc, Nat.add_comm 1 j] using this) (by simp only [List.length_cons] at hk; omega) (inv.set hr' hkn) hB' hK)
end

section
variable {c : Cx} {σ : Slots} {H : Blocks} {Q : Post1}
/-- All operations only read. -/
theorem JC.regionQ {id : Nat} {l : List Oper} (hm : c.P.follows .mixedOrders = true) (hB : (allKept l.toArray && Region.lexB .any l.toArray) = true)
    (h : JW c l.toArray σ H l (fun a' => ∀ w', Hp c.w0 H w' → Q .normal a' w')) : JC c σ H (.region id l.toArray true) Q := fun a w hf hw => by
  simp only [Bool.and_eq_true, Region.lexB] at hB
  refine wpIn_region_any hm (wpAnyIn_of_quiet (C := Hp c.w0 H) (Q := fun a' => ∀ w', Hp c.w0 H w' → Q .normal a' w') hB.1 (fun _ w' hw' h => h w' hw') _ _ _ _ hw.drew ?_)
  have := wpAnyQ_lex (C := Hp c.w0 H) (md := .any) hB.2.1 l 0 (Array.replicate l.toArray.size false) a (by simp) (by simpa using hB.2.2) (h a hf)
  simpa using this

/-- All but the last few only read; these come one behind the other, behind all others. -/
theorem JC.regionT (n : Nat) {id : Nat} {l l1 l2 : List Oper} (hm : c.P.follows .mixedOrders = true) (hB : (allKept l.toArray && Region.lexTailB .any l.toArray n) = true) (hl : l = l1 ++ l2) (hn1 : l1.length = n)
    (h : JW c l.toArray σ H l1 (fun a' => ∀ w', Hp c.w0 H w' → wpListIn (Fw c.r) 7 c.P l.toArray Q l2 a' w')) : JC c σ H (.region id l.toArray true) Q := fun a w hf hw => by
  simp only [Bool.and_eq_true] at hB
  obtain ⟨hnd, hB⟩ := hB
  simp only [Region.lexTailB, Bool.and_eq_true, decide_eq_true_eq] at hB
  obtain ⟨⟨⟨⟨hsel, hn⟩, hs⟩, hc⟩, hlex⟩ := hB
  subst hn1
  have htl : l2.length = l.toArray.size - l1.length := by subst hl; simp
  have inv0 : HeadInv .any l.toArray l1.length (Array.replicate l.toArray.size false) :=
    ⟨by simp, fun j oj _ hl => (by rw [getD_replicate_false] at hl; cases hl), fun t _ ht => getD_in (by simpa using ht) (getD_replicate_false _ _)⟩
  have hH := wpAnyLQ_lex (md := .any) (C := Hp c.w0 H) (g := l.toArray.size - l1.length) hsel hs hc hn l1 0 _ a (fun j hj => by
    subst hl; simp [List.getElem?_append_left hj]) (by simp) inv0 hlex (h a hf)
  refine wpIn_region_any hm ?_
  have := wpAnyIn_of_head (r := c.r) (Q' := Q) (g := l.toArray.size - l1.length) hnd (fun listed a' w' hw' hL => by
    have := wpAnyIn_of_seq (md := .any) (r := c.r) (Q' := Q) l2 l1.length listed a' w' (fun j => by subst hl; simp [List.getElem?_append_right]) (by rw [htl]; exact hL.1) (hL.2 w' hw')
    rwa [htl] at this) _ _ _ { w with drawn := w.drawn + 1 } hw.drew hH
  rw [show l1.length + (l.toArray.size - l1.length) = l.toArray.size by simp only [List.size_toArray] at hn ⊢; omega] at this
  exact this

/-- From the head to the tail. -/
theorem JW.tail {ops : Array Oper} {l2 : List Oper} (h : JL c ops σ H l2 Q) : JW c ops σ H [] (fun a' => ∀ w', Hp c.w0 H w' → wpListIn (Fw c.r) 7 c.P ops Q l2 a' w') := fun a hf w hw => h a w hf hw

/-! ### Whatever order: one operation at a time -/
def JO (c : Cx) (ops : Array Oper) (σ : Slots) (H : Blocks) (o : Oper) (K : Act → World → Prop) (Q : Post1) : Prop := ∀ a w, Fr c.n c.ds σ a → Hp c.w0 H w →
  if Region.wanted o (yielded ops a.tmps) then o.wpIn (Fw c.r) 7 c.P a w K Q else (∀ f, o.about c.P w a.eval = some f → (Fw c.r).fn f) ∧ K (a.put o.dst undef) w
def JA (c : Cx) (ops : Array Oper) (σ : Slots) (H : Blocks) (fuel : Nat) (listed : Array Bool) (Q : Post1) : Prop := ∀ a w, Fr c.n c.ds σ a → Hp c.w0 H w → wpAnyIn (Fw c.r) 7 c.P .any ops Q fuel listed a w
def JAll (c : Cx) (ops : Array Oper) (σ : Slots) (H : Blocks) (fuel : Nat) (listed : Array Bool) (Q : Post1) (rs : List Nat) : Prop := ∀ a w, Fr c.n c.ds σ a → Hp c.w0 H w → ∀ i ∈ rs, wpOpIn (Fw c.r) 7 c.P ops Q i (wpAnyIn (Fw c.r) 7 c.P .any ops Q fuel (listed.setIfInBounds i true)) a w
variable {ops : Array Oper} {K : Act → World → Prop} {o : Oper} {fuel : Nat} {listed : Array Bool}

theorem JC.regionA {id : Nat} {l : List Oper} (hm : c.P.follows .mixedOrders = true) (h : JA c l.toArray σ H l.length (Array.replicate l.length false) Q) : JC c σ H (.region id l.toArray true) Q := fun a w hf hw =>
  wpIn_region_any hm (by simpa using h a _ hf hw.drew)
theorem JAll.nil : JAll c ops σ H fuel listed Q [] := fun _ _ _ _ _ h => by cases h
theorem JAll.cons {i : Nat} {rs : List Nat} (ho : ops[i]? = some o) (h1 : JO c ops σ H o (wpAnyIn (Fw c.r) 7 c.P .any ops Q fuel (listed.setIfInBounds i true)) Q) (hs : JAll c ops σ H fuel listed Q rs) : JAll c ops σ H fuel listed Q (i :: rs) := fun a w hf hw j hj => by
  rcases List.mem_cons.1 hj with rfl | hj
  · unfold wpOpIn; rw [ho]; exact h1 a w hf hw
  · exact hs a w hf hw j hj
theorem JA.branch (rs : List Nat) (hr : Region.ready .any ops listed = rs) (hne : rs.isEmpty = false) (h : JAll c ops σ H fuel listed Q rs) : JA c ops σ H (fuel + 1) listed Q := fun a w hf hw =>
  wpAnyIn_all hr (by intro e; rw [e] at hne; cases hne) (h a w hf hw)
theorem JA.done (hr : Region.ready .any ops listed = []) (h : JQ c σ H Q .normal) : JA c ops σ H fuel listed Q := fun a w hf hw => wpAnyIn_done hr (h a w hf hw) _
/-- An operation that looks at no memory may be taken first. -/
theorem JA.take (i : Nat) {d : Nat} {v : Value} (hro : c.r = none) (hi : ops[i]? = some o) (hd : o.dst = some d) (hdn : Nat.blt d c.n = true) (hs : Region.noSelect ops = true) (hf : Region.free .any ops listed i = true) (hr : (Region.ready .any ops listed).contains i = true)
    (hQ : ∀ ch a w, Q (.panic ch) (a.put o.dst v) w → Q (.panic ch) a w) (hab : ∀ w (a : Act), o.about c.P w a.eval = none)
    (g : Gd ops σ o.guard true) (e : ∀ w0, Ev { c with w0 := w0 } σ [] o v) (h : JA c ops ((d, v) :: σ) H fuel (listed.setIfInBounds i true) Q) : JA c ops σ H (fuel + 1) listed Q := fun a w hf1 hw =>
  wpAnyIn_take (i := i) (v := v) (by simpa [Fw] using hro) hi hs hf hr hQ ⟨.inl ⟨g.wanted hf1, fun w' => e w' a w' hf1 (Hp.start w')⟩, fun w' => hab w' a⟩
    (h _ _ (by rw [hd]; exact hf1.put (Nat.le_of_ble_eq_true hdn) v) hw)

theorem JO.val {d : Nat} {v : Value} (hd : o.dst = some d) (hdn : Nat.blt d c.n = true) (hnd : notDefer o = true) (g : Gd ops σ o.guard true) (e : Ev c σ H o v)
    (h : J c ((d, v) :: σ) H K) : JO c ops σ H o K Q := fun a w hf hw => by
  rw [if_pos (g.wanted hf)]
  refine ⟨fun _ _ => trivial, ?_⟩
  rw [Oper.semAt_eq _ _ _ (notDefer_ne hnd), e a w hf hw]
  exact h _ _ (by rw [hd]; exact hf.put (Nat.le_of_ble_eq_true hdn) v) hw
theorem JO.new {d : Nat} {v : Nat → Value} {O : Obj} (hd : o.dst = some d) (hdn : Nat.blt d c.n = true) (hnd : notDefer o = true) (g : Gd ops σ o.guard true) (e : En c σ H o v O)
    (h : ∀ b, c.w0.heap.size ≤ b → J c ((d, v b) :: σ) ((b, O) :: H) K) : JO c ops σ H o K Q := fun a w hf hw => by
  rw [if_pos (g.wanted hf)]
  refine ⟨fun _ _ => trivial, ?_⟩
  rw [Oper.semAt_eq _ _ _ (notDefer_ne hnd), e a w hf hw]
  exact h w.heap.size hw.below.size _ _ (by rw [hd]; exact hf.put (Nat.le_of_ble_eq_true hdn) _) (hw.alloc O)
theorem JO.sto {H' : Blocks} (hd : o.dst = none) (hnd : notDefer o = true) (g : Gd ops σ o.guard true) (e : Es c σ H o H') (h : J c σ H' K) : JO c ops σ H o K Q := fun a w hf hw => by
  obtain ⟨w', e1, e2⟩ := e a w hf hw
  rw [if_pos (g.wanted hf)]
  refine ⟨fun _ _ => trivial, ?_⟩
  rw [Oper.semAt_eq _ _ _ (notDefer_ne hnd), e1]
  exact h _ _ (by rw [hd]; exact hf) e2
theorem JO.gen {d : Nat} {Y : Value → Blocks → Prop} (hd : o.dst = some d) (hdn : Nat.blt d c.n = true) (hnd : notDefer o = true) (g : Gd ops σ o.guard true) (e : Eg c σ H o Y)
    (h : ∀ v H', Y v H' → J c ((d, v) :: σ) H' K) : JO c ops σ H o K Q := fun a w hf hw => by
  obtain ⟨v, H', w', e1, e2, e3⟩ := e a w hf hw
  rw [if_pos (g.wanted hf)]
  refine ⟨fun _ _ => trivial, ?_⟩
  rw [Oper.semAt_eq _ _ _ (notDefer_ne hnd), e1]
  exact h v H' e3 _ _ (by rw [hd]; exact hf.put (Nat.le_of_ble_eq_true hdn) _) e2
theorem JO.callN {d f : Nat} {xs : List Operand} {ats : Array TypeId} {ty : TypeId} {pos : String} {af : Array Edge} {gd : Option (Nat × Bool)} {vs : List Value} {Y : Value → Blocks → Prop}
    (hdn : Nat.blt d c.n = true) (g : Gd ops σ gd true) (hx : evs σ xs = some vs)
    (hent : ∀ args w, (callFunc f args).run c.P w = .ok (.enter f args) w)
    (hc : ∀ w, Hp c.w0 H w → Calls c.P f vs.toArray w (Ret w Y))
    (h : ∀ v H', Y v H' → J c ((d, v) :: σ) (H' ++ H) K) :
    JO c ops σ H { dst := some d, op := .call { callee := .value (.func f), args := xs.toArray, argTypes := ats }, type := ty, pos := pos, after := af, guard := gd } K Q := fun a w hf hw => by
  rw [if_pos (g.wanted hf)]
  refine ⟨fun _ _ => trivial, ?_⟩
  have e1 : execOp a.eval { dst := some d, op := .call { callee := .value (.func f), args := xs.toArray, argTypes := ats }, type := ty, pos := pos, after := af, guard := gd } = callFunc f (#[] ++ xs.toArray.map a.eval ++ #[]) := rfl
  have h2 := hf.evs hx
  rw [Oper.semAt_eq _ _ _ (notDefer_ne rfl), e1, hent]
  simp only [List.map_toArray, h2, Array.empty_append, Array.append_empty]
  refine ⟨fun h => by simp [Fw] at h, (callsW (Ret.lift hw (hc w hw)) c.r _).mono ?_⟩
  rintro e w'' ⟨v, H', rfl, h3, H1, rfl, hy⟩
  exact h v H1 hy _ _ (hf.put (Nat.le_of_ble_eq_true hdn) _) h3
theorem JO.callV {d f : Nat} {xs : List Operand} {ats : Array TypeId} {ty : TypeId} {pos : String} {af : Array Edge} {gd : Option (Nat × Bool)} {vs : List Value} {v : Value}
    (hdn : Nat.blt d c.n = true) (g : Gd ops σ gd true) (hx : evs σ xs = some vs)
    (hent : ∀ args w, (callFunc f args).run c.P w = .ok (.enter f args) w)
    (hc : ∀ w, Hp c.w0 H w → Calls c.P f vs.toArray w (Ret w fun v' _ => v' = v))
    (h : J c ((d, v) :: σ) H K) :
    JO c ops σ H { dst := some d, op := .call { callee := .value (.func f), args := xs.toArray, argTypes := ats }, type := ty, pos := pos, after := af, guard := gd } K Q :=
  JO.callN hdn g hx hent hc fun v' H' e => by
    subst e
    exact fun a w hf hw => h a w hf ⟨hw.below, fun x hx => hw.blk x (List.mem_append_right _ hx), (List.pairwise_append.1 hw.apart).2.1, hw.mono⟩

/-- Cut: what is known behind a piece of code, whichever way led there. -/
theorem JC.cut {x : Code} {X : Type} (σI : X → Slots) (HI : X → Blocks) (h : JC c σ H x (fun e a w => e = .normal ∧ ∃ x, Fr c.n c.ds (σI x) a ∧ Hp c.w0 (HI x) w)) (h2 : ∀ x, JQ c (σI x) (HI x) Q .normal) : JC c σ H x Q := fun a w hf hw =>
  wpIn_mono (h a w hf hw) fun e a' w' ⟨he, x, h3, h4⟩ => by subst he; exact h2 x a' w' h3 h4
theorem JQ.cutN {X : Type} {σI : X → Slots} {HI : X → Blocks} (x : X) (hs : ∀ p ∈ σI x, look σ p.1 = some p.2) (hH : Sub (HI x) H) : JQ c σ H (fun e a w => e = .normal ∧ ∃ x, Fr c.n c.ds (σI x) a ∧ Hp c.w0 (HI x) w) .normal :=
  fun _ _ hf hw => ⟨rfl, x, hf.weaken hs, hw.sub hH⟩
end
end Go.Proofs.YtebinlinhmohbaaDoor
