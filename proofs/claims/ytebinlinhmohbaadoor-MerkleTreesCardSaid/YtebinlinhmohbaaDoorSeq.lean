/-
  A range over a function, in general: a round may stop (a return, a break); the iterator's own blocks and the caller's are told apart.
-/
import Derived.Test.YtebinlinhmohbaaDoorRange
namespace Go.Proofs.YtebinlinhmohbaaDoor
open Go Go.RowKit

/-- An iterator, by what its rounds are: at the k-th it yields values 'vs' of which V k says what they are (over the iterator's own blocks O); there are N rounds, unless one stops. -/
def IterOk (P : Program) (gf : FuncId) (lb : List Value) (w0 : World) (O0 : Blocks) (V : Nat → List Value → Blocks → Prop) (N : Nat) : Prop :=
  ∀ (X : Type) (A : X → Blocks) (Inv : Nat → X → Prop) (Z : Blocks → Prop) (l : Nat) (x0 : X) (w : World), Inv 0 x0 → Hp w0 (O0 ++ A x0) w →
    (∀ k x vs O w1, k < N → Inv k x → V k vs O → Hp w0 (O ++ A x) w1 →
      YieldOk P l vs.toArray w1 (fun e w' => (∃ x', Inv (k + 1) x' ∧ e = .returned (.bool true) ∧ Hp w0 (O ++ A x') w') ∨ (∃ B, Z B ∧ e = .returned (.bool false) ∧ Hp w0 (O ++ B) w'))) →
    Calls P gf (#[.func (.yield l) #[] #[]] ++ lb.toArray) w (Ret w0 fun _ H' => (∃ x O, Inv N x ∧ H' = O ++ A x) ∨ (∃ B O, Z B ∧ H' = O ++ B))

section
variable {c : Cx} {σ : Slots} {H : Blocks} {Q : Post1} {ops : Array Oper}
/-- The call of yield: it says whether to go on. -/
theorem JL.yieldG {X Y : Type} {T : X → Prop} {F : Y → Prop} {HT : X → Blocks} {HF : Y → Blocks} {d l : Nat} {f : Operand} {xs : List Operand} {ats : Array TypeId} {ty : TypeId} {pos : String} {af : Array Edge} {gd : Option (Nat × Bool)} {vs : List Value} {rest : List Oper}
    (hr : c.r = none) (hdn : Nat.blt d c.n = true) (g : Gd ops σ gd true) (hf : ev σ f = some (.func (.yield l) #[] #[])) (hx : evs σ xs = some vs)
    (hy : ∀ w, Hp c.w0 H w → YieldOk c.P l vs.toArray w (fun e w' => (∃ x, T x ∧ e = .returned (.bool true) ∧ Hp c.w0 (HT x) w') ∨ (∃ y, F y ∧ e = .returned (.bool false) ∧ Hp c.w0 (HF y) w')))
    (h1 : ∀ x, T x → JL c ops ((d, .bool true) :: σ) (HT x) rest Q) (h2 : ∀ y, F y → JL c ops ((d, .bool false) :: σ) (HF y) rest Q) :
    JL c ops σ H ({ dst := some d, op := .call { callee := .value f, args := xs.toArray, argTypes := ats }, type := ty, pos := pos, after := af, guard := gd } :: rest) Q := fun a w hfr hw => by
  obtain ⟨fn, tmps, assign, body, hrun, hround⟩ := hy w hw
  unfold wpListIn
  rw [if_pos (g.wanted hfr)]
  refine ⟨fun _ _ => trivial, ?_⟩
  rw [Oper.semAt_eq _ _ _ (notDefer_ne rfl)]
  have e1 := hfr.ev hf
  have e2 := hfr.evs hx
  have key : (execOp a.eval { dst := some d, op := .call { callee := .value f, args := xs.toArray, argTypes := ats }, type := ty, pos := pos, after := af, guard := gd }).run c.P w = .ok (.round l fn tmps assign body) w := by
    simp only [execOp, resolve, e1, List.map_toArray, e2, Deferred.ofValue, Sem.run_bind, Sem.run_pure, Result.andThen_ok, invoke]
    simpa using hrun
  rw [key]
  refine ⟨fun h => by simp [Fw] at h, ?_⟩
  rw [hr]
  refine (roundIn_any hround).mono ?_
  rintro e w' (⟨x, hx, rfl, hw'⟩ | ⟨y, hy, rfl, hw'⟩)
  · have := h1 x hx _ w' (hfr.put (Nat.le_of_ble_eq_true hdn) (.bool true)) hw'
    rw [hr] at this
    exact this
  · have := h2 y hy _ w' (hfr.put (Nat.le_of_ble_eq_true hdn) (.bool false)) hw'
    rw [hr] at this
    exact this
end

def stopCode : Exit → Option Code
  | .ret => some .ret
  | .exit id => some (.exit id)
  | _ => none

/-- The round's parameters put. -/
def zipS : List Nat → List Value → Slots → Slots
  | p :: ps, v :: vs, σ => zipS ps vs ((p, v) :: σ)
  | _, _, σ => σ

theorem Fr.zip {n : Nat} {ds : List Deferred} : ∀ (ps : List Nat) (vs : List Value) {σ : Slots} {a : Act}, Fr n ds σ a → (ps.all fun p => Nat.blt p n) = true → vs.length = ps.length →
    Fr n ds (zipS ps vs σ) { a with tmps := (ps.zip vs).foldl (fun tmps (t, a) => tmps.setIfInBounds t a) a.tmps }
  | [], [], _, _, h, _, _ => h
  | [], _ :: _, _, _, _, _, h => by cases h
  | _ :: _, [], _, _, _, _, h => by cases h
  | p :: ps, v :: vs, σ, a, h, hp, hl => by
    simp only [List.all_cons, Bool.and_eq_true] at hp
    have h1 := h.put (Nat.le_of_ble_eq_true hp.1) v
    exact Fr.zip ps vs h1 hp.2 (by simpa using hl)

theorem Hp.swap {w0 w : World} {A B C : Blocks} (h : Hp w0 (A ++ (B ++ C)) w) : Hp w0 (B ++ (A ++ C)) w :=
  h.perm (by rw [← List.append_assoc, ← List.append_assoc]; exact List.Perm.append_right _ List.perm_append_comm)

theorem Upd.left {b : Nat} {o o' : Obj} {B B' : Blocks} (A : Blocks) (h : Upd b o o' B B') : Upd b o o' (A ++ B) (A ++ B') := by
  induction A with
  | nil => exact h
  | cons x A ih => exact .there ih

theorem JC.rangeG {P : Program} {n : Nat} {w0 : World} {σ : Slots} {H : Blocks} {g : Operand} {ps : List Nat} {assign body : Code} {Q : Post1} {gf : FuncId} {lb : List Value} {X : Type}
    (N : Nat) (HI : X → Blocks → Blocks) (Inv : Nat → X → Prop) (Stp : Code → X → Prop) (V : Nat → List Value → Blocks → Prop) (O0 : Blocks) (x0 : X) (σ1 : Nat → X → List Value → Slots)
    (hHI : ∀ x E, HI x E = HI x [] ++ E) (hg : ev σ g = some (.func (.func gf) #[] lb.toArray)) (hent : ∀ args w, (callFunc gf args).run P w = .ok (.enter gf args) w)
    (h0 : Sub (O0 ++ HI x0 []) H) (hi0 : Inv 0 x0) (hpn : (ps.all fun p => Nat.blt p n) = true) (hV : ∀ k vs O, V k vs O → vs.length = ps.length)
    (hiter : IterOk P gf lb w0 O0 V N)
    (hassign : ∀ (l k : Nat) (x : X) (vs : List Value) (O E : Blocks), k < N → Inv k x → V k vs O → (∀ p ∈ O, p ∈ E) →
      JC ⟨P, some l, n, [], w0⟩ (zipS ps vs σ) (HI x E) assign (fun e a w => e = .normal ∧ Fr n [] (σ1 k x vs) a ∧ Hp w0 (HI x E) w))
    (hbody : ∀ (l k : Nat) (x : X) (vs : List Value) (O E : Blocks), k < N → Inv k x → V k vs O → (∀ p ∈ O, p ∈ E) →
      JC ⟨P, some l, n, [], w0⟩ (σ1 k x vs) (HI x E) body (fun e _ w => (e = .normal ∧ ∃ x', Inv (k + 1) x' ∧ Hp w0 (HI x' E) w) ∨ ∃ c x', stopCode e = some c ∧ Stp c x' ∧ Hp w0 (HI x' E) w))
    (hdone : ∀ (x : X) (D : Nat) (E : Blocks), Inv N x → JQ ⟨P, none, n, [{ target := .collected D, args := #[] }], w0⟩ σ (HI x ((D, .deferred (some [])) :: E)) Q .normal)
    (hstop : ∀ (c : Code) (x : X) (D : Nat) (E : Blocks), Stp c x → JC ⟨P, none, n, [{ target := .collected D, args := #[] }], w0⟩ σ (HI x ((D, .deferred (some [])) :: E)) c Q) :
    JC ⟨P, none, n, [], w0⟩ σ H (.rangeFunc g ps.toArray assign body) Q := fun a w hf hw => by
  show (Code.rangeFunc g ps.toArray assign body).wpIn (Fw none) 7 P Q a w
  refine wpIn_rangeFunc (F := Fw none) ?_
  intro fn _
  obtain ⟨rec, hrec⟩ : ∃ rec : LoopState → Option Code → Loop, rec = fun st pe => { state := st, pending := pe, fn, tmps := a.tmps, params := ps.toArray, assign, body, defers := w.heap.size } := ⟨_, rfl⟩
  have hW1 : Hp w0 ((w.heap.size + 1, Obj.loop (rec .ready none)) :: (w.heap.size, Obj.deferred (some [])) :: H) ((w.alloc (.deferred (some []))).alloc (.loop (rec .ready none))) := by
    have := (hw.alloc (Obj.deferred (some []))).alloc (Obj.loop (rec .ready none))
    rwa [World.size_alloc] at this
  obtain ⟨LB, hLB⟩ : ∃ LB : LoopState → Option Code → Blocks, LB = fun st pe => [(w.heap.size + 1, Obj.loop (rec st pe)), (w.heap.size, Obj.deferred (some []))] := ⟨_, rfl⟩
  have hW2 : Hp w0 (O0 ++ HI x0 (LB .ready none)) ((w.alloc (.deferred (some []))).alloc (.loop (rec .ready none))) := by
    rw [hHI, ← List.append_assoc, hLB]
    exact hW1.sub (Sub.two h0)
  have hgv := hf.ev hg
  have hup : ∀ (O : Blocks) (x : X) st pe st' pe', Upd (w.heap.size + 1) (Obj.loop (rec st pe)) (Obj.loop (rec st' pe')) (O ++ HI x (LB st pe)) (O ++ HI x (LB st' pe')) := by
    intro O x st pe st' pe'
    rw [hHI x (LB st pe), hHI x (LB st' pe'), hLB]
    exact Upd.left _ (Upd.left _ .here)
  have hmem : ∀ (O : Blocks) (x : X) st pe, (w.heap.size + 1, Obj.loop (rec st pe)) ∈ O ++ HI x (LB st pe) := by
    intro O x st pe
    rw [hHI, hLB]; simp
  refine ⟨w.heap.size + 1, [{ target := .collected w.heap.size, args := #[] }], (w.alloc (.deferred (some []))).alloc (.loop (rec .ready none)), { target := .fn (.func gf) lb.toArray, args := #[.func (.yield (w.heap.size + 1)) #[] #[]] },
    (w.alloc (.deferred (some []))).alloc (.loop (rec .ready none)), gf, #[.func (.yield (w.heap.size + 1)) #[] #[]] ++ lb.toArray, (w.alloc (.deferred (some []))).alloc (.loop (rec .ready none)), ?_, ?_, fun _ _ => trivial, ?_, fun h => by simp [Fw] at h, ?_⟩
  · rw [hrec]
    exact run_enterLoop_outer _ _ _ _ _
  · simp only [resolve, hgv]
    simp [go_sem]
  · simp [invoke, go_sem, hent]
  · refine (callsW (hiter X (fun x => HI x (LB .ready none)) Inv (fun B => ∃ c x, Stp c x ∧ B = HI x (LB .done (some c))) (w.heap.size + 1) x0 _ hi0 hW2 ?_) none _).mono ?_
    · intro k x vs O w1 hk hi hv hw1
      have hl : w1.heap[w.heap.size + 1]? = some (.loop (rec .ready none)) := hw1.get (hmem ..)
      have hvl := hV k vs O hv
      have hy := run_yield (P := P) (args := vs.toArray) hl (by rw [hrec]; simpa using hvl)
      refine ⟨(rec .ready none).fn, _, (rec .ready none).assign, (rec .ready none).body, hy, ?_⟩
      refine roundIn_any (n := 7) (roundIn_of_wpIn (F := Fw none) trivial ?_)
      have hfr : Fr n [] (zipS ps vs σ) { tmps := (((rec .ready none).params).zip vs.toArray).foldl (fun tmps (t, a) => tmps.setIfInBounds t a) (rec .ready none).tmps, defers := [] } := by
        have h1 := Fr.zip ps vs hf hpn hvl
        have e : (((rec .ready none).params).zip vs.toArray).foldl (fun tmps (t, a) => tmps.setIfInBounds t a) (rec .ready none).tmps = (ps.zip vs).foldl (fun tmps (t, a) => tmps.setIfInBounds t a) a.tmps := by
          rw [hrec]
          simp
        exact ⟨by simpa only [e] using h1.size, rfl, fun t v h => by simpa only [e] using h1.get t v h⟩
      have hperm : ∀ x1 st pe w2, Hp w0 (O ++ HI x1 (LB st pe)) w2 → Hp w0 (HI x1 (O ++ LB st pe)) w2 := by
        intro x1 st pe w2 h
        rw [hHI] at h
        rw [hHI]
        exact h.swap
      have hperm' : ∀ x1 st pe w2, Hp w0 (HI x1 (O ++ LB st pe)) w2 → Hp w0 (O ++ HI x1 (LB st pe)) w2 := by
        intro x1 st pe w2 h
        rw [hHI] at h
        rw [hHI]
        exact h.swap
      have hassign' := hassign (w.heap.size + 1) k x vs O (O ++ LB .ready none) hk hi hv (fun p hp => List.mem_append_left _ hp) _ w1 hfr (hperm _ _ _ _ hw1)
      have hfn : (rec .ready none).assign = assign := by rw [hrec]
      have hbd : (rec .ready none).body = body := by rw [hrec]
      rw [hfn, hbd]
      refine wpIn_mono hassign' ?_
      rintro e a1 w2 ⟨rfl, hf1, hw2'⟩
      have hw2 := hperm' _ _ _ _ hw2'
      have hl2 : w2.heap[w.heap.size + 1]? = some (.loop (rec .ready none)) := hw2.get (hmem ..)
      have ebusy : Obj.loop { rec .ready none with state := .busy } = Obj.loop (rec .busy none) := by rw [hrec]
      refine ⟨_, run_beginRound hl2 (by rw [hrec]), ?_⟩
      rw [ebusy]
      have hb := hbody (w.heap.size + 1) k x vs O (O ++ LB .busy none) hk hi hv (fun p hp => List.mem_append_left _ hp) a1 (w2.putObj (w.heap.size + 1) (.loop (rec .busy none))) hf1
        (hperm _ _ _ _ (hw2.putObj (hup O x .ready none .busy none)))
      refine wpIn_mono hb ?_
      have fin : ∀ (jump : Option Code) (x' : X) (w3 : World), Hp w0 (HI x' (O ++ LB .busy none)) w3 →
          (Instr.endRound (w.heap.size + 1) jump).run P w3 = .ok (.bool jump.isNone) (w3.putObj (w.heap.size + 1) (.loop (rec (if jump.isNone then .ready else .done) jump))) ∧
          Hp w0 (O ++ HI x' (LB (if jump.isNone then .ready else .done) jump)) (w3.putObj (w.heap.size + 1) (.loop (rec (if jump.isNone then .ready else .done) jump))) := by
        intro jump x' w3 h3
        have h3 := hperm' _ _ _ _ h3
        have hl3 : w3.heap[w.heap.size + 1]? = some (.loop (rec .busy none)) := h3.get (hmem ..)
        refine ⟨?_, h3.putObj (hup O x' .busy none _ _)⟩
        have := run_endRound (P := P) jump hl3
        rw [hrec] at this ⊢
        exact this
      rintro e a3 w3 (⟨rfl, x', hi', hw3⟩ | ⟨c, x', he, hst, hw3⟩)
      · obtain ⟨h1, h2⟩ := fin none x' w3 hw3
        exact ⟨_, _, h1, .inl ⟨x', hi', rfl, h2⟩⟩
      · obtain ⟨h1, h2⟩ := fin (some c) x' w3 hw3
        cases e with
        | ret =>
          cases he
          exact ⟨_, _, h1, .inr ⟨_, ⟨_, x', hst, rfl⟩, rfl, h2⟩⟩
        | exit id =>
          cases he
          exact ⟨_, _, h1, .inr ⟨_, ⟨_, x', hst, rfl⟩, rfl, h2⟩⟩
        | _ => cases he
    · have last : ∀ (O : Blocks) (x : X) st pe (w2 : World), st ≠ .busy → Hp w0 (O ++ HI x (LB st pe)) w2 →
          (Instr.endLoop (w.heap.size + 1)).run P w2 = .ok pe (w2.putObj (w.heap.size + 1) (.loop (rec .exhausted pe))) ∧
          Hp w0 (HI x ((w.heap.size, Obj.deferred (some [])) :: (O ++ [(w.heap.size + 1, Obj.loop (rec .exhausted pe))]))) (w2.putObj (w.heap.size + 1) (.loop (rec .exhausted pe))) := by
        intro O x st pe w2 hst h2
        have hl : w2.heap[w.heap.size + 1]? = some (.loop (rec st pe)) := h2.get (hmem ..)
        refine ⟨?_, ?_⟩
        · refine (run_endLoop (P := P) hl (by rw [hrec]; exact hst)).trans ?_
          rw [hrec]
        · have h3 := h2.putObj (hup O x st pe .exhausted pe)
          rw [hHI] at h3
          rw [hHI]
          refine h3.swap.perm (List.Perm.append_left _ ?_)
          rw [hLB]
          refine (List.perm_append_comm (l₁ := O)).trans ?_
          refine (List.Perm.swap _ _ _).trans ?_
          exact List.Perm.cons _ (List.perm_append_comm (l₁ := [_]))
      rintro e w2 ⟨v, H', rfl, hw2, (⟨x, O, hi, rfl⟩ | ⟨B, O, ⟨c, x, hst, rfl⟩, rfl⟩)⟩
      · obtain ⟨h1, h2⟩ := last O x .ready none w2 (by simp) hw2
        exact ⟨none, _, h1, hdone x _ _ hi _ _ ⟨hf.size, by simp [hf.defers], hf.get⟩ h2⟩
      · obtain ⟨h1, h2⟩ := last O x .done (some c) w2 (by simp) hw2
        exact ⟨some c, _, h1, hstop c x _ _ hst _ _ ⟨hf.size, by simp [hf.defers], hf.get⟩ h2⟩

/-- The ends of a round's body: on, or out. -/
theorem JQ.bodG {P : Program} {r : Option Nat} {n : Nat} {ds : List Deferred} {w0 : World} {σ : Slots} {H : Blocks} {X : Type} {HI : X → Blocks} {Inv : X → Prop} {R : Exit → World → Prop} (x' : X) (hi : Inv x') (h : Sub (HI x') H) :
    JQ ⟨P, r, n, ds, w0⟩ σ H (fun e _ w => (e = .normal ∧ ∃ x', Inv x' ∧ Hp w0 (HI x') w) ∨ R e w) .normal := fun _ _ _ hw => .inl ⟨rfl, x', hi, hw.sub h⟩
theorem JQ.bodS {P : Program} {r : Option Nat} {n : Nat} {ds : List Deferred} {w0 : World} {σ : Slots} {H : Blocks} {X : Type} {HI : X → Blocks} {Stp : Code → X → Prop} {R : Exit → World → Prop} {e : Exit} (c : Code) (x' : X) (he : stopCode e = some c) (hi : Stp c x') (h : Sub (HI x') H) :
    JQ ⟨P, r, n, ds, w0⟩ σ H (fun e _ w => R e w ∨ ∃ c x', stopCode e = some c ∧ Stp c x' ∧ Hp w0 (HI x') w) e := fun _ _ _ hw => .inr ⟨c, x', he, hi, hw.sub h⟩

/-! ### The end of a function that holds such a range: with the mark, and ahead of it -/
def marked (D : Nat) : List Deferred := [{ target := .collected D, args := #[] }]
theorem JQ.endMs {P : Program} {fn : Func} {w0 : World} {σ : Slots} {H : Blocks} {n D : Nat} {H' : Blocks} {Y : Value → Blocks → Prop} {rv : Value} {e : Exit} (he : e = .ret ∨ e = .normal)
    (hD : (D, Obj.deferred (some [])) ∈ H) (hs : ∃ H1, Upd D (.deferred (some [])) (.deferred none) H H1 ∧ Sub H' H1 ∧ ∀ a w, Fr n (marked D) σ a → Hp w0 H1 w → (results fn a.tmps).run P w = .ok rv w) (hY : Y rv H') :
    JQ ⟨P, none, n, [{ target := .collected D, args := #[] }], w0⟩ σ H (bodyPostM (Fw none) 7 P fn (Ret w0 Y)) e := fun a w hf hw => by
  obtain ⟨H1, hu, hs, h1'⟩ := hs
  have hw1 : Hp w0 H1 (w.putObj D (.deferred none)) := hw.putObj hu
  have : LeavesInM (Fw none) 7 P fn a.tmps (Ret w0 Y) a.defers .returning w := by
    rw [hf.defers]
    refine ⟨by simp, .inl ⟨D, _, rfl, run_takeDeferred (hw.get hD), rv, h1' a _ hf hw1, rv, H', rfl, hw1.sub hs, hY⟩⟩
  rcases he with rfl | rfl <;> exact this
theorem JQ.endM0s {P : Program} {fn : Func} {w0 : World} {σ : Slots} {H : Blocks} {n : Nat} {H' : Blocks} {Y : Value → Blocks → Prop} {rv : Value} {e : Exit} (he : e = .ret ∨ e = .normal)
    (hs : Sub H' H) (h1' : ∀ a w, Fr n [] σ a → Hp w0 H w → (results fn a.tmps).run P w = .ok rv w) (hY : Y rv H') :
    JQ ⟨P, none, n, [], w0⟩ σ H (bodyPostM (Fw none) 7 P fn (Ret w0 Y)) e := fun a w hf hw => by
  have : LeavesInM (Fw none) 7 P fn a.tmps (Ret w0 Y) a.defers .returning w := by
    rw [hf.defers]
    exact ⟨rv, h1' a w hf hw, rv, H', rfl, hw.sub hs, hY⟩
  rcases he with rfl | rfl <;> exact this

section
variable {P : Program} {fn : Func} {w0 : World} {σ : Slots} {H : Blocks} {n : Nat} {ds : List Deferred}
theorem res0 (hr : fn.results = #[]) : ∀ a w, Fr n ds σ a → Hp w0 H w → (results fn a.tmps).run P w = .ok (.tuple #[]) w := fun a w hf hw => by
  rw [results_eq, hr]; simp
theorem res1 {r1 : ResultVar} {v1 : Value} (hr : fn.results = #[r1]) (h1 : Rv P σ H r1 v1) : ∀ a w, Fr n ds σ a → Hp w0 H w → (results fn a.tmps).run P w = .ok v1 w := fun a w hf hw => by
  rw [results_eq, hr]; simp [Rv.run h1 hf hw]
theorem res2 {r1 r2 : ResultVar} {v1 v2 : Value} (hr : fn.results = #[r1, r2]) (h1 : Rv P σ H r1 v1) (h2 : Rv P σ H r2 v2) : ∀ a w, Fr n ds σ a → Hp w0 H w → (results fn a.tmps).run P w = .ok (.tuple #[v1, v2]) w := fun a w hf hw => by
  rw [results_eq, hr]; simp [Rv.run h1 hf hw, Rv.run h2 hf hw]
theorem res3 {r1 r2 r3 : ResultVar} {v1 v2 v3 : Value} (hr : fn.results = #[r1, r2, r3]) (h1 : Rv P σ H r1 v1) (h2 : Rv P σ H r2 v2) (h3 : Rv P σ H r3 v3) : ∀ a w, Fr n ds σ a → Hp w0 H w → (results fn a.tmps).run P w = .ok (.tuple #[v1, v2, v3]) w := fun a w hf hw => by
  rw [results_eq, hr]; simp [Rv.run h1 hf hw, Rv.run h2 hf hw, Rv.run h3 hf hw]
end
end Go.Proofs.YtebinlinhmohbaaDoor
