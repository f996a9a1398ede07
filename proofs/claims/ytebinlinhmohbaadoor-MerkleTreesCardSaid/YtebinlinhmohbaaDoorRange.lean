/-
  A range over a function whose body always goes on: the rounds one by one, over the blocks that the caller holds.
-/
import Derived.Test.YtebinlinhmohbaaDoorShaMem
namespace Go.Proofs.YtebinlinhmohbaaDoor
open Go Go.RowKit

theorem roundIn_any {r : Option Nat} {n m l : Nat} {P : Program} {f : FuncId} {tmps : Array Value} {assign body : Code} {w : World} {R : Ending → World → Prop}
    (h : RoundIn (Fw r) n P l f tmps assign body w R) : RoundIn (Fw r) m P l f tmps assign body w R := ⟨h.1, fun c cs _ => h.2 c cs (fun d hd => by cases hd)⟩

/-- A call of the round's own function comes to R. -/
def YieldOk (P : Program) (l : Nat) (args : Array Value) (w : World) (R : Ending → World → Prop) : Prop :=
  ∃ fn tmps assign body, (Instr.yield l args).run P w = .ok (.round l fn tmps assign body) w ∧ RoundIn (Fw none) 6 P l fn tmps assign body w R

section
variable {c : Cx} {σ : Slots} {H : Blocks} {Q : Post1} {ops : Array Oper}

/-- The call of yield, as an iterator makes it. -/
theorem JL.yield {d l : Nat} {f : Operand} {xs : List Operand} {ats : Array TypeId} {ty : TypeId} {pos : String} {af : Array Edge} {gd : Option (Nat × Bool)} {vs : List Value} {H' : Blocks} {rest : List Oper}
    (hr : c.r = none) (hdn : Nat.blt d c.n = true) (g : Gd ops σ gd true) (hf : ev σ f = some (.func (.yield l) #[] #[])) (hx : evs σ xs = some vs)
    (hy : ∀ w, Hp c.w0 H w → YieldOk c.P l vs.toArray w (fun e w' => e = .returned (.bool true) ∧ Hp c.w0 H' w'))
    (h : JL c ops ((d, .bool true) :: σ) H' rest Q) :
    JL c ops σ H ({ dst := some d, op := .call { callee := .value f, args := xs.toArray, argTypes := ats }, type := ty, pos := pos, after := af, guard := gd } :: rest) Q := fun a w hfr hw => by
  obtain ⟨fn, tmps, assign, body, hrun, hround⟩ := hy w hw
  unfold wpListIn
  rw [if_pos (g.wanted hfr)]
  refine ⟨fun _ _ => trivial, ?_⟩
  rw [Oper.semAt_eq _ _ _ (notDefer_ne rfl)]
  have e1 := hfr.ev hf
  have e2 := hfr.evs hx
  have key : (execOp a.eval { dst := some d, op := .call { callee := .value f, args := xs.toArray, argTypes := ats }, type := ty, pos := pos, after := af, guard := gd }).run c.P w = .ok (.round l fn tmps assign body) w := by
    simp only [execOp, resolve, e1, List.map_toArray, e2, Deferred.ofValue, Sem.run_bind, Sem.run_pure, Result.andThen_ok, invoke]
    simpa using hrun
  rw [key]
  refine ⟨fun h => by simp [Fw] at h, ?_⟩
  rw [hr]
  refine (roundIn_any hround).mono ?_
  rintro e w' ⟨rfl, hw'⟩
  have := h _ w' (hfr.put (Nat.le_of_ble_eq_true hdn) (.bool true)) hw'
  rw [hr] at this
  exact this
end

theorem Hp.putObj {w0 w : World} {H H' : Blocks} {b : Nat} {o o' : Obj} (h : Hp w0 H w) (hu : Upd b o o' H H') : Hp w0 H' (w.putObj b o') := h.upd hu rfl

theorem Sub.two {x y : Nat × Obj} {A H : Blocks} (h : Sub A H) : Sub (A ++ [x, y]) (x :: y :: H) := by
  suffices key : ∀ (A H : Blocks), Sub A H → Sub (A ++ [x, y]) (x :: y :: H) from key A H h
  intro A H h
  induction h with
  | nil => exact .cons .here (.cons .here .nil)
  | all =>
    rename_i H
    have one : ∀ (B C : Blocks), Sub B C → ∀ z, Sub (z :: B) (z :: C) := fun B C h z => .cons .here h
    induction H with
    | nil => exact .all
    | cons z H ih => exact .cons (.there (.there .here)) ih
  | cons hp _ ih => exact .cons (.there (.there hp)) ih

theorem Upd.tail {b : Nat} {o o' : Obj} (A : Blocks) (B : Blocks) : Upd b o o' (A ++ (b, o) :: B) (A ++ (b, o') :: B) := by
  induction A with
  | nil => exact .here
  | cons x A ih => exact .there ih

theorem JC.range {P : Program} {n : Nat} {w0 : World} {σ : Slots} {H : Blocks} {g : Operand} {p : Nat} {assign body : Code} {Q : Post1} {gf : FuncId} {lb : List Value}
    (N : Nat) (HI : Nat → Blocks → Blocks) (val : Nat → Value) (σ1 : Nat → Slots)
    (hHI : ∀ k E, HI k E = HI k [] ++ E) (hg : ev σ g = some (.func (.func gf) #[] lb.toArray)) (hent : ∀ args w, (callFunc gf args).run P w = .ok (.enter gf args) w)
    (h0 : Sub (HI 0 []) H) (hpn : Nat.blt p n = true)
    (hiter : ∀ (l : Nat) (E : Blocks) (w : World), Hp w0 (HI 0 E) w →
      (∀ k, k < N → ∀ w1, Hp w0 (HI k E) w1 → YieldOk P l #[val k] w1 (fun e w' => e = .returned (.bool true) ∧ Hp w0 (HI (k + 1) E) w')) →
      Calls P gf (#[.func (.yield l) #[] #[]] ++ lb.toArray) w (Ret w0 fun _ H' => H' = HI N E))
    (hassign : ∀ (l k : Nat) (E : Blocks), k < N → JC ⟨P, some l, n, [], w0⟩ ((p, val k) :: σ) (HI k E) assign (fun e a w => e = .normal ∧ Fr n [] (σ1 k) a ∧ Hp w0 (HI k E) w))
    (hbody : ∀ (l k : Nat) (E : Blocks), k < N → JC ⟨P, some l, n, [], w0⟩ (σ1 k) (HI k E) body (fun e _ w => e = .normal ∧ Hp w0 (HI (k + 1) E) w))
    (hdone : ∀ (D : Nat) (E : Blocks), JQ ⟨P, none, n, [{ target := .collected D, args := #[] }], w0⟩ σ (HI N ((D, .deferred (some [])) :: E)) Q .normal) :
    JC ⟨P, none, n, [], w0⟩ σ H (.rangeFunc g #[p] assign body) Q := fun a w hf hw => by
  show (Code.rangeFunc g #[p] assign body).wpIn (Fw none) 7 P Q a w
  refine wpIn_rangeFunc (F := Fw none) ?_
  intro fn _
  obtain ⟨rec, hrec⟩ : ∃ rec : LoopState → Loop, rec = fun st => { state := st, pending := none, fn, tmps := a.tmps, params := #[p], assign, body, defers := w.heap.size } := ⟨_, rfl⟩
  have hW1 : Hp w0 ((w.heap.size + 1, Obj.loop (rec .ready)) :: (w.heap.size, Obj.deferred (some [])) :: H) ((w.alloc (.deferred (some []))).alloc (.loop (rec .ready))) := by
    have := (hw.alloc (Obj.deferred (some []))).alloc (Obj.loop (rec .ready))
    rwa [World.size_alloc] at this
  have hW2 : Hp w0 (HI 0 [(w.heap.size + 1, Obj.loop (rec .ready)), (w.heap.size, Obj.deferred (some []))]) ((w.alloc (.deferred (some []))).alloc (.loop (rec .ready))) := by
    rw [hHI]
    exact hW1.sub (Sub.two h0)
  have hgv := hf.ev hg
  refine ⟨w.heap.size + 1, [{ target := .collected w.heap.size, args := #[] }], (w.alloc (.deferred (some []))).alloc (.loop (rec .ready)), { target := .fn (.func gf) lb.toArray, args := #[.func (.yield (w.heap.size + 1)) #[] #[]] },
    (w.alloc (.deferred (some []))).alloc (.loop (rec .ready)), gf, #[.func (.yield (w.heap.size + 1)) #[] #[]] ++ lb.toArray, (w.alloc (.deferred (some []))).alloc (.loop (rec .ready)), ?_, ?_, fun _ _ => trivial, ?_, fun h => by simp [Fw] at h, ?_⟩
  · rw [hrec]
    exact run_enterLoop_outer _ _ _ _ _
  · simp only [resolve, hgv]
    simp [go_sem]
  · simp [invoke, go_sem, hent]
  · refine (callsW (hiter (w.heap.size + 1) [(w.heap.size + 1, Obj.loop (rec .ready)), (w.heap.size, Obj.deferred (some []))] _ hW2 ?_) none _).mono ?_
    · intro k hk w1 hw1
      have hl : w1.heap[w.heap.size + 1]? = some (.loop (rec .ready)) := hw1.get (by rw [hHI]; simp)
      have hy := run_yield (P := P) (args := #[val k]) hl (by rw [hrec]; rfl)
      refine ⟨(rec .ready).fn, _, (rec .ready).assign, (rec .ready).body, hy, ?_⟩
      refine roundIn_any (n := 7) (roundIn_of_wpIn (F := Fw none) trivial ?_)
      have hfr : Fr n [] ((p, val k) :: σ) { tmps := (((rec .ready).params).zip #[val k]).foldl (fun tmps (t, a) => tmps.setIfInBounds t a) (rec .ready).tmps, defers := [] } := by
        have := hf.put (Nat.le_of_ble_eq_true hpn) (val k)
        have e : (((rec .ready).params).zip #[val k]).foldl (fun tmps (t, a) => tmps.setIfInBounds t a) (rec .ready).tmps = (a.put (some p) (val k)).tmps := by
          rw [hrec]
          simp [Act.put]
        exact ⟨by simpa only [e] using this.size, rfl, fun t v h => by simpa only [e] using this.get t v h⟩
      have hassign' := hassign (w.heap.size + 1) k [(w.heap.size + 1, Obj.loop (rec .ready)), (w.heap.size, Obj.deferred (some []))] hk _ w1 hfr hw1
      have hfn : (rec .ready).assign = assign := by rw [hrec]
      have hbd : (rec .ready).body = body := by rw [hrec]
      rw [hfn, hbd]
      refine wpIn_mono hassign' ?_
      rintro e a1 w2 ⟨rfl, hf1, hw2⟩
      have hl2 : w2.heap[w.heap.size + 1]? = some (.loop (rec .ready)) := hw2.get (by rw [hHI]; simp)
      refine ⟨_, run_beginRound hl2 (by rw [hrec]), ?_⟩
      have hb := hbody (w.heap.size + 1) k [(w.heap.size + 1, Obj.loop { rec .ready with state := .busy }), (w.heap.size, Obj.deferred (some []))] hk a1 (w2.putObj (w.heap.size + 1) (.loop { rec .ready with state := .busy })) hf1
        (hw2.putObj (by rw [hHI k [(w.heap.size + 1, Obj.loop (rec .ready)), (w.heap.size, Obj.deferred (some []))], hHI k [(w.heap.size + 1, Obj.loop { rec .ready with state := .busy }), (w.heap.size, Obj.deferred (some []))]]; exact Upd.tail _ _))
      refine wpIn_mono hb ?_
      rintro e a3 w3 ⟨rfl, hw3⟩
      have hl3 : w3.heap[w.heap.size + 1]? = some (.loop { rec .ready with state := .busy }) := hw3.get (by rw [hHI]; simp)
      refine ⟨_, _, run_endRound none hl3, rfl, ?_⟩
      have : (Obj.loop { { rec .ready with state := .busy } with state := if (none : Option Code).isNone then .ready else .done, pending := none }) = Obj.loop (rec .ready) := by rw [hrec]; rfl
      rw [this]
      refine hw3.putObj (o := Obj.loop { rec .ready with state := .busy }) ?_
      rw [hHI (k + 1) [(w.heap.size + 1, Obj.loop (rec .ready)), (w.heap.size, Obj.deferred (some []))], hHI (k + 1) [(w.heap.size + 1, Obj.loop { rec .ready with state := .busy }), (w.heap.size, Obj.deferred (some []))]]
      exact Upd.tail _ _
    · rintro e w2 ⟨v, H', rfl, hw2, rfl⟩
      have hl : w2.heap[w.heap.size + 1]? = some (.loop (rec .ready)) := hw2.get (by rw [hHI]; simp)
      refine ⟨none, w2.putObj (w.heap.size + 1) (.loop { rec .ready with state := .exhausted }), ?_, hdone w.heap.size [(w.heap.size + 1, Obj.loop { rec .ready with state := .exhausted })] _ _ ⟨hf.size, by simp [hf.defers], hf.get⟩ ?_⟩
      · refine (run_endLoop (P := P) hl (by rw [hrec]; simp)).trans ?_
        rw [hrec]
      · have h1 := hw2.putObj (b := w.heap.size + 1) (o := Obj.loop (rec .ready)) (o' := Obj.loop { rec .ready with state := .exhausted }) (H' := HI N [(w.heap.size + 1, Obj.loop { rec .ready with state := .exhausted }), (w.heap.size, Obj.deferred (some []))])
          (by rw [hHI N [(w.heap.size + 1, Obj.loop (rec .ready)), (w.heap.size, Obj.deferred (some []))], hHI N [(w.heap.size + 1, Obj.loop { rec .ready with state := .exhausted }), (w.heap.size, Obj.deferred (some []))]]; exact Upd.tail _ _)
        rw [hHI] at h1
        rw [hHI]
        exact h1.perm (List.Perm.append_left _ (List.Perm.swap _ _ _))

/-- The end of a round's assignment, and of its body. -/
theorem JQ.asg {P : Program} {r : Option Nat} {n : Nat} {ds : List Deferred} {w0 : World} {σ σ' : Slots} {H : Blocks} (h : ∀ p ∈ σ', look σ p.1 = some p.2) :
    JQ ⟨P, r, n, ds, w0⟩ σ H (fun e a w => e = .normal ∧ Fr n ds σ' a ∧ Hp w0 H w) .normal := fun _ _ hf hw => ⟨rfl, hf.weaken h, hw⟩
theorem JQ.bod {P : Program} {r : Option Nat} {n : Nat} {ds : List Deferred} {w0 : World} {σ : Slots} {H H' : Blocks} (h : Sub H' H) :
    JQ ⟨P, r, n, ds, w0⟩ σ H (fun e _ w => e = .normal ∧ Hp w0 H' w) .normal := fun _ _ _ hw => ⟨rfl, hw.sub h⟩

/-- The entry of a function that holds such a range. -/
theorem enterM {P : Program} {f : FuncId} {fn : Func} {x : Code} {vs : List Value} {w : World} {R : Ending → World → Prop} {n : Nat}
    (hf : P.funcs[f]? = some fn) (hb : fn.body = some x) (hn : fn.ntmps = n) (hle : Nat.ble vs.length n = true)
    (h : JC ⟨P, none, n, [], w⟩ (slots0 0 vs) [] x (bodyPostM (Fw none) 7 P fn R)) : Calls P f vs.toArray w R := by
  refine callsIn_wide.1 (callsIn_of_wp_marks (F := Fw none) (n := 7) hf hb trivial ?_ rfl)
  refine h _ w ⟨?_, rfl, ?_⟩ (Hp.start w)
  · have := Nat.le_of_ble_eq_true hle
    simp [hn]; omega
  · intro t v hv
    obtain ⟨_, h2⟩ := look_slots0 vs 0 t v hv
    have hlt : t < vs.length := (List.getElem?_eq_some_iff.1 h2).1
    rw [Array.getElem?_append_left (by simpa using hlt)]
    simpa using h2

/-- Its end, with one result. -/
theorem JQ.endM1 {P : Program} {fn : Func} {w0 : World} {σ : Slots} {H : Blocks} {n D : Nat} {H' : Blocks} {Y : Value → Blocks → Prop} {r1 : ResultVar} {v : Value} {e : Exit} (he : e = .ret ∨ e = .normal)
    (hr : fn.results = #[r1]) (hD : (D, Obj.deferred (some [])) ∈ H) (hs : ∃ H1, Upd D (.deferred (some [])) (.deferred none) H H1 ∧ Sub H' H1 ∧ Rv P σ H1 r1 v) (hY : Y v H') :
    JQ ⟨P, none, n, [{ target := .collected D, args := #[] }], w0⟩ σ H (bodyPostM (Fw none) 7 P fn (Ret w0 Y)) e := fun a w hf hw => by
  obtain ⟨H1, hu, hs, h1'⟩ := hs
  have hw1 : Hp w0 H1 (w.putObj D (.deferred none)) := hw.putObj hu
  have : LeavesInM (Fw none) 7 P fn a.tmps (Ret w0 Y) a.defers .returning w := by
    rw [hf.defers]
    refine ⟨by simp, .inl ⟨D, _, rfl, run_takeDeferred (hw.get hD), v, ?_, v, H', rfl, hw1.sub hs, hY⟩⟩
    rw [results_eq, hr]
    simp [Rv.run h1' hf hw1]
  rcases he with rfl | rfl <;> exact this
end Go.Proofs.YtebinlinhmohbaaDoor
