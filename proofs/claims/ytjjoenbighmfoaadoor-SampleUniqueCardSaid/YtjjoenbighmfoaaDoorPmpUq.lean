/-
  A map from places to numbers, of the call's own: looked up, entries made, written; ranged over.
-/
import Derived.Test.YtjjoenbighmfoaaDoorSrtUq
import Derived.Maps.RangeRun
namespace Go.Proofs.YtjjoenbighmfoaaDoor
open Go Go.RowKit

theorem leq_pl {P : Program} {T e1 e2 : TypeId} {n1 n2 p1 p2 g1 g2 : String} {m1 m2 : Bool} {b1 b2 : Nat} (hT : P.underlying T = some (.struct #[⟨n1, e1, 0, m1, g1, p1, b1⟩, ⟨n2, e2, 1, m2, g2, p2, b2⟩]))
    (h1 : P.underlying e1 = some (.int .i64)) (h2 : P.underlying e2 = some (.int .i64)) (hp : P.stoodInHeld T = false) (hn1 : n1 ≠ "_") (hn2 : n2 ≠ "_") (p q : Pl) (w : World) :
    (Op.equal T (.agg (plc p).toArray) (.agg (plc q).toArray)).run P w = .ok (decide (p = q)) w := run_eq_pl hT h1 h2 hp hn1 hn2 p q w
def plk (p : Pl) : Value := .agg (plc p).toArray
def pme (m : Pl × Int) : Value × Value := (plk m.1, .int .i64 m.2)
theorem plk_inj {p q : Pl} (h : plk p = plk q) : p = q := by
  unfold plk plc at h
  injection h with h
  have h1 := congrArg Array.toList h
  simp only [List.cons.injEq, Value.int.injEq, true_and, and_true] at h1
  exact Prod.ext h1.1 h1.2
theorem modify_last {α : Type} (a : α) (f : α → α) : ∀ l : List α, (l ++ [a]).modify l.length f = l ++ [f a]
  | [] => rfl
  | x :: l => by rw [List.cons_append, List.length_cons, List.modify_succ_cons, modify_last a f l]; rfl
/-- What a place is told. -/
def getC : List (Pl × Int) → Pl → Int
  | [], _ => 0
  | m :: ms, p => if m.1 = p then m.2 else getC ms p
theorem getC_new {p : Pl} : ∀ {ms : List (Pl × Int)}, p ∉ ms.map Prod.fst → getC (ms ++ [(p, 0)]) p = getC ms p
  | [], _ => by simp [getC]
  | m :: ms, h => by
    simp only [List.map_cons, List.mem_cons, not_or] at h
    rw [List.cons_append, getC, getC, getC_new h.2]
/-- Once more. -/
def bump : List (Pl × Int) → Pl → List (Pl × Int)
  | [], p => [(p, 1)]
  | m :: ms, p => if m.1 = p then (p, m.2 + 1) :: ms else m :: bump ms p
def cntL (l : List Pl) : List (Pl × Int) := l.foldl bump []
theorem cntL_snoc (l : List Pl) (p : Pl) : cntL (l ++ [p]) = bump (cntL l) p := by rw [cntL, List.foldl_append]; rfl
theorem getC_bump (p q : Pl) : ∀ ms : List (Pl × Int), getC (bump ms p) q = getC ms q + if p = q then 1 else 0
  | [] => by
    rw [bump, getC, getC]
    split <;> simp_all [getC]
  | m :: ms => by
    rw [bump]
    by_cases h : m.1 = p
    · subst h
      rw [if_pos rfl, getC, getC]
      by_cases h2 : m.1 = q
      · rw [if_pos h2, if_pos h2, if_pos h2]
      · rw [if_neg h2, if_neg h2, if_neg h2]; omega
    · rw [if_neg h, getC, getC, getC_bump p q ms]
      by_cases h2 : m.1 = q
      · rw [if_pos h2, if_pos h2, if_neg (fun h3 => h (h2.trans h3.symm))]; omega
      · rw [if_neg h2, if_neg h2]
theorem keys_bump (p x : Pl) : ∀ ms : List (Pl × Int), x ∈ (bump ms p).map Prod.fst ↔ x ∈ ms.map Prod.fst ∨ x = p
  | [] => by simp [bump]
  | m :: ms => by
    rw [bump]
    by_cases h : m.1 = p
    · subst h
      rw [if_pos rfl]
      simp only [List.map_cons, List.mem_cons]
      exact ⟨fun h => .inl h, fun h => h.elim id fun e => .inl e⟩
    · rw [if_neg h]
      simp only [List.map_cons, List.mem_cons, keys_bump p x ms, or_assoc]
theorem nodup_bump (p : Pl) : ∀ ms : List (Pl × Int), (ms.map Prod.fst).Nodup → ((bump ms p).map Prod.fst).Nodup
  | [], _ => by simp [bump]
  | m :: ms, h => by
    rw [List.map_cons, List.nodup_cons] at h
    rw [bump]
    by_cases h1 : m.1 = p
    · subst h1
      rw [if_pos rfl, List.map_cons, List.nodup_cons]
      exact h
    · rw [if_neg h1, List.map_cons, List.nodup_cons]
      exact ⟨fun h2 => ((keys_bump p m.1 ms).1 h2).elim h.1 h1, nodup_bump p ms h.2⟩
theorem fold_spec : ∀ (l : List Pl) (ms : List (Pl × Int)), (ms.map Prod.fst).Nodup → ((l.foldl bump ms).map Prod.fst).Nodup ∧ (∀ x, x ∈ (l.foldl bump ms).map Prod.fst ↔ x ∈ ms.map Prod.fst ∨ x ∈ l)
  | [], ms, h => ⟨h, fun x => by simp⟩
  | p :: l, ms, h => by
    obtain ⟨h1, h2⟩ := fold_spec l (bump ms p) (nodup_bump p ms h)
    refine ⟨h1, fun x => ?_⟩
    rw [List.foldl_cons, h2 x, keys_bump, List.mem_cons, or_assoc]
theorem cntL_nodup (l : List Pl) : ((cntL l).map Prod.fst).Nodup := (fold_spec l [] .nil).1
theorem cntL_mem (l : List Pl) (x : Pl) : x ∈ (cntL l).map Prod.fst ↔ x ∈ l := by rw [cntL, (fold_spec l [] .nil).2 x]; simp
theorem fold_get : ∀ (l : List Pl) (ms : List (Pl × Int)) (q : Pl), getC (l.foldl bump ms) q = getC ms q + cntP l q
  | [], ms, q => by simp [cntP]
  | p :: l, ms, q => by
    rw [List.foldl_cons, fold_get l, getC_bump]
    have h : cntP (p :: l) q = (if p = q then 1 else 0) + cntP l q := by
      unfold cntP
      rw [List.filter_cons]
      by_cases h : p = q
      · simp [h]; omega
      · simp [h]
    rw [h]
    omega
theorem cntL_get (l : List Pl) (q : Pl) : getC (cntL l) q = cntP l q := by rw [cntL, fold_get]; simp [getC]
theorem bump_le (p : Pl) : ∀ ms : List (Pl × Int), (bump ms p).length ≤ ms.length + 1
  | [] => Nat.le_refl _
  | m :: ms => by
    rw [bump]
    split
    · simp
    · rw [List.length_cons, List.length_cons]; exact Nat.succ_le_succ (bump_le p ms)
theorem cntL_le : ∀ l : List Pl, (cntL l).length ≤ l.length := fun l => by
  have : ∀ (l : List Pl) (ms : List (Pl × Int)), (l.foldl bump ms).length ≤ ms.length + l.length := by
    intro l
    induction l with
    | nil => exact fun _ => Nat.le_refl _
    | cons p l ih =>
      intro ms
      have h1 := ih (bump ms p)
      have h2 := bump_le p ms
      rw [List.foldl_cons, List.length_cons]
      omega
  have h := this l []
  rw [cntL]
  simpa using h
/-- The map's entries, as told. -/
structure PmOk (es : Array MapEntry) (clock : Nat) (ms : List (Pl × Int)) : Prop where
  eq : es.toList.map kv = ms.map pme
  lt : ∀ x ∈ es.toList, x.born < clock
  nd : (es.toList.map (·.born)).Nodup
theorem pm_nil : PmOk #[] 0 [] := ⟨rfl, by simp, by simp⟩
/-- Where a place's entry lies. -/
theorem find_pl {P : Program} {T e1 e2 : TypeId} {n1 n2 p1 p2 g1 g2 : String} {m1 m2 : Bool} {b1 b2 : Nat} (hT : P.underlying T = some (.struct #[⟨n1, e1, 0, m1, g1, p1, b1⟩, ⟨n2, e2, 1, m2, g2, p2, b2⟩]))
    (h1 : P.underlying e1 = some (.int .i64)) (h2 : P.underlying e2 = some (.int .i64)) (hp : P.stoodInHeld T = false) (hn1 : n1 ≠ "_") (hn2 : n2 ≠ "_") (p : Pl) (w : World) : ∀ (es : List MapEntry) (ms : List (Pl × Int)) (i : Nat), es.map kv = ms.map pme →
    ((Instr.findAsking T (plk p) es i).run P w = .ok none w ∧ p ∉ ms.map Prod.fst ∧ getC ms p = 0 ∧ bump ms p = ms ++ [(p, 1)]) ∨
    ∃ j e, (Instr.findAsking T (plk p) es i).run P w = .ok (some (i + j, e.val)) w ∧ es[j]? = some e ∧ e.key = plk p ∧ e.val = .int .i64 (getC ms p) ∧ (es.modify j fun e => { e with key := plk p, val := .int .i64 (getC ms p + 1) }).map kv = (bump ms p).map pme
  | [], [], i, _ => .inl ⟨by simp [Instr.findAsking], by simp, rfl, rfl⟩
  | [], m :: ms, _, h => by cases h
  | e :: es, [], _, h => by cases h
  | e :: es, m :: ms, i, h => by
    simp only [List.map_cons, List.cons.injEq] at h
    obtain ⟨h3, h4⟩ := h
    have hk : e.key = plk m.1 := congrArg Prod.fst h3
    have hv : e.val = .int .i64 m.2 := congrArg Prod.snd h3
    have hq : (Op.equal T (plk p) e.key).run P w = .ok (decide (p = m.1)) w := by rw [hk]; exact leq_pl hT h1 h2 hp hn1 hn2 p m.1 w
    by_cases hpm : m.1 = p
    · refine .inr ⟨0, e, ?_, rfl, by rw [hk, hpm], by rw [getC, if_pos hpm, hv], ?_⟩
      · simp [Instr.findAsking, hq, hpm]
      · rw [bump, if_pos hpm, getC, if_pos hpm]
        simp only [List.modify_zero_cons, List.map_cons, h4]
        rfl
    · have hne : ¬ p = m.1 := fun h => hpm h.symm
      rcases find_pl hT h1 h2 hp hn1 hn2 p w es ms (i + 1) h4 with ⟨q1, q2, q3, q4⟩ | ⟨j, e', q1, q2, q3, q4, q5⟩
      · refine .inl ⟨by simp [Instr.findAsking, hq, hne, q1], ?_, by rw [getC, if_neg hpm, q3], by rw [bump, if_neg hpm, q4]; rfl⟩
        simp only [List.map_cons, List.mem_cons, not_or]
        exact ⟨hne, q2⟩
      · refine .inr ⟨j + 1, e', ?_, by simpa using q2, q3, by rw [getC, if_neg hpm, q4], ?_⟩
        · simp only [Instr.findAsking, Sem.run_bind, hq, Result.andThen_ok, decide_eq_false hne, Bool.false_eq_true, if_false, q1]
          rw [show i + 1 + j = i + (j + 1) by omega]
        · rw [bump, if_neg hpm, getC, if_neg hpm]
          simp only [List.modify_succ_cons, List.map_cons, q5, h3]
section
variable {P : Program} {T e1 e2 : TypeId} {n1 n2 p1 p2 g1 g2 : String} {m1 m2 : Bool} {b1 b2 : Nat}
theorem run_find_pl (hT : P.underlying T = some (.struct #[⟨n1, e1, 0, m1, g1, p1, b1⟩, ⟨n2, e2, 1, m2, g2, p2, b2⟩])) {p : Pl} {w : World} {es : List MapEntry} {ms : List (Pl × Int)} (hm : es.map kv = ms.map pme) {a : Option (Nat × Value)} (h : (Instr.findAsking T (plk p) es 0).run P w = .ok a w) :
    (Instr.findKey T (plk p) es).run P w = .ok a w := by
  unfold Instr.findKey
  simp only [Sem.run_bind, run_underlying hT, Result.andThen_ok]
  match es, ms, hm with
  | [], _, _ => simpa [Instr.findNow, Instr.findAsking] using h
  | e :: es, m :: ms, hm =>
    have hk : e.key = plk m.1 := by simp only [List.map_cons, List.cons.injEq] at hm; exact congrArg Prod.fst hm.1
    have : Instr.findNow (.struct #[⟨n1, e1, 0, m1, g1, p1, b1⟩, ⟨n2, e2, 1, m2, g2, p2, b2⟩]) (plk p) (e :: es) 0 = none := by
      rw [Instr.findNow, hk]
      rfl
    rw [this]
    exact h
theorem run_check_pl (hT : P.underlying T = some (.struct #[⟨n1, e1, 0, m1, g1, p1, b1⟩, ⟨n2, e2, 1, m2, g2, p2, b2⟩])) (h1 : P.underlying e1 = some (.int .i64)) (h2 : P.underlying e2 = some (.int .i64)) (b : Bool) (p : Pl) (w : World) :
    (Instr.checkKey b 10000 T (plk p)).run P w = .ok () w := by
  have c1 : ∀ (n : Nat) (z : Int) (e : TypeId), P.underlying e = some (.int .i64) → (Instr.checkKey b (n + 1) e (.int .i64 z)).run P w = .ok () w := fun n z e he => by
    unfold Instr.checkKey
    simp [run_underlying he]
  unfold Instr.checkKey plk
  simp only [Sem.run_bind, run_underlying hT, Result.andThen_ok]
  by_cases q1 : n1 = "_" <;> by_cases q2 : n2 = "_" <;> simp [plc, part, run_isAgg h1, run_isAgg h2, aggB, c1 9998 _ _ h1, c1 9998 _ _ h2, q1, q2]
theorem keyStays (p : Pl) (w : World) : (Instr.keyThatStays (plk p) (plk p)).run P w = .ok (plk p) w := by
  have : Instr.sameBits 10000 (plk p) (plk p) = true := by
    simp [plk, plc, Instr.sameBits]
  simp [Instr.keyThatStays, this]
end
section
variable {c : Cx} {σ : Slots} {H : Blocks} {ty : TypeId} {pos : String} {af : Array Edge} {gd : Option (Nat × Bool)} {dst : Option Nat}
variable {T kt et e1 e2 : TypeId} {n1 n2 p1 p2 g1 g2 : String} {m1 m2 : Bool} {b1 b2 : Nat}
theorem Ev.lookP {x y : Operand} {b clock : Nat} {es : Array MapEntry} {ms : List (Pl × Int)} {p : Pl} (hx : ev σ x = some (.map (some b))) (hy : ev σ y = some (plk p)) (hT : c.P.underlying T = some (.map kt et)) (hkt : c.P.underlying kt = some (.struct #[⟨n1, e1, 0, m1, g1, p1, b1⟩, ⟨n2, e2, 1, m2, g2, p2, b2⟩]))
    (h1 : c.P.underlying e1 = some (.int .i64)) (h2 : c.P.underlying e2 = some (.int .i64)) (hp : c.P.stoodInHeld kt = false) (hn1 : n1 ≠ "_") (hn2 : n2 ≠ "_")
    (hz : ∀ w, (zeroValue et).run c.P w = .ok (.int .i64 0) w) (hb : (b, Obj.map es clock) ∈ H) (hm : es.toList.map kv = ms.map pme) :
    Ev c σ H ⟨dst, .lookup T x y false, ty, pos, af, gd⟩ (.int .i64 (getC ms p)) := fun A w hf hw => by
  have e : execOp A.eval ⟨dst, .lookup T x y false, ty, pos, af, gd⟩ = (do pure (Next.value (← Instr.lookup T (A.eval x) (A.eval y) false))) := rfl
  rw [e, hf.ev hx, hf.ev hy]
  have hg := hw.get hb
  rcases find_pl hkt h1 h2 hp hn1 hn2 p w es.toList ms 0 hm with ⟨q1, _, q3, _⟩ | ⟨j, e', q1, _, _, q4, _⟩
  · have hq := run_find_pl hkt hm q1
    rw [q3]
    simp [Instr.lookup, run_underlying hT, Go.MapKept.run_getObj_map hg, run_check_pl hkt h1 h2, hq, hz]
  · have hq := run_find_pl hkt hm q1
    rw [q4] at hq
    simp [Instr.lookup, run_underlying hT, Go.MapKept.run_getObj_map hg, run_check_pl hkt h1 h2, hq]
/-- What a lookup answers. -/
def PmLook (es : Array MapEntry) (p : Pl) (n : Int) : Prop := ∃ ms : List (Pl × Int), es.toList.map kv = ms.map pme ∧ getC ms p = n
theorem PmOk.look {es : Array MapEntry} {clock : Nat} {ms : List (Pl × Int)} (h : PmOk es clock ms) (p : Pl) : PmLook es p (getC ms p) := ⟨ms, h.eq, rfl⟩
theorem Ev.lookQ {x y : Operand} {b clock : Nat} {es : Array MapEntry} {p : Pl} {n : Int} (hx : ev σ x = some (.map (some b))) (hy : ev σ y = some (plk p)) (hT : c.P.underlying T = some (.map kt et)) (hkt : c.P.underlying kt = some (.struct #[⟨n1, e1, 0, m1, g1, p1, b1⟩, ⟨n2, e2, 1, m2, g2, p2, b2⟩]))
    (h1 : c.P.underlying e1 = some (.int .i64)) (h2 : c.P.underlying e2 = some (.int .i64)) (hp : c.P.stoodInHeld kt = false) (hn1 : n1 ≠ "_") (hn2 : n2 ≠ "_")
    (hz : ∀ w, (zeroValue et).run c.P w = .ok (.int .i64 0) w) (hb : (b, Obj.map es clock) ∈ H) (hm : PmLook es p n) :
    Ev c σ H ⟨dst, .lookup T x y false, ty, pos, af, gd⟩ (.int .i64 n) := by
  obtain ⟨ms, h3, h4⟩ := hm
  rw [← h4]
  exact Ev.lookP hx hy hT hkt h1 h2 hp hn1 hn2 hz hb h3
/-- The state between an entry made and its value written: 's' stamps p's entry. -/
structure PmMid (es : Array MapEntry) (clock : Nat) (ms : List (Pl × Int)) (p : Pl) (s : Nat) : Prop where
  look : PmLook es p (getC ms p)
  lt : ∀ x ∈ es.toList, x.born < clock
  nd : (es.toList.map (·.born)).Nodup
  at' : ∃ j e, es[j]? = some e ∧ e.born = s ∧ (es.toList.modify j fun e => { e with val := .int .i64 (getC ms p + 1) }).map kv = (bump ms p).map pme
theorem Eg.entryP {x y : Operand} {b clock : Nat} {es : Array MapEntry} {ms : List (Pl × Int)} {p : Pl} {H0 : Blocks} (hx : ev σ x = some (.map (some b))) (hy : ev σ y = some (plk p)) (hT : c.P.underlying T = some (.map kt et)) (hkt : c.P.underlying kt = some (.struct #[⟨n1, e1, 0, m1, g1, p1, b1⟩, ⟨n2, e2, 1, m2, g2, p2, b2⟩]))
    (h1 : c.P.underlying e1 = some (.int .i64)) (h2 : c.P.underlying e2 = some (.int .i64)) (hp : c.P.stoodInHeld kt = false) (hn1 : n1 ≠ "_") (hn2 : n2 ≠ "_")
    (hz : ∀ w, (zeroValue et).run c.P w = .ok (.int .i64 0) w) (hcut : Cut [(b, Obj.map es clock)] H H0) (hm : PmOk es clock ms) :
    Eg c σ H ⟨dst, .mapEntry T x y, ty, pos, af, gd⟩ (fun v H' => ∃ (es' : Array MapEntry) (clock' s : Nat), v = .tuple #[.int .i64 (getC ms p), .int .i64 (s : Int)] ∧ H' = H0 ++ [(b, Obj.map es' clock')] ∧ PmMid es' clock' ms p s) := fun A w hf hw => by
  have e : execOp A.eval ⟨dst, .mapEntry T x y, ty, pos, af, gd⟩ = (do pure (Next.value (← Instr.mapEntry T (A.eval x) (A.eval y)))) := rfl
  rw [e, hf.ev hx, hf.ev hy]
  have hw' := hw.perm hcut.perm
  have hmem : (b, Obj.map es clock) ∈ H0 ++ [(b, Obj.map es clock)] := by simp
  have hg := hw'.get hmem
  have hup : ∀ (o' : Obj) (A : Blocks), Upd b (Obj.map es clock) o' (A ++ [(b, Obj.map es clock)]) (A ++ [(b, o')]) := by
    intro o' A
    induction A with
    | nil => exact .here
    | cons y A ih => exact .there ih
  rcases find_pl hkt h1 h2 hp hn1 hn2 p w es.toList ms 0 hm.eq with ⟨q1, q2, q3, q4⟩ | ⟨j, e', q1, q2, q3, q4, q5⟩
  · have hq := run_find_pl hkt hm.eq q1
    refine ⟨_, _, _, ?_, hw'.putObj (hup (.map (es.push { key := plk p, val := .int .i64 0, born := clock }) (clock + 1)) H0), _, _, clock, rfl, rfl, ?_⟩
    · rw [q3]
      simp [Instr.mapEntry, run_underlying hT, Go.MapKept.run_getObj_map hg, run_check_pl hkt h1 h2, hq, hz, Go.MapKept.run_setObj_map _ hg, goInt]
      rfl
    · refine ⟨⟨ms ++ [(p, 0)], ?_, ?_⟩, ?_, ?_, es.size, { key := plk p, val := .int .i64 0, born := clock }, by simp, rfl, ?_⟩
      · rw [Array.toList_push, List.map_append, List.map_append, hm.eq]
        rfl
      · exact getC_new q2
      · intro x hx
        simp only [Array.toList_push, List.mem_append, List.mem_singleton] at hx
        rcases hx with hx | rfl
        · exact Nat.lt_succ_of_lt (hm.lt x hx)
        · exact Nat.lt_succ_self _
      · simp only [Array.toList_push, List.map_append, List.map_cons, List.map_nil]
        refine List.nodup_append.2 ⟨hm.nd, by simp, ?_⟩
        intro a ha b hb
        simp only [List.mem_singleton] at hb
        subst hb
        obtain ⟨x, hx, rfl⟩ := List.mem_map.1 ha
        exact Nat.ne_of_lt (hm.lt x hx)
      · rw [q4, q3, Array.toList_push]
        have : (es.toList ++ [({ key := plk p, val := .int .i64 0, born := clock } : MapEntry)]).modify es.size (fun e => { e with val := .int .i64 (0 + 1) }) = es.toList ++ [{ key := plk p, val := .int .i64 1, born := clock }] := by
          rw [← Array.length_toList, modify_last]
          rfl
        rw [this, List.map_append, List.map_append, hm.eq]
        rfl
  · have hq := run_find_pl hkt hm.eq q1
    rw [Nat.zero_add] at hq
    have hj : es[j]? = some e' := by simpa using q2
    have hmod : (es.modify j fun e => { e with key := plk p }) = es := by
      apply Array.ext_getElem?
      intro i
      rw [Array.getElem?_modify]
      split
      · rename_i h3
        subst h3
        rw [hj]
        simp [← q3]
      · rfl
    refine ⟨_, _, _, ?_, hw'.putObj (hup (.map es clock) H0), _, _, e'.born, rfl, rfl, hm.look p, hm.lt, hm.nd, j, e', hj, rfl, ?_⟩
    · rw [q4] at hq
      simp [Instr.mapEntry, run_underlying hT, Go.MapKept.run_getObj_map hg, run_check_pl hkt h1 h2, hq, hj, q3, keyStays, Go.MapKept.run_setObj_map _ hg, goInt, hmod]
      rfl
    · rw [← q5]
      congr 1
      apply List.ext_getElem?
      intro i
      rw [List.getElem?_modify, List.getElem?_modify]
      split
      · rename_i h3
        subst h3
        rw [q2]
        simp [← q3]
      · rfl
/-- The value written at a stamp. -/
def StampTo (es es' : Array MapEntry) (s : Nat) (n : Int) : Prop := ∃ j, es.findIdx? (fun e => (e.born : Int) == (s : Int)) = some j ∧ es' = es.modify j fun e => { e with val := .int .i64 n }
theorem PmMid.stamp {clock s : Nat} {es : Array MapEntry} {ms : List (Pl × Int)} {p : Pl} (hm : PmMid es clock ms p s) : ∃ es', PmOk es' clock (bump ms p) ∧ StampTo es es' s (getC ms p + 1) := by
  obtain ⟨_, h1, h2, j, e, h3, h4, h5⟩ := hm
  have hb : (es.modify j fun e => { e with val := .int .i64 (getC ms p + 1) }).toList.map (·.born) = es.toList.map (·.born) := by
    apply List.ext_getElem?
    intro i
    simp only [List.getElem?_map, Array.getElem?_toList, Array.getElem?_modify]
    split
    · cases es[i]? <;> rfl
    · rfl
  refine ⟨es.modify j fun e => { e with val := .int .i64 (getC ms p + 1) }, ⟨by rw [Array.toList_modify]; exact h5, fun x hx => ?_, by rw [hb]; exact h2⟩, j, ?_, rfl⟩
  · have : x.born ∈ (es.modify j fun e => { e with val := .int .i64 (getC ms p + 1) }).toList.map (·.born) := List.mem_map.2 ⟨x, hx, rfl⟩
    rw [hb] at this
    obtain ⟨y, hy, e⟩ := List.mem_map.1 this
    rw [← e]
    exact h1 y hy
  · obtain ⟨hlt, hej⟩ := Array.getElem?_eq_some_iff.1 h3
    rw [Array.findIdx?_eq_some_iff_getElem]
    refine ⟨hlt, by rw [hej, h4]; simp, fun k hk => ?_⟩
    have hnd := List.pairwise_iff_getElem.1 h2 k j (by simp; omega) (by simpa using hlt) hk
    simp only [List.getElem_map, Array.getElem_toList] at hnd
    rw [hej, h4] at hnd
    simp only [beq_iff_eq]
    omega
theorem Es.stampP {x y z : Operand} {b clock s : Nat} {es es' : Array MapEntry} {n : Int} {H0 : Blocks} (hx : ev σ x = some (.map (some b))) (hy : ev σ y = some (.int .i64 (s : Int))) (hz : ev σ z = some (.int .i64 n)) (hcut : Cut [(b, Obj.map es clock)] H H0) (hm : StampTo es es' s n) :
    Es c σ H ⟨dst, .entryStore T x y z, ty, pos, af, gd⟩ (H0 ++ [(b, Obj.map es' clock)]) := fun A w hf hw => by
  obtain ⟨j, hfi, rfl⟩ := hm
  have hw' := hw.perm hcut.perm
  have hmem : (b, Obj.map es clock) ∈ H0 ++ [(b, Obj.map es clock)] := by simp
  have hg := hw'.get hmem
  have hup : ∀ (o' : Obj) (A : Blocks), Upd b (Obj.map es clock) o' (A ++ [(b, Obj.map es clock)]) (A ++ [(b, o')]) := by
    intro o' A
    induction A with
    | nil => exact .here
    | cons y A ih => exact .there ih
  have e0 : execOp A.eval ⟨dst, .entryStore T x y z, ty, pos, af, gd⟩ = (do Instr.entryStore T (A.eval x) (A.eval y) (A.eval z); pure Next.skip) := rfl
  rw [e0, hf.ev hx, hf.ev hy, hf.ev hz]
  refine ⟨_, ?_, hw'.putObj (hup _ H0)⟩
  simp [Instr.entryStore, Go.MapKept.run_getObj_map hg, asInt, asIntOf, hfi, Go.MapKept.run_setObj_map _ hg]
  rfl
theorem En.makeMapP : En c σ H ⟨dst, .makeMap T none, ty, pos, af, gd⟩ (fun b => .map (some b)) (.map #[] 0) := fun A w _ _ => by
  have e : execOp A.eval ⟨dst, .makeMap T none, ty, pos, af, gd⟩ = (do pure (Next.value (← Instr.makeMap T none))) := rfl
  rw [e]
  simp [Instr.makeMap]
/-! ### The range over the map -/
theorem nodup_le : ∀ (a b : List Pl), a.Nodup → (∀ x ∈ a, x ∈ b) → a.length ≤ b.length
  | [], b, _, _ => Nat.zero_le _
  | x :: a, b, h, hs => by
    obtain ⟨h1, h2⟩ := List.nodup_cons.1 h
    have hx := hs x (List.mem_cons_self ..)
    have h3 := nodup_le a (b.erase x) h2 fun y hy => (List.mem_erase_of_ne (fun e => h1 (by rw [← e]; exact hy))).2 (hs y (List.mem_cons_of_mem _ hy))
    rw [List.length_erase_of_mem hx] at h3
    have := List.length_pos_of_mem hx
    rw [List.length_cons]
    omega
theorem PmOk.keyOf {es : Array MapEntry} {clock : Nat} {ms : List (Pl × Int)} (h : PmOk es clock ms) {e : MapEntry} (he : e ∈ es.toList) : ∃ p, p ∈ ms.map Prod.fst ∧ e.key = plk p := by
  have h1 : kv e ∈ es.toList.map kv := List.mem_map.2 ⟨e, he, rfl⟩
  rw [h.eq] at h1
  obtain ⟨m, hm, hk⟩ := List.mem_map.1 h1
  exact ⟨m.1, List.mem_map.2 ⟨m, hm, rfl⟩, (congrArg Prod.fst hk).symm⟩
theorem PmOk.entryFor {es : Array MapEntry} {clock : Nat} {ms : List (Pl × Int)} (h : PmOk es clock ms) {p : Pl} (hp : p ∈ ms.map Prod.fst) : ∃ e ∈ es.toList, e.key = plk p := by
  obtain ⟨m, hm, rfl⟩ := List.mem_map.1 hp
  have h1 : pme m ∈ ms.map pme := List.mem_map.2 ⟨m, hm, rfl⟩
  rw [← h.eq] at h1
  obtain ⟨e, he, hk⟩ := List.mem_map.1 h1
  exact ⟨e, he, congrArg Prod.fst hk⟩
theorem PmOk.same {es : Array MapEntry} {clock : Nat} {ms : List (Pl × Int)} (h : PmOk es clock ms) (hn : (ms.map Prod.fst).Nodup) {e e' : MapEntry} {p : Pl} (he : e ∈ es.toList) (he' : e' ∈ es.toList) (hk : e.key = plk p) (hk' : e'.key = plk p) : e = e' := by
  obtain ⟨i, hi⟩ := List.getElem?_of_mem he
  obtain ⟨j, hj⟩ := List.getElem?_of_mem he'
  have hkey : ∀ (k : Nat) (x : MapEntry), es.toList[k]? = some x → x.key = plk p → (ms.map Prod.fst)[k]? = some p := fun k x hx hk => by
    have h1 : (es.toList.map kv)[k]? = some (kv x) := by rw [List.getElem?_map, hx]; rfl
    rw [h.eq, List.getElem?_map] at h1
    cases hm : ms[k]? with
    | none => rw [hm] at h1; simp at h1
    | some m =>
      rw [hm] at h1
      have h2 : pme m = kv x := Option.some.inj h1
      have h3 : plk m.1 = plk p := (congrArg Prod.fst h2).trans hk
      rw [List.getElem?_map, hm, plk_inj h3.symm]
      rfl
  have h1 := hkey i e hi hk
  have h2 := hkey j e' hj hk'
  have hij : i = j := by
    obtain ⟨l1, g1⟩ := List.getElem?_eq_some_iff.1 h1
    obtain ⟨l2, g2⟩ := List.getElem?_eq_some_iff.1 h2
    rcases Nat.lt_trichotomy i j with h3 | h3 | h3
    · exact absurd (g1.trans g2.symm) (List.pairwise_iff_getElem.1 hn i j l1 l2 h3)
    · exact h3
    · exact absurd (g2.trans g1.symm) (List.pairwise_iff_getElem.1 hn j i l2 l1 h3)
  subst hij
  rw [hi] at hj
  exact Option.some.inj hj
/-- The range so far: which places have been handed out. -/
structure UnI (es : Array MapEntry) (ms : List (Pl × Int)) (seen : Array Nat) (out : List Pl) : Prop where
  nd : out.Nodup
  sub : ∀ p ∈ out, p ∈ ms.map Prod.fst
  all : ∀ e ∈ es.toList, e.born ∈ seen.toList → ∃ p ∈ out, e.key = plk p
  got : ∀ p ∈ out, ∃ e ∈ es.toList, e.key = plk p ∧ e.born ∈ seen.toList
theorem UnI.zero {es : Array MapEntry} {ms : List (Pl × Int)} : UnI es ms #[] [] := ⟨.nil, by simp, by simp, by simp⟩
theorem UnI.le {es : Array MapEntry} {ms : List (Pl × Int)} {seen : Array Nat} {out : List Pl} (h : UnI es ms seen out) : out.length ≤ ms.length := by
  have := nodup_le out (ms.map Prod.fst) h.nd h.sub
  rwa [List.length_map] at this
theorem UnI.step {es : Array MapEntry} {clock : Nat} {ms : List (Pl × Int)} {seen : Array Nat} {out : List Pl} {e : MapEntry} {p : Pl} (h : UnI es ms seen out) (hm : PmOk es clock ms) (hn : (ms.map Prod.fst).Nodup) (he : e ∈ es.toList) (hs : e.born ∉ seen.toList) (hk : e.key = plk p) (hp : p ∈ ms.map Prod.fst) : UnI es ms (seen.push e.born) (out ++ [p]) := by
  have hpo : p ∉ out := fun h1 => by
    obtain ⟨e', he', hk', hb'⟩ := h.got p h1
    rw [hm.same hn he he' hk hk'] at hs
    exact hs hb'
  refine ⟨?_, ?_, ?_, ?_⟩
  · refine List.nodup_append.2 ⟨h.nd, by simp, fun a ha b hb => ?_⟩
    obtain rfl := List.mem_singleton.1 hb
    exact fun h1 => hpo (h1 ▸ ha)
  · intro x hx
    rcases List.mem_append.1 hx with h1 | h1
    · exact h.sub x h1
    · exact List.mem_singleton.1 h1 ▸ hp
  · intro x hx hb
    rw [Array.toList_push] at hb
    rcases List.mem_append.1 hb with h1 | h1
    · obtain ⟨q, hq, hq2⟩ := h.all x hx h1
      exact ⟨q, List.mem_append_left _ hq, hq2⟩
    · have h2 : x.born = e.born := List.mem_singleton.1 h1
      obtain ⟨i, hi⟩ := List.getElem?_of_mem hx
      obtain ⟨j, hj⟩ := List.getElem?_of_mem he
      have hij : i = j := by
        have g1 : (es.toList.map (·.born))[i]? = some e.born := by rw [List.getElem?_map, hi, ← h2]; rfl
        have g2 : (es.toList.map (·.born))[j]? = some e.born := by rw [List.getElem?_map, hj]; rfl
        obtain ⟨l1, g1⟩ := List.getElem?_eq_some_iff.1 g1
        obtain ⟨l2, g2⟩ := List.getElem?_eq_some_iff.1 g2
        rcases Nat.lt_trichotomy i j with h3 | h3 | h3
        · exact absurd (g1.trans g2.symm) (List.pairwise_iff_getElem.1 hm.nd i j l1 l2 h3)
        · exact h3
        · exact absurd (g2.trans g1.symm) (List.pairwise_iff_getElem.1 hm.nd j i l2 l1 h3)
      subst hij
      rw [hi] at hj
      rw [Option.some.inj hj]
      exact ⟨p, by simp, hk⟩
  · intro x hx
    rcases List.mem_append.1 hx with h1 | h1
    · obtain ⟨q, hq, hq2, hq3⟩ := h.got x h1
      exact ⟨q, hq, hq2, by rw [Array.toList_push]; exact List.mem_append_left _ hq3⟩
    · obtain rfl := List.mem_singleton.1 h1
      exact ⟨e, he, hk, by rw [Array.toList_push]; simp⟩
theorem UnI.done {es : Array MapEntry} {clock : Nat} {l : List Pl} {seen : Array Nat} {out : List Pl} (h : UnI es (cntL l) seen out) (hm : PmOk es clock (cntL l)) (hd : ∀ e ∈ es.toList, e.born ∈ seen.toList) : srtP out = unL l :=
  srtP_unL h.nd fun x => by
    rw [← cntL_mem l x]
    refine ⟨h.sub x, fun hx => ?_⟩
    obtain ⟨e, he, hk⟩ := hm.entryFor hx
    obtain ⟨p, hp, hk2⟩ := h.all e he (hd e he)
    rw [plk_inj (hk.symm.trans hk2)]
    exact hp
theorem En.rangeP {x : Operand} {b clock : Nat} {es : Array MapEntry} (hx : ev σ x = some (.map (some b))) (hT : c.P.underlying T = some (.map kt et)) (hb : (b, Obj.map es clock) ∈ H) :
    En c σ H ⟨dst, .range T x, ty, pos, af, gd⟩ (fun i => .pointer (some ⟨i, 0, none⟩)) (.mapIter (some b) clock #[] clock) := fun A w hf hw => by
  have e : execOp A.eval ⟨dst, .range T x, ty, pos, af, gd⟩ = (do pure (Next.value (← Instr.range T (A.eval x)))) := rfl
  rw [e, hf.ev hx]
  have hg := hw.get hb
  simp [Instr.range, run_underlying hT, Go.MapKept.run_getObj_map hg, newObj]
  rfl
/-- What is handed out: whether there is an entry, and which. -/
def nx : Bool → Value → Value → Array Value
  | true, k, v => #[.bool true, k, v]
  | false, _, _ => #[.bool false]
theorem nx0 (b : Bool) (k v : Value) : (nx b k v)[0]? = some (.bool b) := by cases b <;> rfl
theorem Eg.nextP {x : Operand} {i b clock : Nat} {es : Array MapEntry} {seen : Array Nat} {H0 : Blocks} (hx : ev σ x = some (.pointer (some ⟨i, 0, none⟩))) (hb : (b, Obj.map es clock) ∈ H) (hcut : Cut [(i, Obj.mapIter (some b) clock seen clock)] H H0) (hl : ∀ x ∈ es.toList, x.born < clock) :
    Eg c σ H ⟨dst, .next x false, ty, pos, af, gd⟩ (fun v H' => ∃ (t : Bool) (e : MapEntry), v = .tuple (nx t e.key e.val) ∧ H' = H0 ++ [(i, Obj.mapIter (some b) clock (if t then seen.push e.born else seen) clock)] ∧ (t = true → e ∈ es.toList ∧ e.born ∉ seen.toList) ∧ (t = false → ∀ e ∈ es.toList, e.born ∈ seen.toList)) := fun A w hf hw => by
  have e0 : execOp A.eval ⟨dst, .next x false, ty, pos, af, gd⟩ = (do pure (Next.value (← Instr.next (A.eval x) false ty))) := rfl
  have hw' := hw.perm hcut.perm
  have hmem : (i, Obj.mapIter (some b) clock seen clock) ∈ H0 ++ [(i, Obj.mapIter (some b) clock seen clock)] := by simp
  have hr := hw'.get hmem
  have hg := hw.get hb
  have hup : ∀ (o' : Obj) (A : Blocks), Upd i (Obj.mapIter (some b) clock seen clock) o' (A ++ [(i, Obj.mapIter (some b) clock seen clock)]) (A ++ [(i, o')]) := by
    intro o' A
    induction A with
    | nil => exact .here
    | cons y A ih => exact .there ih
  rw [e0, hf.ev hx]
  rcases run_next_at (P := c.P) w ty i b clock clock seen es clock hr hg hl (Nat.le_refl _) with ⟨h1, h2⟩ | ⟨e, he, w1, h1, h2⟩
  · refine ⟨_, _, w, ?_, hw', false, ⟨undef, undef, 0⟩, rfl, rfl, (fun h => by cases h), fun _ e he => ?_⟩
    · simp [h2, nx]
    · have h3 : e ∉ (leftOf es seen).toList := by
        rw [Array.eq_empty_of_size_eq_zero h1]
        simp
      have h4 : ¬ (e ∈ es ∧ ¬ e.born ∈ seen) := fun h => h3 (by
        unfold leftOf
        simpa using h)
      have h5 : e ∈ es := by simpa using he
      have h6 : e.born ∈ seen := Classical.byContradiction fun h => h4 ⟨h5, h⟩
      simpa using h6
  · have h3 : e ∈ es ∧ ¬ e.born ∈ seen := by
      unfold leftOf at he
      simpa using he
    have hw1 : Hp c.w0 (H0 ++ [(i, Obj.mapIter (some b) clock seen clock)]) w1 := by
      rcases h1 with rfl | rfl
      · exact hw'
      · exact hw'.drew
    refine ⟨_, _, _, ?_, hw1.putObj (hup (.mapIter (some b) clock (seen.push e.born) clock) H0), true, e, rfl, rfl, fun _ => ⟨by simpa using h3.1, by simpa using h3.2⟩, (fun h => by cases h)⟩
    simp [h2, nx]
    rfl
theorem Ev.entryOf {x : Operand} {i b clock : Nat} {es : Array MapEntry} {seen : Array Nat} {e : MapEntry} (hx : ev σ x = some (.pointer (some ⟨i, 0, none⟩))) (hi : (i, Obj.mapIter (some b) clock (seen.push e.born) clock) ∈ H) (hb : (b, Obj.map es clock) ∈ H) (he : e ∈ es.toList) (hn : (es.toList.map (·.born)).Nodup) :
    Ev c σ H ⟨dst, .entry x, ty, pos, af, gd⟩ (.tuple #[e.key, e.val]) := fun A w hf hw => by
  have e0 : execOp A.eval ⟨dst, .entry x, ty, pos, af, gd⟩ = (do pure (Next.value (← Instr.entry (A.eval x)))) := rfl
  rw [e0, hf.ev hx]
  have h := run_entry_at (P := c.P) w i b clock seen es clock e (hw.get hi) (hw.get hb) he hn
  simp [h]
end
end Go.Proofs.YtjjoenbighmfoaaDoor
