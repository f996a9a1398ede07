/-
  From a row's reading of its arguments to the walks' hypotheses: slices of whatever; slices of slices of bytes.
-/
import Derived.Test.YtebinlinhmohbaaDoorRow
import Derived.Test.YtebinlinhmohbaaDoorTwin
namespace Go.Proofs.YtebinlinhmohbaaDoor
open Go Go.RowKit Go.ChangeShapes Go.WideShapes Go.ChangeAt

theorem add_add (a : Addr) (k j : Nat) : (a.add k).add j = a.add (k + j) := by
  unfold Addr.add
  by_cases h0 : k = 0
  · subst h0; simp
  · by_cases h1 : j = 0
    · subst h1; simp
    · have h2 : ¬ k + j = 0 := by omega
      simp [h0, h1, Nat.add_assoc]

theorem flatMap_length {α : Type} {s : Nat} (enc : α → List Value) : ∀ (ps : List α), (∀ p ∈ ps, (enc p).length = s) → (ps.flatMap enc).length = ps.length * s
  | [], _ => by simp
  | p :: ps, h => by
    rw [List.flatMap_cons, List.length_append, h p (List.mem_cons_self ..), flatMap_length enc ps (fun q hq => h q (List.mem_cons_of_mem _ hq)), List.length_cons, Nat.add_mul]
    omega
/-- A cell of a flattened list. -/
theorem flatMap_get {α : Type} {s : Nat} (hs : 0 < s) (enc : α → List Value) : ∀ (ps : List α), (∀ p ∈ ps, (enc p).length = s) → ∀ (j : Nat) (v : Value), (ps.flatMap enc)[j]? = some v → ∃ p, ps[j / s]? = some p ∧ (enc p)[j % s]? = some v
  | [], _, j, v, h => by simp at h
  | p :: ps, hp, j, v, h => by
    have h1 := hp p (List.mem_cons_self ..)
    rw [List.flatMap_cons] at h
    rcases Nat.lt_or_ge j s with hj | hj
    · rw [List.getElem?_append_left (by omega)] at h
      exact ⟨p, by rw [Nat.div_eq_of_lt hj]; rfl, by rw [Nat.mod_eq_of_lt hj]; exact h⟩
    · rw [List.getElem?_append_right (by omega), h1] at h
      obtain ⟨q, hq, hv⟩ := flatMap_get hs enc ps (fun q hq => hp q (List.mem_cons_of_mem _ hq)) (j - s) v h
      have e1 : j / s = (j - s) / s + 1 := by
        conv => lhs; rw [show j = j - s + s from by omega]
        rw [Nat.add_div_right _ hs]
      have e2 : j % s = (j - s) % s := by
        conv => lhs; rw [show j = j - s + s from by omega]
        rw [Nat.add_mod_right]
      exact ⟨q, by rw [e1]; simpa using hq, by rw [e2]; exact hv⟩

section
variable {H : Type} {enc : TypeId × Value → H} {P : Program} {W : World} {t e : TypeId} {fuel : Nat} {cs : List Value} {x : DataW H × List MemPlace}

theorem open_elems {α : Type} {s : Nat} (hs0 : 0 < s) (en : α → List Value) (Ok : α → Prop) (ht : P.underlying t = some (.slice e)) (hc : P.cellsOf e = s) (hen : ∀ p, Ok p → (en p).length = s)
    (hel : ∀ n ds y, DataW.trod enc P W 0 (fun _ => true) true n e ds = some y → ∃ p, ds = en p ∧ Ok p) (h : DataW.trod enc P W 0 (fun _ => true) true fuel t cs = some x) :
    ∃ (oa : Option Addr) (cap : Nat) (ps : List α), cs = [.slice oa ps.length cap] ∧ Cs W oa ps.length cap (ps.flatMap en) ∧ ∀ p ∈ ps, Ok p := by
  rcases DataW.trod_slice ht h with ⟨rfl, _⟩ | ⟨a, len, cap, elems, rest, n, _, rfl, _, hb, hl, hm, hlen, he, _, _⟩
  · exact ⟨none, 0, [], rfl, cs_nil, by simp⟩
  · have key : ∀ k, k ≤ len → ∃ ps : List α, ps.length = k ∧ ∀ i p, ps[i]? = some p → W.cells? 0 (a.add (i * s)) s = some (en p) ∧ Ok p := by
      intro k
      induction k with
      | zero => intro _; exact ⟨[], rfl, fun i p h => by simp at h⟩
      | succ k ih =>
        intro hk
        obtain ⟨ps, h1, h2⟩ := ih (by omega)
        have hk1 := he k (by omega)
        rw [List.getElem?_eq_getElem (by omega), hc, Option.bind_eq_some_iff] at hk1
        obtain ⟨ds, hds, hy⟩ := hk1
        obtain ⟨p, rfl, hp⟩ := hel _ _ _ hy
        refine ⟨ps ++ [p], by simp [h1], fun i q hq => ?_⟩
        rcases Nat.lt_or_ge i ps.length with hi | hi
        · rw [List.getElem?_append_left hi] at hq; exact h2 i q hq
        · rw [List.getElem?_append_right hi] at hq
          have e : i = k := by
            have := (List.getElem?_eq_some_iff.1 hq).1
            simp at this
            omega
          subst e
          rw [h1, Nat.sub_self] at hq
          obtain rfl := Option.some.inj hq
          exact ⟨hds, hp⟩
    obtain ⟨ps, h1, h2⟩ := key len (Nat.le_refl _)
    subst h1
    have hok : ∀ p ∈ ps, Ok p := fun p hp => by
      obtain ⟨i, hi⟩ := List.getElem?_of_mem hp
      exact (h2 i p hi).2
    refine ⟨some a, cap, ps, rfl, ⟨hl, hm, fun h => (by cases h), fun a' ha => ?_⟩, hok⟩
    obtain rfl := Option.some.inj ha
    intro j v hj
    obtain ⟨p, hp, hv⟩ := flatMap_get hs0 en ps (fun p hp => hen p (hok p hp)) j v hj
    have h3 := (World.cells?_some (h2 _ p hp).1).2.2 (j % s) (Nat.mod_lt _ hs0)
    rw [add_add, Nat.mul_comm, Nat.div_add_mod] at h3
    rw [h3]
    exact hv

theorem trod_bytes (ht : P.underlying t = some (.slice e)) (he : P.underlying e = some (.int .u8)) (hc : P.cellsOf e = 1) (h : DataW.trod enc P W 0 (fun _ => true) true fuel t cs = some x) :
    ∃ (oa : Option Addr) (cap : Nat) (l : List UInt8), cs = [.slice oa l.length cap] ∧ Bs W oa cap l := by
  obtain ⟨oa, cap, l, h1, h2, _⟩ := open_elems (α := UInt8) (s := 1) (by decide) (fun x => [u8 x]) (fun _ => True) ht hc (fun _ _ => rfl) (fun n ds y hy => by
    obtain ⟨z, hz, _, hw⟩ := DataW.trod_int he hy
    obtain ⟨b, rfl⟩ := u8_ex hw
    exact ⟨b, hz, trivial⟩) h
  refine ⟨oa, cap, l, h1, ?_⟩
  have e1 : l.flatMap (fun x => [u8 x]) = l.map u8 := by
    rw [← List.map_eq_flatMap]
  rw [e1] at h2
  exact h2.bs rfl
variable {r : Reach} {b0 : Nat} {v : Value} {d : DataW H} {p : List MemPlace}
/-- An argument that is a slice of slices of bytes. -/
theorem open_parts {u : TypeId} (ht : P.underlying t = some (.slice e)) (he : P.underlying e = some (.slice u)) (hu : P.underlying u = some (.int .u8)) (hc : P.cellsOf e = 1) (hcu : P.cellsOf u = 1) (hv : Value.okWide P W r b0 t v)
    (h : DataW.Trod enc P W 0 (fun _ => true) true t v d p) : ∃ (oa : Option Addr) (cap : Nat) (ps : List Part), v = .slice oa ps.length cap ∧ Ps W oa cap ps := by
  obtain ⟨a0, len, cap0, rfl⟩ := okWide_slice ht hv
  obtain ⟨fuel, hf⟩ := h
  obtain ⟨oa, cap, ps, h1, h2, h3⟩ := open_elems (α := Part) (s := 1) (by decide) (fun p => [p.v]) (fun p => Bs W p.o p.cap p.l) ht hc (fun _ _ => rfl) (fun n ds y hy => by
    obtain ⟨o, c, l, h4, h5⟩ := trod_bytes he hu hcu hy
    exact ⟨⟨o, c, l⟩, h4, h5⟩) hf
  simp [Value.cells] at h1
  obtain ⟨rfl, rfl, rfl⟩ := h1
  have e1 : ps.flatMap (fun p => [p.v]) = ps.map Part.v := by
    rw [← List.map_eq_flatMap]
  rw [e1] at h2
  exact ⟨_, _, ps, rfl, ⟨h2.le, h2.top, h2.empty, h2.mem, h3⟩⟩
end
end Go.Proofs.YtebinlinhmohbaaDoor
