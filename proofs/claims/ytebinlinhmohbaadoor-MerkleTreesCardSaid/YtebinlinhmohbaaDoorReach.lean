/-
  From a row's reading of its arguments: how long a slice can be, by the form's own reach.
-/
import Derived.Test.YtebinlinhmohbaaDoorOpen
namespace Go.Proofs.YtebinlinhmohbaaDoor
open Go Go.RowKit Go.ChangeShapes Go.WideShapes Go.ChangeAt
set_option maxRecDepth 100000
section
variable {H : Type} {enc : TypeId × Value → H} {W : World} {r : Reach} {b0 : Nat} {v : Value} {d : DataW H} {p : List MemPlace} {fuel : Nat} {cs : List Value} {x : DataW H × List MemPlace}
theorem weights_mem {P : Program} {e : TypeId} {N : Nat} {d : DataW H} : ∀ {l : List (DataW H)}, d ∈ l → (DataW.weightsAll P e l).all (· ≤ N) = true → (d.weights P e).all (· ≤ N) = true
  | [], h, _ => by cases h
  | y :: l, h, hw => by
    rw [DataW.weightsAll, List.all_append, Bool.and_eq_true] at hw
    rcases List.mem_cons.1 h with rfl | h
    · exact hw.1
    · exact weights_mem h hw.2
theorem slice_reach {P : Program} {t e : TypeId} {b n cap N : Nat} {oa : Option Addr} (ht : P.underlying t = some (.slice e)) (hb : P.bytesOf e = b) (h : DataW.trod enc P W 0 (fun _ => true) true fuel t [.slice oa n cap] = some x) (hw : (x.1.weights P t).all (· ≤ N) = true) : n * b ≤ N := by
  rcases DataW.trod_slice ht h with ⟨h1, _⟩ | ⟨a, len, cp, elems, rest, m, _, h1, rfl, _, _, _, hlen, _⟩
  · simp at h1
    rw [h1.2.1, Nat.zero_mul]
    exact Nat.zero_le _
  · simp at h1
    obtain ⟨_, rfl, _⟩ := h1
    simp only [DataW.weights, ht, List.all_cons, Bool.and_eq_true, decide_eq_true_eq, List.length_map] at hw
    have h2 := hw.1
    rw [hb] at h2
    exact Nat.le_trans (Nat.mul_le_mul_right b (by omega)) h2
theorem open_elemsW {α : Type} {P : Program} {t e : TypeId} {s N : Nat} (hs0 : 0 < s) (en : α → List Value) (Ok : α → Prop) (ht : P.underlying t = some (.slice e)) (hc : P.cellsOf e = s) (hen : ∀ p, Ok p → (en p).length = s)
    (hel : ∀ n ds y, DataW.trod enc P W 0 (fun _ => true) true n e ds = some y → (y.1.weights P e).all (· ≤ N) = true → ∃ p, ds = en p ∧ Ok p) (h : DataW.trod enc P W 0 (fun _ => true) true fuel t cs = some x) (hw : (x.1.weights P t).all (· ≤ N) = true) :
    ∃ (oa : Option Addr) (cap : Nat) (ps : List α), cs = [.slice oa ps.length cap] ∧ Cs W oa ps.length cap (ps.flatMap en) ∧ ∀ p ∈ ps, Ok p := by
  rcases DataW.trod_slice ht h with ⟨rfl, _⟩ | ⟨a, len, cap, elems, rest, n, _, rfl, rfl, hb, hl, hm, hlen, he, _, _⟩
  · exact ⟨none, 0, [], rfl, cs_nil, by simp⟩
  · have hwe : ∀ y ∈ elems, (y.1.weights P e).all (· ≤ N) = true := fun y hy => by
      simp only [DataW.weights, ht, List.all_cons, List.all_append, Bool.and_eq_true] at hw
      exact weights_mem (List.mem_map.2 ⟨y, hy, rfl⟩) hw.2.1
    have key : ∀ k, k ≤ len → ∃ ps : List α, ps.length = k ∧ ∀ i p, ps[i]? = some p → W.cells? 0 (a.add (i * s)) s = some (en p) ∧ Ok p := by
      intro k
      induction k with
      | zero => intro _; exact ⟨[], rfl, fun i p h => by simp at h⟩
      | succ k ih =>
        intro hk
        obtain ⟨ps, h1, h2⟩ := ih (by omega)
        have hk1 := he k (by omega)
        rw [List.getElem?_eq_getElem (by omega), hc, Option.bind_eq_some_iff] at hk1
        obtain ⟨ds, hds, hy⟩ := hk1
        obtain ⟨p, rfl, hp⟩ := hel _ _ _ hy (hwe _ (List.getElem_mem ..))
        refine ⟨ps ++ [p], by simp [h1], fun i q hq => ?_⟩
        rcases Nat.lt_or_ge i ps.length with hi | hi
        · rw [List.getElem?_append_left hi] at hq; exact h2 i q hq
        · rw [List.getElem?_append_right hi] at hq
          have e : i = k := by
            have := (List.getElem?_eq_some_iff.1 hq).1
            simp at this
            omega
          subst e
          rw [h1, Nat.sub_self] at hq
          obtain rfl := Option.some.inj hq
          exact ⟨hds, hp⟩
    obtain ⟨ps, h1, h2⟩ := key len (Nat.le_refl _)
    subst h1
    have hok : ∀ p ∈ ps, Ok p := fun p hp => by
      obtain ⟨i, hi⟩ := List.getElem?_of_mem hp
      exact (h2 i p hi).2
    refine ⟨some a, cap, ps, rfl, ⟨hl, hm, fun h => (by cases h), fun a' ha => ?_⟩, hok⟩
    obtain rfl := Option.some.inj ha
    intro j v hj
    obtain ⟨p, hp, hv⟩ := flatMap_get hs0 en ps (fun p hp => hen p (hok p hp)) j v hj
    have h3 := (World.cells?_some (h2 _ p hp).1).2.2 (j % s) (Nat.mod_lt _ hs0)
    rw [add_add, Nat.mul_comm, Nat.div_add_mod] at h3
    rw [h3]
    exact hv
end
end Go.Proofs.YtebinlinhmohbaaDoor
