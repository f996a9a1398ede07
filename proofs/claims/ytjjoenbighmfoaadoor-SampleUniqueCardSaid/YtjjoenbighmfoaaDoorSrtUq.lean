/-
  Places in order: the plain law of distinct places; the library's sort, as seen from a call's own blocks.
-/
import Derived.Test.YtjjoenbighmfoaaDoorSamUq
import Derived.Shelf.SlSortCmp.NoneTotal
namespace Go.Proofs.YtjjoenbighmfoaaDoor
open Go Go.RowKit

/-! ### Distinct places in order -/
def ltP (a b : Pl) : Prop := a.1 < b.1 ∨ (a.1 = b.1 ∧ a.2 < b.2)
instance (a b : Pl) : Decidable (ltP a b) := inferInstanceAs (Decidable (_ ∨ _))
theorem ltP_irrefl (a : Pl) : ¬ ltP a a := by unfold ltP; omega
theorem ltP_trans {a b c : Pl} (h : ltP a b) (h1 : ltP b c) : ltP a c := by unfold ltP at *; omega
theorem ltP_asymm {a b : Pl} (h : ltP a b) : ¬ ltP b a := by unfold ltP at *; omega
theorem ltP_tri {a b : Pl} (h : ¬ ltP a b) (h1 : ¬ ltP b a) : a = b := by
  unfold ltP at *
  exact Prod.ext (by omega) (by omega)
theorem sorted_eq : ∀ (a b : List Pl), a.Pairwise ltP → b.Pairwise ltP → (∀ x, x ∈ a ↔ x ∈ b) → a = b
  | [], [], _, _, _ => rfl
  | [], y :: b, _, _, h => absurd ((h y).2 (List.mem_cons_self ..)) (by simp)
  | x :: a, [], _, _, h => absurd ((h x).1 (List.mem_cons_self ..)) (by simp)
  | x :: a, y :: b, ha, hb, h => by
    obtain ⟨ha1, ha2⟩ := List.pairwise_cons.1 ha
    obtain ⟨hb1, hb2⟩ := List.pairwise_cons.1 hb
    have hxy : x = y := by
      rcases List.mem_cons.1 ((h x).1 (List.mem_cons_self ..)) with e | e
      · exact e
      · rcases List.mem_cons.1 ((h y).2 (List.mem_cons_self ..)) with e2 | e2
        · exact e2.symm
        · exact absurd (hb1 x e) (ltP_asymm (ha1 y e2))
    subst hxy
    rw [sorted_eq a b ha2 hb2 fun z => ⟨fun hz => ?_, fun hz => ?_⟩]
    · rcases List.mem_cons.1 ((h z).1 (List.mem_cons_of_mem _ hz)) with e | e
      · subst e; exact absurd (ha1 _ hz) (ltP_irrefl _)
      · exact e
    · rcases List.mem_cons.1 ((h z).2 (List.mem_cons_of_mem _ hz)) with e | e
      · subst e; exact absurd (hb1 _ hz) (ltP_irrefl _)
      · exact e
/-- Where a place goes: behind all that are not behind it. -/
def posI (out : List Pl) (p : Pl) : Nat → Nat
  | 0 => 0
  | k + 1 => if ltP p (out.getD k (0, 0)) then posI out p k else k + 1
def insU (out : List Pl) (p : Pl) : List Pl := if p ∈ out then out else out.take (posI out p out.length) ++ p :: out.drop (posI out p out.length)
def unL (l : List Pl) : List Pl := l.foldl insU []
theorem posI_le (out : List Pl) (p : Pl) : ∀ k, posI out p k ≤ k
  | 0 => Nat.le_refl _
  | k + 1 => by
    rw [posI]
    split
    · exact Nat.le_succ_of_le (posI_le out p k)
    · exact Nat.le_refl _
theorem posI_after (out : List Pl) (p : Pl) : ∀ k j, posI out p k ≤ j → j < k → ltP p (out.getD j (0, 0))
  | 0, j, _, h => absurd h (Nat.not_lt_zero _)
  | k + 1, j, h1, h2 => by
    rw [posI] at h1
    split at h1
    · rename_i h3
      rcases Nat.lt_or_ge j k with h4 | h4
      · exact posI_after out p k j h1 h4
      · obtain rfl : j = k := by omega
        exact h3
    · omega
theorem posI_before (out : List Pl) (p : Pl) : ∀ k, 0 < posI out p k → ¬ ltP p (out.getD (posI out p k - 1) (0, 0))
  | 0, h => absurd h (Nat.not_lt_zero _)
  | k + 1, h => by
    by_cases h3 : ltP p (out.getD k (0, 0))
    · have e : posI out p (k + 1) = posI out p k := by rw [posI, if_pos h3]
      rw [e] at h ⊢
      exact posI_before out p k h
    · have e : posI out p (k + 1) = k + 1 := by rw [posI, if_neg h3]
      rw [e]
      exact h3
theorem insU_mem (out : List Pl) (p x : Pl) : x ∈ insU out p ↔ x ∈ out ∨ x = p := by
  unfold insU
  split
  · rename_i h
    exact ⟨.inl, fun h1 => h1.elim id fun e => e ▸ h⟩
  · rw [List.mem_append, List.mem_cons]
    have h := List.take_append_drop (posI out p out.length) out
    have h2 : x ∈ out ↔ x ∈ out.take (posI out p out.length) ∨ x ∈ out.drop (posI out p out.length) := by
      conv => lhs; rw [← h]
      exact List.mem_append
    rw [h2]
    constructor
    · rintro (h | h | h)
      · exact .inl (.inl h)
      · exact .inr h
      · exact .inl (.inr h)
    · rintro ((h | h) | h)
      · exact .inl h
      · exact .inr (.inr h)
      · exact .inr (.inl h)
theorem insU_sorted {out : List Pl} (p : Pl) (h : out.Pairwise ltP) : (insU out p).Pairwise ltP := by
  unfold insU
  split
  · exact h
  · rename_i hp
    have hle := posI_le out p out.length
    have hgt : ∀ x ∈ out.drop (posI out p out.length), ltP p x := fun x hx => by
      obtain ⟨j, hj⟩ := List.getElem?_of_mem hx
      rw [List.getElem?_drop] at hj
      have hlt := (List.getElem?_eq_some_iff.1 hj).1
      have h1 := posI_after out p out.length (posI out p out.length + j) (by omega) hlt
      rwa [List.getD_eq_getElem?_getD, hj] at h1
    have hlt : ∀ x ∈ out.take (posI out p out.length), ltP x p := fun x hx => by
      obtain ⟨j, hj⟩ := List.getElem?_of_mem hx
      rw [List.getElem?_take] at hj
      split at hj
      · rename_i hjk
        have hb := posI_before out p out.length (by omega)
        have hl : posI out p out.length - 1 < out.length := by omega
        rw [List.getD_eq_getElem?_getD, List.getElem?_eq_getElem hl] at hb
        have hxe : ltP x p ∨ x = p ∨ ltP p x := by
          by_cases h1 : ltP x p
          · exact .inl h1
          · by_cases h2 : ltP p x
            · exact .inr (.inr h2)
            · exact .inr (.inl (ltP_tri h1 h2))
        rcases hxe with h1 | h1 | h1
        · exact h1
        · exact absurd (h1 ▸ List.mem_of_getElem? hj) hp
        · exfalso
          have hj2 := (List.getElem?_eq_some_iff.1 hj)
          rcases Nat.lt_or_ge j (posI out p out.length - 1) with h3 | h3
          · have h4 := List.pairwise_iff_getElem.1 h j (posI out p out.length - 1) hj2.1 hl h3
            rw [hj2.2] at h4
            exact hb (ltP_trans h1 h4)
          · have h5 : j = posI out p out.length - 1 := by omega
            subst h5
            rw [← hj2.2] at h1
            exact hb h1
      · cases hj
    refine List.pairwise_append.2 ⟨h.sublist (List.take_sublist _ _), List.pairwise_cons.2 ⟨hgt, h.sublist (List.drop_sublist _ _)⟩, fun x hx y hy => ?_⟩
    rcases List.mem_cons.1 hy with rfl | hy
    · exact hlt x hx
    · exact ltP_trans (hlt x hx) (hgt y hy)
theorem foldU_spec : ∀ (l out : List Pl), out.Pairwise ltP → (l.foldl insU out).Pairwise ltP ∧ ∀ x, x ∈ l.foldl insU out ↔ x ∈ out ∨ x ∈ l
  | [], out, h => ⟨h, fun x => by simp⟩
  | p :: l, out, h => by
    obtain ⟨h1, h2⟩ := foldU_spec l (insU out p) (insU_sorted p h)
    refine ⟨h1, fun x => ?_⟩
    rw [List.foldl_cons, h2 x, insU_mem, List.mem_cons]
    exact ⟨fun h => by rcases h with (h | h) | h <;> simp [h], fun h => by rcases h with h | h | h <;> simp [h]⟩
theorem unL_sorted (l : List Pl) : (unL l).Pairwise ltP := (foldU_spec l [] .nil).1
theorem unL_mem (l : List Pl) (x : Pl) : x ∈ unL l ↔ x ∈ l := by rw [unL, (foldU_spec l [] .nil).2 x]; simp
theorem insU_le (out : List Pl) (p : Pl) : (insU out p).length ≤ out.length + 1 := by
  unfold insU
  split
  · omega
  · have := posI_le out p out.length
    rw [List.length_append, List.length_cons, List.length_take, List.length_drop]
    omega
theorem foldU_le : ∀ (l out : List Pl), (l.foldl insU out).length ≤ out.length + l.length
  | [], out => Nat.le_refl _
  | p :: l, out => by
    have h1 := foldU_le l (insU out p)
    have h2 := insU_le out p
    rw [List.foldl_cons, List.length_cons]
    omega
theorem unL_le (l : List Pl) : (unL l).length ≤ l.length := by have := foldU_le l []; rw [unL]; simpa using this
/-! ### How often -/
def cntP (l : List Pl) (p : Pl) : Int := ((l.filter fun x => decide (x = p)).length : Int)
theorem cntP_le (l : List Pl) (p : Pl) : 0 ≤ cntP l p ∧ cntP l p ≤ (l.length : Int) := by
  unfold cntP
  have := List.length_filter_le (fun x => decide (x = p)) l
  omega
theorem cntP_pos {l : List Pl} {p : Pl} : 0 < cntP l p ↔ p ∈ l := by
  unfold cntP
  constructor
  · intro h
    have h1 : 0 < (l.filter fun x => decide (x = p)).length := by omega
    obtain ⟨y, hy⟩ := List.exists_mem_of_length_pos h1
    obtain ⟨h2, h3⟩ := List.mem_filter.1 hy
    have h4 : y = p := by simpa using h3
    exact h4 ▸ h2
  · intro h
    have h1 : p ∈ l.filter fun x => decide (x = p) := List.mem_filter.2 ⟨h, by simp⟩
    have := List.length_pos_of_mem h1
    omega
/-! ### The library's order -/
def cmpP (x y : Pl) : Int := if x.1 < y.1 then -1 else if y.1 < x.1 then 1 else if x.2 < y.2 then -1 else if y.2 < x.2 then 1 else 0
theorem ltOf_cmp (x y : Pl) : Go.Proofs.ltOf cmpP x y = decide (ltP x y) := by
  unfold Go.Proofs.ltOf cmpP
  refine decide_eq_decide.2 ?_
  unfold ltP
  split
  · omega
  · split
    · omega
    · split
      · omega
      · split <;> omega
theorem swoP : Go.Sort.SWO (Go.Proofs.ltOf cmpP) where
  irrefl x := by rw [ltOf_cmp]; exact decide_eq_false (ltP_irrefl x)
  trans x y z h1 h2 := by
    rw [ltOf_cmp] at *
    exact decide_eq_true (ltP_trans (of_decide_eq_true h1) (of_decide_eq_true h2))
  ntrans x y z h1 h2 := by
    rw [ltOf_cmp] at *
    have h1 := of_decide_eq_false h1
    have h2 := of_decide_eq_false h2
    refine decide_eq_false ?_
    unfold ltP at *
    omega
theorem totP (x y : Pl) (h : Go.Proofs.ltOf cmpP x y = false) (h1 : Go.Proofs.ltOf cmpP y x = false) : x = y := by
  rw [ltOf_cmp] at h h1
  exact ltP_tri (of_decide_eq_false h) (of_decide_eq_false h1)
def srtP (l : List Pl) : List Pl := l.mergeSort fun x y => !(Go.Proofs.ltOf cmpP) y x
theorem srtP_perm (l : List Pl) : (srtP l).Perm l := List.mergeSort_perm _ _
theorem srtP_length (l : List Pl) : (srtP l).length = l.length := (srtP_perm l).length_eq
theorem srtP_sorted {l : List Pl} (hn : l.Nodup) : (srtP l).Pairwise ltP := by
  have h1 : (srtP l).Pairwise (fun x y => (!(Go.Proofs.ltOf cmpP) y x) = true) := List.pairwise_mergeSort (fun a b c h1 h2 => by
    rw [ltOf_cmp] at *
    simp only [Bool.not_eq_true', decide_eq_false_iff_not] at *
    unfold ltP at *
    omega) (fun a b => by
    rw [ltOf_cmp, ltOf_cmp]
    by_cases h : ltP b a
    · simp [h, ltP_asymm h]
    · simp [h]) l
  have h2 : (srtP l).Nodup := (srtP_perm l).nodup_iff.2 hn
  refine (h1.and h2).imp ?_
  rintro a b ⟨h3, h4⟩
  rw [ltOf_cmp] at h3
  simp only [Bool.not_eq_true', decide_eq_false_iff_not] at h3
  by_cases h5 : ltP a b
  · exact h5
  · exact absurd (ltP_tri h5 h3) h4
/-- Whatever distinct places are sorted: these are the distinct places in order. -/
theorem srtP_unL {l out : List Pl} (hn : out.Nodup) (hm : ∀ x, x ∈ out ↔ x ∈ l) : srtP out = unL l :=
  sorted_eq _ _ (srtP_sorted hn) (unL_sorted l) fun x => by rw [(srtP_perm out).mem_iff, hm x, unL_mem]
/-! ### Worlds -/
theorem Hp.ahead {w0 w : World} {H : Blocks} (h : Hp w0 H w) (n : Nat) : Hp w0 H (Go.Sort.ahead w n) :=
  ⟨h.below.trans ⟨rfl, rfl, rfl, Nat.le_refl _, fun _ _ => rfl⟩, h.blk, h.apart, Nat.le_trans h.mono (Nat.le_add_right _ _)⟩
theorem Hp.grow {w0 w : World} {H : Blocks} (h : Hp w0 H w) (os : Array Obj) : Hp w0 H (Go.Sort.grow w os) := by
  have hs := h.below.size
  refine ⟨h.below.trans ⟨rfl, rfl, rfl, by show w.heap.size ≤ (w.heap ++ os).size; rw [Array.size_append]; omega, fun k hk => ?_⟩, fun x hx => ⟨(h.blk x hx).1, ?_⟩, h.apart, h.mono⟩
  · show (w.heap ++ os)[k]? = _
    rw [Array.getElem?_append_left (by omega)]
  · have hlt := h.lt hx
    show (w.heap ++ os)[x.1]? = _
    rw [Array.getElem?_append_left hlt]
    exact (h.blk x hx).2
theorem grown_of {w w' : World} {H : Blocks} (h : Hp w H w') : ∃ q os', w' = Go.Sort.grow (w.drewN q) os' := by
  refine ⟨w'.drawn - w.drawn, w'.heap.extract w.heap.size w'.heap.size, ?_⟩
  have hs := h.below.size
  have hh : w'.heap = w.heap ++ w'.heap.extract w.heap.size w'.heap.size := by
    apply Array.ext_getElem?
    intro k
    rcases Nat.lt_or_ge k w.heap.size with hk | hk
    · rw [Array.getElem?_append_left hk]
      exact h.below.block k hk
    · rw [Array.getElem?_append_right hk, Array.getElem?_extract]
      by_cases h2 : k < w'.heap.size
      · rw [if_pos (by omega), show w.heap.size + (k - w.heap.size) = k by omega]
      · rw [if_neg (by omega)]
        exact Array.getElem?_eq_none (by omega)
  have hd : w'.drawn = w.drawn + (w'.drawn - w.drawn) := by have := h.mono; omega
  obtain ⟨a1, a2, a3, a4, a5⟩ := w'
  obtain ⟨c1, c2, c3, c4, c5⟩ := w
  have e1 : a4 = c4 := h.below.os
  have e2 : a2 = c2 := h.below.tape
  have e3 : a5 = c5 := h.below.output
  simp only [Go.Sort.grow, World.drewN]
  simp only at hh hd
  rw [World.mk.injEq]
  exact ⟨hh, e2, hd, e1, e3⟩
theorem flat_pf (l : List Pl) : Go.Sort.flatK plc 2 l.toArray = (pf l).toArray := by
  refine Go.Sort.ext_get! (by simp [pf_length]) fun t ht => ?_
  have ht' : t < l.length * 2 := by simpa using ht
  rw [Go.Sort.get_flatK _ _ _ _ (by simpa using ht')]
  have hk : t / 2 < l.length := by omega
  have h1 := pf_get l (t / 2) l[t / 2] (List.getElem?_eq_getElem hk)
  have h2 : (pf l)[t]? = (plc l[t / 2])[t % 2]? := by
    rw [← h1, List.getElem?_take, if_pos (by omega), List.getElem?_drop, show t / 2 * 2 + t % 2 = t by omega]
  have h3 : t < (pf l).length := by rw [pf_length]; exact ht'
  have h4 : (pf l).toArray[t]! = (pf l)[t] := by simp [h3]
  have h5 : l.toArray[t / 2]! = l[t / 2] := by simp [hk]
  have h6 : t % 2 < (plc l[t / 2]).length := by show t % 2 < 2; omega
  have h7 : (plc l[t / 2])[t % 2]! = (plc l[t / 2])[t % 2] := getElem!_pos (plc l[t / 2]) (t % 2) h6
  rw [h4, h5, h7]
  rw [List.getElem?_eq_getElem h3, List.getElem?_eq_getElem h6] at h2
  exact (Option.some.inj h2).symm
theorem holds_own {w0 w : World} {H : Blocks} {e : TypeId} {R : Row} {l : List Pl} (h : Hp w0 H w) (hm : (R.g, Obj.cells R.cs e (0, 0)) ∈ H) (hr : Row.ok 2 l.length (pf l) (some R)) : Go.Sort.HoldsK plc 2 w R.g 0 l.toArray := by
  unfold Go.Sort.HoldsK
  rw [flat_pf]
  intro j hj
  have hj : j < (pf l).length := by simpa using hj
  have h1 : R.cs[j]? = some (pf l)[j] := by
    have h2 : (pf l)[j]? = some (pf l)[j] := List.getElem?_eq_getElem hj
    conv at h2 => lhs; rw [← hr.2.2.2.2]
    rw [List.getElem?_take] at h2
    split at h2
    · simpa using h2
    · cases h2
  refine ⟨?_, ?_⟩
  · rw [Nat.zero_add, cell_own h hm, h1]
    simp [hj]
  · have hg := h.get hm
    simp [World.frozen?, hg]
theorem Hp.putRow {w0 w : World} {H H' : Blocks} {b : Nat} {cs : Array Value} {t : TypeId} {F : Array Value} (h : Hp w0 H w) (hu : Upd b (.cells cs t (0, 0)) (.cells (Go.Sort.putCells id 0 F cs) t (0, 0)) H H') : Hp w0 H' (Go.Sort.putRow id w b 0 F) := by
  refine h.upd hu ?_
  have hb := h.get hu.mem
  have hlt := (Array.getElem?_eq_some_iff.1 hb).1
  unfold Go.Sort.putRow Go.Sort.mapBlock
  congr 1
  apply Array.ext_getElem?
  intro i
  by_cases e : b = i
  · subst e
    rw [Array.getElem?_modify, if_pos rfl, hb]
    simp [hlt, Go.Sort.onCells]
  · simp [Array.getElem?_modify, e]
theorem putCells_take {F cs : Array Value} (h : F.size ≤ cs.size) : (Go.Sort.putCells id 0 F cs).toList.take F.size = F.toList := by
  apply List.ext_getElem?
  intro i
  rw [List.getElem?_take]
  split
  · rename_i hi
    have h1 : i < cs.size := by omega
    simp [Go.Sort.putCells, h1, hi]
  · rename_i hi
    exact (List.getElem?_eq_none (by simpa using hi)).symm
theorem putCells_size (F cs : Array Value) : (Go.Sort.putCells id 0 F cs).size = cs.size := by simp [Go.Sort.putCells]
/-- What the sort leaves. -/
theorem sorted_row {w0 w : World} {H0 : Blocks} {e : TypeId} {R : Row} {l m : List Pl} {n : Nat} {os : Array Obj} (h : Hp w0 (H0 ++ Row.b e (some R)) w) (hr : Row.ok 2 l.length (pf l) (some R)) (hl : m.length = l.length) :
    ∃ R' : Row, R'.g = R.g ∧ R'.cap = R.cap ∧ Hp w0 (H0 ++ Row.b e (some R')) (Go.Proofs.sortWorldK plc 2 w R.g 0 n m.toArray os) ∧ Row.ok 2 l.length (pf m) (some R') := by
  obtain ⟨h1, h2, h3, h4, h5⟩ := hr
  refine ⟨⟨R.g, R.cap, Go.Sort.putCells id 0 (pf m).toArray R.cs⟩, rfl, rfl, ?_, ?_⟩
  · unfold Go.Proofs.sortWorldK Go.Sort.putRowK
    rw [flat_pf]
    refine Hp.grow ((h.ahead n).putRow (t := e) (cs := R.cs) ?_) os
    have : ∀ (A : Blocks), Upd R.g (.cells R.cs e (0, 0)) (.cells (Go.Sort.putCells id 0 (pf m).toArray R.cs) e (0, 0)) (A ++ [(R.g, .cells R.cs e (0, 0))]) (A ++ [(R.g, .cells (Go.Sort.putCells id 0 (pf m).toArray R.cs) e (0, 0))]) := by
      intro A
      induction A with
      | nil => exact .here
      | cons x A ih => exact .there ih
    exact this H0
  · have hs : (pf m).toArray.size = l.length * 2 := by rw [List.size_toArray, pf_length, hl]
    refine ⟨by rw [pf_length, hl], h2, h3, by rw [putCells_size]; exact h4, ?_⟩
    have := putCells_take (F := (pf m).toArray) (cs := R.cs) (by rw [hs, h4]; omega)
    rw [hs] at this
    exact this
end Go.Proofs.YtjjoenbighmfoaaDoor
