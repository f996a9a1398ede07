/-
  The plain law of numbering: sizes of batches, the places of all ballots, a ballot's number.
-/
import Derived.Test.YtjjoenbighmfoaaDoorPlcUq
namespace Go.Proofs.YtjjoenbighmfoaaDoor
open Go Go.RowKit

/-- Valid sizes. -/
def okZ (ss : List Int) : Prop := ss.length ≤ 16 ∧ ∀ k ∈ ss, 0 ≤ k ∧ k ≤ 64
instance (ss : List Int) : Decidable (okZ ss) := inferInstanceAs (Decidable (_ ∧ _))
def mayE (ss : List Int) : Int := if 16 < ss.length then 4 else if ∀ k ∈ ss, 0 ≤ k ∧ k ≤ 64 then 0 else 2
section
variable {ss : List Int}
theorem mayE_gr (h : 16 < ss.length) : mayE ss = 4 := if_pos h
theorem mayE_arg (h : ss.length ≤ 16) (h1 : ¬ ∀ k ∈ ss, 0 ≤ k ∧ k ≤ 64) : mayE ss = 2 := (if_neg (by omega)).trans (if_neg h1)
theorem mayE_ok (h : okZ ss) : mayE ss = 0 := (if_neg (by have := h.1; omega)).trans (if_pos h.2)
theorem mayE_zero (h : mayE ss = 0) : okZ ss := by
  by_cases h1 : 16 < ss.length
  · rw [mayE_gr h1] at h; cases h
  · by_cases h2 : ∀ k ∈ ss, 0 ≤ k ∧ k ≤ 64
    · exact ⟨by omega, h2⟩
    · rw [mayE_arg (by omega) h2] at h; cases h
end
def sumZ : List Int → Int
  | [] => 0
  | x :: xs => x + sumZ xs
theorem sumZ_append : ∀ (a b : List Int), sumZ (a ++ b) = sumZ a + sumZ b
  | [], b => by simp [sumZ]
  | x :: a, b => by
    rw [List.cons_append, sumZ, sumZ, sumZ_append a b]
    omega
theorem sumZ_one (x : Int) : sumZ [x] = x := by simp [sumZ]
theorem sumZ_take {ss : List Int} {i : Nat} {x : Int} (h : ss[i]? = some x) : sumZ (ss.take (i + 1)) = sumZ (ss.take i) + x := by
  rw [List.take_add_one, h, sumZ_append]
  show _ + sumZ [x] = _
  rw [sumZ_one]
theorem sumZ_nonneg : ∀ {ss : List Int}, (∀ k ∈ ss, 0 ≤ k) → 0 ≤ sumZ ss
  | [], _ => Int.le_refl _
  | x :: ss, h => by
    have h1 := h x (List.mem_cons_self ..)
    have h2 := sumZ_nonneg (ss := ss) fun k hk => h k (List.mem_cons_of_mem _ hk)
    rw [sumZ]
    omega
theorem sumZ_le : ∀ {ss : List Int}, (∀ k ∈ ss, 0 ≤ k ∧ k ≤ 64) → sumZ ss ≤ 64 * (ss.length : Int)
  | [], _ => by simp [sumZ]
  | x :: ss, h => by
    have h1 := h x (List.mem_cons_self ..)
    have h2 := sumZ_le (ss := ss) fun k hk => h k (List.mem_cons_of_mem _ hk)
    rw [sumZ, List.length_cons]
    omega
theorem okZ_nn {ss : List Int} (h : okZ ss) : ∀ k ∈ ss, 0 ≤ k := fun k hk => (h.2 k hk).1
theorem okZ_take {ss : List Int} (h : okZ ss) (n : Nat) : okZ (ss.take n) := ⟨by rw [List.length_take]; have := h.1; omega, fun k hk => h.2 k (List.mem_of_mem_take hk)⟩
theorem okZ_sum {ss : List Int} (h : okZ ss) : 0 ≤ sumZ ss ∧ sumZ ss ≤ 1024 := by
  have h1 := sumZ_nonneg (okZ_nn h)
  have h2 := sumZ_le h.2
  have h3 := h.1
  omega
/-- The places of a batch, and of all batches. -/
def batch (b : Int) (n : Nat) : List Pl := (List.range n).map fun (i : Nat) => (b, (i : Int))
def placesAt : Int → List Int → List Pl
  | _, [] => []
  | b, k :: ks => batch b k.toNat ++ placesAt (b + 1) ks
def allP (ss : List Int) : List Pl := placesAt 0 ss
theorem batch_length (b : Int) (n : Nat) : (batch b n).length = n := by simp [batch]
theorem batch_get {b : Int} {n i : Nat} (h : i < n) : (batch b n)[i]? = some (b, (i : Int)) := by simp [batch, h]
theorem placesAt_append : ∀ (b : Int) (s t : List Int), placesAt b (s ++ t) = placesAt b s ++ placesAt (b + (s.length : Int)) t
  | b, [], t => by simp [placesAt]
  | b, k :: s, t => by
    rw [List.cons_append, placesAt, placesAt, placesAt_append (b + 1) s t, List.append_assoc, List.length_cons]
    rw [show b + 1 + (s.length : Int) = b + ((s.length + 1 : Nat) : Int) by omega]
theorem allP_take {ss : List Int} {i : Nat} {x : Int} (h : ss[i]? = some x) : allP (ss.take (i + 1)) = allP (ss.take i) ++ batch (i : Int) x.toNat := by
  have hi := (List.getElem?_eq_some_iff.1 h).1
  rw [List.take_add_one, h, allP, placesAt_append]
  congr 1
  show placesAt (0 + ((ss.take i).length : Int)) [x] = _
  rw [List.length_take, Nat.min_eq_left (by omega)]
  show batch (0 + (i : Int)) x.toNat ++ [] = _
  rw [List.append_nil]
  simp
theorem placesAt_length : ∀ (b : Int) {ss : List Int}, (∀ k ∈ ss, 0 ≤ k) → ((placesAt b ss).length : Int) = sumZ ss
  | _, [], _ => rfl
  | b, k :: ss, h => by
    have h1 := placesAt_length (b + 1) (ss := ss) fun x hx => h x (List.mem_cons_of_mem _ hx)
    have h2 := h k (List.mem_cons_self ..)
    rw [placesAt, List.length_append, batch_length, sumZ]
    omega
theorem allP_length {ss : List Int} (h : okZ ss) : ((allP ss).length : Int) = sumZ ss := placesAt_length 0 (okZ_nn h)
theorem allP_le {ss : List Int} (h : okZ ss) : (allP ss).length ≤ 1024 := by
  have := allP_length h
  have := okZ_sum h
  omega
/-- The ballot i of batch b. -/
theorem allP_get {ss : List Int} (h : okZ ss) {b i : Nat} {k : Int} (hb : ss[b]? = some k) (hi : (i : Int) < k) {n : Nat} (hn : (n : Int) = sumZ (ss.take b) + i) : (allP ss)[n]? = some ((b : Int), (i : Int)) := by
  have hlt := (List.getElem?_eq_some_iff.1 hb).1
  have e1 : ss = ss.take (b + 1) ++ ss.drop (b + 1) := (List.take_append_drop _ _).symm
  have h1 : allP ss = allP (ss.take b) ++ batch (b : Int) k.toNat ++ placesAt (0 + ((ss.take (b + 1)).length : Int)) (ss.drop (b + 1)) := by
    conv => lhs; rw [e1, allP, placesAt_append]
    rw [← allP_take hb]
    rfl
  have h2 := allP_length (okZ_take h b)
  rw [h1, List.append_assoc, List.getElem?_append_right (by omega), List.getElem?_append_left (by rw [batch_length]; omega)]
  rw [show n - (allP (ss.take b)).length = i by omega]
  exact batch_get (by omega)
/-- The number of ballots. -/
def totV (ss : List Int) : Int := if okZ ss then sumZ ss else 0
/-- The place of number n. -/
def atO (ss : List Int) (n : Int) : Option Pl := if n < 0 then none else (allP ss)[n.toNat]?
def atV (ss : List Int) (n : Int) : Pl := if okZ ss then (atO ss n).getD (0, 0) else (0, 0)
def atE (ss : List Int) (n : Int) : Int := if okZ ss then (if (atO ss n).isSome then 0 else 6) else mayE ss
/-- A ballot there is. -/
def isP (ss : List Int) (p : Pl) : Prop := 0 ≤ p.1 ∧ p.1 < (ss.length : Int) ∧ 0 ≤ p.2 ∧ p.2 < ss.getD p.1.toNat 0
instance (ss : List Int) (p : Pl) : Decidable (isP ss p) := inferInstanceAs (Decidable (_ ∧ _))
def nuV (ss : List Int) (p : Pl) : Int := if okZ ss ∧ isP ss p then sumZ (ss.take p.1.toNat) + p.2 else 0
def nuE (ss : List Int) (p : Pl) : Int := if okZ ss then (if isP ss p then 0 else 6) else mayE ss
section
variable {ss : List Int} {n : Int} {p : Pl}
theorem totV_ok (h : okZ ss) : totV ss = sumZ ss := if_pos h
theorem totV_bad (h : ¬ okZ ss) : totV ss = 0 := if_neg h
theorem atV_bad (h : ¬ okZ ss) : atV ss n = (0, 0) := if_neg h
theorem atE_bad (h : ¬ okZ ss) : atE ss n = mayE ss := if_neg h
theorem atV_some (h : okZ ss) (hp : atO ss n = some p) : atV ss n = p := by rw [atV, if_pos h, hp]; rfl
theorem atE_some (h : okZ ss) (hp : atO ss n = some p) : atE ss n = 0 := by rw [atE, if_pos h, hp]; rfl
theorem atV_none (h : okZ ss) (hp : atO ss n = none) : atV ss n = (0, 0) := by rw [atV, if_pos h, hp]; rfl
theorem atE_none (h : okZ ss) (hp : atO ss n = none) : atE ss n = 6 := by rw [atE, if_pos h, hp]; rfl
theorem atO_neg (h : n < 0) : atO ss n = none := if_pos h
theorem atO_nat (k : Nat) : atO ss (k : Int) = (allP ss)[k]? := by rw [atO, if_neg (by omega), Int.toNat_natCast]
theorem atO_gr (h : okZ ss) (hn : sumZ ss ≤ n) : atO ss n = none := by
  have h1 := allP_length h
  have h2 := okZ_sum h
  rw [atO, if_neg (by omega)]
  exact List.getElem?_eq_none (by omega)
theorem atO_at (h : okZ ss) {b i : Nat} {k : Int} (hb : ss[b]? = some k) (hi : (i : Int) < k) (hn : n = sumZ (ss.take b) + i) : atO ss n = some ((b : Int), (i : Int)) := by
  have h1 := okZ_sum (okZ_take h b)
  rw [atO, if_neg (by omega)]
  exact allP_get h hb hi (by omega)
theorem nuV_bad (h : ¬ okZ ss) : nuV ss p = 0 := if_neg (fun h1 => h h1.1)
theorem nuE_bad (h : ¬ okZ ss) : nuE ss p = mayE ss := if_neg h
theorem nuV_no (h : ¬ isP ss p) : nuV ss p = 0 := if_neg (fun h1 => h h1.2)
theorem nuE_no (h : okZ ss) (h1 : ¬ isP ss p) : nuE ss p = 6 := (if_pos h).trans (if_neg h1)
theorem nuV_ok (h : okZ ss) (h1 : isP ss p) : nuV ss p = sumZ (ss.take p.1.toNat) + p.2 := if_pos ⟨h, h1⟩
theorem nuE_ok (h : okZ ss) (h1 : isP ss p) : nuE ss p = 0 := (if_pos h).trans (if_pos h1)
end
end Go.Proofs.YtjjoenbighmfoaaDoor
