/-
  The plain law of the way down in a consistency proof: the list of turns gives the proof, its length, and what following computes.
-/
import Derived.Test.YtimegpilihfghaaDoorCon
namespace Go.Proofs.YtimegpilihfghaaDoor
open Go

structure Tn where
  fm : Nat
  n : Nat
  k : Nat
  rt : Bool
/-- The turns from the whole list to the part that the prefix ends with. -/
def downW (m n fm : Nat) : List Tn :=
  if h : m = n ∨ n < 2 then [] else if m ≤ bel n then ⟨fm, n, bel n, false⟩ :: downW m (bel n) fm else ⟨fm, n, bel n, true⟩ :: downW (m - bel n) (n - bel n) (fm + bel n)
  termination_by n
  decreasing_by
    · exact bel_lt (by omega)
    · have := bel_pos n; omega
/-- Whether that part lies at the front. -/
def downF (m n : Nat) (fr : Bool) : Bool :=
  if h : m = n ∨ n < 2 then fr else if m ≤ bel n then downF m (bel n) fr else downF (m - bel n) (n - bel n) false
  termination_by n
  decreasing_by
    · exact bel_lt (by omega)
    · have := bel_pos n; omega
/-- Where that part begins. -/
def downA (m n fm : Nat) : Nat :=
  if h : m = n ∨ n < 2 then fm else if m ≤ bel n then downA m (bel n) fm else downA (m - bel n) (n - bel n) (fm + bel n)
  termination_by n
  decreasing_by
    · exact bel_lt (by omega)
    · have := bel_pos n; omega
theorem down_top {m n fm : Nat} {fr : Bool} (h : m = n) : downW m n fm = [] ∧ downF m n fr = fr ∧ downA m n fm = fm := by
  refine ⟨?_, ?_, ?_⟩
  · rw [downW, dif_pos (.inl h)]
  · rw [downF, dif_pos (.inl h)]
  · rw [downA, dif_pos (.inl h)]
theorem down_left {m n fm : Nat} {fr : Bool} (h1 : 1 ≤ m) (h : m < n) (hk : m ≤ bel n) : downW m n fm = ⟨fm, n, bel n, false⟩ :: downW m (bel n) fm ∧ downF m n fr = downF m (bel n) fr ∧ downA m n fm = downA m (bel n) fm := by
  refine ⟨?_, ?_, ?_⟩
  · rw [downW, dif_neg (by omega), if_pos hk]
  · rw [downF, dif_neg (by omega), if_pos hk]
  · rw [downA, dif_neg (by omega), if_pos hk]
theorem down_right {m n fm : Nat} {fr : Bool} (h1 : 1 ≤ m) (h : m < n) (hk : ¬ m ≤ bel n) : downW m n fm = ⟨fm, n, bel n, true⟩ :: downW (m - bel n) (n - bel n) (fm + bel n) ∧ downF m n fr = downF (m - bel n) (n - bel n) false ∧ downA m n fm = downA (m - bel n) (n - bel n) (fm + bel n) := by
  refine ⟨?_, ?_, ?_⟩
  · rw [downW, dif_neg (by omega), if_neg hk]
  · rw [downF, dif_neg (by omega), if_neg hk]
  · rw [downA, dif_neg (by omega), if_neg hk]
theorem down_steps : ∀ (f m n fm : Nat) (fr : Bool), n ≤ f → 1 ≤ m → m ≤ n → stepsC m n fr = (downW m n fm).length + (if downF m n fr then 0 else 1)
  | 0, m, n, fm, fr, hf, h1, hm => by omega
  | f + 1, m, n, fm, fr, hf, h1, hm => by
    by_cases he : m = n
    · rw [stepsC_top he, (down_top (fm := fm) (fr := fr) he).1, (down_top (fm := fm) (fr := fr) he).2.1, List.length_nil, Nat.zero_add]
    · have hb := bel_lt (n := n) (by omega)
      have hp := bel_pos n
      by_cases hk : m ≤ bel n
      · obtain ⟨e1, e2, _⟩ := down_left (fm := fm) (fr := fr) h1 (by omega) hk
        rw [stepsC_left h1 (by omega) hk, e1, e2, down_steps f m (bel n) fm fr (by omega) h1 hk, List.length_cons]
        omega
      · obtain ⟨e1, e2, _⟩ := down_right (fm := fm) (fr := fr) h1 (by omega) hk
        rw [stepsC_right h1 (by omega) hk, e1, e2, down_steps f (m - bel n) (n - bel n) (fm + bel n) false (by omega) (by omega) (by omega), List.length_cons]
        omega
theorem down_len {m n fm : Nat} (h1 : 1 ≤ m) (hm : m ≤ n) : (downW m n fm).length ≤ n := by
  have h2 := down_steps n m n fm true (Nat.le_refl _) h1 hm
  have h3 := stepsC_le n m n true (Nat.le_refl _) h1 hm
  omega
theorem downA_le : ∀ (f m n fm : Nat), n ≤ f → 1 ≤ m → m ≤ n → fm ≤ downA m n fm ∧ downA m n fm < fm + m
  | 0, m, n, fm, hf, h1, hm => by omega
  | f + 1, m, n, fm, hf, h1, hm => by
    by_cases he : m = n
    · rw [(down_top (fm := fm) (fr := true) he).2.2]; omega
    · have hb := bel_lt (n := n) (by omega)
      have hp := bel_pos n
      by_cases hk : m ≤ bel n
      · rw [(down_left (fm := fm) (fr := true) h1 (by omega) hk).2.2]
        exact downA_le f m (bel n) fm (by omega) h1 hk
      · rw [(down_right (fm := fm) (fr := true) h1 (by omega) hk).2.2]
        have := downA_le f (m - bel n) (n - bel n) (fm + bel n) (by omega) (by omega) (by omega)
        omega
/-- The other part of a turn. -/
def otherD (L : List Dig) (t : Tn) : List Dig := if t.rt then (L.drop t.fm).take t.k else (L.drop (t.fm + t.k)).take (t.n - t.k)
theorem down_proof : ∀ (f : Nat) (L : List Dig) (m n fm : Nat) (fr : Bool), n ≤ f → 1 ≤ m → m ≤ n → fm + n ≤ L.length →
    proofR ((L.drop fm).take n) m fr = (if downF m n fr then [] else [rootR ((L.drop (downA m n fm)).take (fm + m - downA m n fm))]) ++ (downW m n fm).reverse.map (fun t => rootR (otherD L t))
  | 0, L, m, n, fm, fr, hf, h1, hm, hl => by omega
  | f + 1, L, m, n, fm, fr, hf, h1, hm, hl => by
    have hS : ((L.drop fm).take n).length = n := by rw [List.length_take, List.length_drop]; omega
    by_cases he : m = n
    · obtain ⟨e1, e2, e3⟩ := down_top (fm := fm) (fr := fr) he
      rw [proofR_top (by omega), e1, e2, e3, List.reverse_nil, List.map_nil, List.append_nil, show fm + m - fm = n by omega]
    · have hb := bel_lt (n := n) (by omega)
      have hp := bel_pos n
      by_cases hk : m ≤ bel n
      · obtain ⟨e1, e2, e3⟩ := down_left (fm := fm) (fr := fr) h1 (by omega) hk
        have ih := down_proof f L m (bel n) fm fr (by omega) h1 hk (by omega)
        have h3 : ((L.drop fm).take n).take (bel n) = (L.drop fm).take (bel n) := by rw [List.take_take, Nat.min_eq_left (by omega)]
        have h4 : ((L.drop fm).take n).drop (bel n) = (L.drop (fm + bel n)).take (n - bel n) := by rw [List.drop_take, List.drop_drop]
        rw [proofR_left h1 (by omega) (by rw [hS]; exact hk), hS, h3, h4, ih, e1, e2, e3, List.reverse_cons, List.map_append, List.append_assoc]
        rfl
      · obtain ⟨e1, e2, e3⟩ := down_right (fm := fm) (fr := fr) h1 (by omega) hk
        have ih := down_proof f L (m - bel n) (n - bel n) (fm + bel n) false (by omega) (by omega) (by omega) (by omega)
        have h3 : ((L.drop fm).take n).take (bel n) = (L.drop fm).take (bel n) := by rw [List.take_take, Nat.min_eq_left (by omega)]
        have h4 : ((L.drop fm).take n).drop (bel n) = (L.drop (fm + bel n)).take (n - bel n) := by rw [List.drop_take, List.drop_drop]
        rw [proofR_right h1 (by omega) (by rw [hS]; exact hk), hS, h3, h4, ih, e1, e2, e3, List.reverse_cons, List.map_append, List.append_assoc, show fm + bel n + (m - bel n) = fm + m by omega]
        rfl
/-- One step of following. -/
def stepB (x : Dig × Dig) (z : Tn × Dig) : Dig × Dig := if z.1.rt then (nodeD z.2 x.1, nodeD z.2 x.2) else (x.1, nodeD x.2 z.2)
theorem down_led : ∀ (f m n fm : Nat) (fr : Bool) (was b : Dig) (ys : List Dig), n ≤ f → 1 ≤ m → m ≤ n → ys.length = (downW m n fm).length →
    ledC m n fr was ((if downF m n fr then [] else [b]) ++ ys) = ((downW m n fm).reverse.zip ys).foldl stepB (if downF m n fr then (was, was) else (b, b))
  | 0, m, n, fm, fr, was, b, ys, hf, h1, hm, hl => by omega
  | f + 1, m, n, fm, fr, was, b, ys, hf, h1, hm, hl => by
    by_cases he : m = n
    · obtain ⟨e1, e2, e3⟩ := down_top (fm := fm) (fr := fr) he
      rw [e1] at hl
      obtain rfl := List.eq_nil_of_length_eq_zero hl
      rw [ledC_top he, e1, e2]
      cases fr <;> rfl
    · have hb := bel_lt (n := n) (by omega)
      have hp := bel_pos n
      by_cases hk : m ≤ bel n
      · obtain ⟨e1, e2, e3⟩ := down_left (fm := fm) (fr := fr) h1 (by omega) hk
        rw [e1, List.length_cons] at hl
        obtain ⟨zs, y, rfl, hz⟩ := ends_ex hl
        have ih := down_led f m (bel n) fm fr was b zs (by omega) h1 hk hz
        rw [e1, e2, ← List.append_assoc, ledC_left h1 (by omega) hk, ih, List.reverse_cons, List.zip_append (by rw [List.length_reverse]; exact hz.symm), List.foldl_append]
        rfl
      · obtain ⟨e1, e2, e3⟩ := down_right (fm := fm) (fr := fr) h1 (by omega) hk
        rw [e1, List.length_cons] at hl
        obtain ⟨zs, y, rfl, hz⟩ := ends_ex hl
        have ih := down_led f (m - bel n) (n - bel n) (fm + bel n) false was b zs (by omega) (by omega) (by omega) hz
        rw [e1, e2, ← List.append_assoc, ledC_right h1 (by omega) hk, ih, List.reverse_cons, List.zip_append (by rw [List.length_reverse]; exact hz.symm), List.foldl_append]
        rfl
end Go.Proofs.YtimegpilihfghaaDoor
