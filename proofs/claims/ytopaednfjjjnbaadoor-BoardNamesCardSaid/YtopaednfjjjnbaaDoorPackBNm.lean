/-
  Several small texts in one: Tree, Dig, Short, Ent, Head, Own, Map.
-/
import Derived.Test.YtopaednfjjjnbaaDoorPackANm
import Derived.ChangeKeysEq
import Derived.MapKept
namespace Go.Proofs.YtopaednfjjjnbaaDoor

abbrev Dig := { l : List UInt8 // l.length = 32 }
theorem dig_len (d : Dig) : d.1.length = 32 := d.2
def nodeD (a b : Dig) : Dig := ⟨sha (1 :: (a.1 ++ b.1)), sha_length _⟩
def sumD : Dig := ⟨sha [], sha_length _⟩
def zeroD : Dig := ⟨List.replicate 32 0, rfl⟩
instance : Inhabited Dig := ⟨zeroD⟩

/-! ### The greatest power of two below -/
def bel (n : Nat) : Nat := 2 ^ Nat.log2 (n - 1)
theorem bel_pos (n : Nat) : 1 ≤ bel n := Nat.one_le_two_pow
theorem bel_of {n j : Nat} (h1 : 2 ^ j < n) (h2 : n ≤ 2 ^ (j + 1)) : bel n = 2 ^ j := by
  unfold bel
  have h0 : n - 1 ≠ 0 := by have : 1 ≤ 2 ^ j := Nat.one_le_two_pow; omega
  rw [(Nat.log2_eq_iff (k := j) h0).2 ⟨by omega, by omega⟩]
theorem bel_spec {n : Nat} (h : 2 ≤ n) : bel n < n ∧ n ≤ 2 * bel n := by
  have h0 : n - 1 ≠ 0 := by omega
  have h1 := Nat.log2_self_le h0
  have h2 := @Nat.lt_log2_self (n - 1)
  unfold bel
  rw [Nat.pow_succ] at h2
  omega
theorem bel_lt {n : Nat} (h : 2 ≤ n) : bel n < n := (bel_spec h).1
theorem bel_two : bel 2 = 1 := by decide
/-- Halving. -/
theorem bel_half {n : Nat} (h : 3 ≤ n) : bel n = 2 * bel ((n + 1) / 2) := by
  have h1 := bel_spec (n := (n + 1) / 2) (by omega)
  obtain ⟨j, hj⟩ : ∃ j, bel ((n + 1) / 2) = 2 ^ j := ⟨_, rfl⟩
  rw [hj] at h1 ⊢
  have e : 2 * 2 ^ j = 2 ^ (j + 1) := by rw [Nat.pow_succ]; omega
  rw [e]
  apply bel_of
  · rw [← e]; omega
  · rw [Nat.pow_succ, ← e]; omega
theorem bel_even {n : Nat} (h : 3 ≤ n) : bel n % 2 = 0 := by rw [bel_half h]; omega
theorem bel_ge2 {n : Nat} (h : 3 ≤ n) : 2 ≤ bel n := by have := bel_half h; have := bel_pos ((n + 1) / 2); omega

/-! ### Levels -/
def up : List Dig → List Dig
  | a :: b :: l => nodeD a b :: up l
  | l => l
theorem up_one (a : Dig) : up [a] = [a] := rfl
theorem up_two (a b : Dig) (l : List Dig) : up (a :: b :: l) = nodeD a b :: up l := rfl
theorem up_length : ∀ l : List Dig, (up l).length = (l.length + 1) / 2
  | [] => rfl
  | [x] => by rw [up_one, List.length_singleton]
  | a :: b :: l => by
    rw [up_two, List.length_cons, up_length l]
    simp only [List.length_cons]
    omega
theorem up_append : ∀ (a b : List Dig), a.length % 2 = 0 → up (a ++ b) = up a ++ up b
  | [], b, _ => rfl
  | [x], b, h => by simp at h
  | x :: y :: a, b, h => by
    simp only [List.cons_append, up_two]
    rw [up_append a b (by simp only [List.length_cons] at h; omega)]
theorem up_take {l : List Dig} {k : Nat} (hk : k ≤ l.length) (he : k % 2 = 0) : (up l).take (k / 2) = up (l.take k) := by
  have h := up_append (l.take k) (l.drop k) (by rw [List.length_take]; omega)
  rw [List.take_append_drop] at h
  rw [h, List.take_append_of_le_length (by rw [up_length, List.length_take]; omega), List.take_of_length_le (by rw [up_length, List.length_take]; omega)]
theorem up_drop {l : List Dig} {k : Nat} (hk : k ≤ l.length) (he : k % 2 = 0) : (up l).drop (k / 2) = up (l.drop k) := by
  have h := up_append (l.take k) (l.drop k) (by rw [List.length_take]; omega)
  rw [List.take_append_drop] at h
  rw [h, List.drop_append_of_le_length (by rw [up_length, List.length_take]; omega), List.drop_of_length_le (by rw [up_length, List.length_take]; omega), List.nil_append]
theorem up_get : ∀ (l : List Dig) (k : Nat) (a b : Dig), l[2 * k]? = some a → l[2 * k + 1]? = some b → (up l)[k]? = some (nodeD a b)
  | [], k, _, _, h, _ => by simp at h
  | [x], k, _, _, _, h => by simp at h
  | x :: y :: l, 0, a, b, h1, h2 => by
    simp at h1 h2
    subst h1; subst h2; rfl
  | x :: y :: l, k + 1, a, b, h1, h2 => by
    rw [up_two, List.getElem?_cons_succ]
    refine up_get l k a b ?_ ?_
    · rw [show 2 * (k + 1) = 2 * k + 1 + 1 by omega] at h1
      simpa using h1
    · rw [show 2 * (k + 1) + 1 = 2 * k + 1 + 1 + 1 by omega] at h2
      simpa using h2
theorem up_last : ∀ (l : List Dig) (k : Nat) (a : Dig), l.length = 2 * k + 1 → l[2 * k]? = some a → (up l)[k]? = some a
  | [], _, _, h, _ => by simp at h
  | [x], 0, a, _, h => by simpa [up_one] using h
  | [x], k + 1, a, h, _ => by simp at h
  | x :: y :: l, 0, a, h, _ => by simp at h
  | x :: y :: l, k + 1, a, h, h1 => by
    rw [up_two, List.getElem?_cons_succ]
    refine up_last l k a (by simp only [List.length_cons] at h; omega) ?_
    rw [show 2 * (k + 1) = 2 * k + 1 + 1 by omega] at h1
    simpa using h1

/-! ### Roots -/
def rootF : Nat → List Dig → Dig
  | 0, _ => sumD
  | f + 1, l => match l with
    | [] => sumD
    | [x] => x
    | l => nodeD (rootF f (l.take (bel l.length))) (rootF f (l.drop (bel l.length)))
def rootR (l : List Dig) : Dig := rootF l.length l
theorem rootF_two (f : Nat) {l : List Dig} (h : 2 ≤ l.length) : rootF (f + 1) l = nodeD (rootF f (l.take (bel l.length))) (rootF f (l.drop (bel l.length))) := by
  match l, h with
  | x :: y :: l, _ => rfl
theorem rootF_fuel : ∀ (n : Nat) (f : Nat) (l : List Dig), l.length ≤ n → l.length ≤ f → rootF f l = rootF l.length l
  | 0, f, l, h, _ => by
    have : l = [] := List.eq_nil_of_length_eq_zero (by omega)
    subst this
    cases f <;> rfl
  | n + 1, f, l, h, hf => by
    match l, h, hf with
    | [], _, _ => cases f <;> rfl
    | [x], _, hf => cases f with
      | zero => simp at hf
      | succ f => rfl
    | x :: y :: l, h, hf =>
      obtain ⟨L, hL⟩ : ∃ L, L = x :: y :: l := ⟨_, rfl⟩
      rw [← hL] at h hf ⊢
      have h2 : 2 ≤ L.length := by rw [hL]; simp
      have hb := bel_lt h2
      have hp := bel_pos L.length
      obtain ⟨g, hg⟩ : ∃ g, f = g + 1 := ⟨f - 1, by omega⟩
      obtain ⟨m, hm⟩ : ∃ m, L.length = m + 1 := ⟨L.length - 1, by omega⟩
      have ht : (L.take (bel L.length)).length = bel L.length := by rw [List.length_take]; omega
      have hd : (L.drop (bel L.length)).length = L.length - bel L.length := List.length_drop
      conv => rhs; rw [hm]
      rw [hg, rootF_two g h2, rootF_two m h2]
      rw [rootF_fuel n g _ (by omega) (by omega), rootF_fuel n g _ (by omega) (by omega), rootF_fuel n m _ (by omega) (by omega), rootF_fuel n m (L.drop _) (by omega) (by omega)]
theorem rootR_one (x : Dig) : rootR [x] = x := rfl
theorem rootR_len1 {l : List Dig} (h : l.length = 1) {x : Dig} (hx : l[0]? = some x) : rootR l = x := by
  match l, h with
  | [y], _ => simpa [rootR_one] using hx
theorem rootR_split {l : List Dig} (h : 2 ≤ l.length) : rootR l = nodeD (rootR (l.take (bel l.length))) (rootR (l.drop (bel l.length))) := by
  have hb := bel_lt h
  have hp := bel_pos l.length
  obtain ⟨m, hm⟩ : ∃ m, l.length = m + 1 := ⟨l.length - 1, by omega⟩
  have ht : (l.take (bel l.length)).length = bel l.length := by rw [List.length_take]; omega
  have hd : (l.drop (bel l.length)).length = l.length - bel l.length := List.length_drop
  unfold rootR
  conv => lhs; rw [hm]
  rw [rootF_two m h, rootF_fuel m m _ (by omega) (by omega), rootF_fuel m m (l.drop _) (by omega) (by omega)]
/-- The level above has the same root. -/
theorem rootR_up : ∀ (n : Nat) (l : List Dig), l.length ≤ n → rootR (up l) = rootR l
  | 0, l, h => by
    have : l = [] := List.eq_nil_of_length_eq_zero (by omega)
    subst this; rfl
  | n + 1, l, h => by
    match l, h with
    | [], _ => rfl
    | [x], _ => rfl
    | [x, y], _ => rfl
    | x :: y :: z :: l, h =>
      obtain ⟨L, hL⟩ : ∃ L, L = x :: y :: z :: l := ⟨_, rfl⟩
      rw [← hL] at h ⊢
      have h3 : 3 ≤ L.length := by rw [hL]; simp
      have hb := bel_lt (show 2 ≤ L.length by omega)
      have hh := bel_half h3
      have he := bel_even h3
      have hg := bel_ge2 h3
      have hu := up_length L
      have e : bel (up L).length = bel L.length / 2 := by rw [hu]; omega
      rw [rootR_split (show 2 ≤ L.length by omega), rootR_split (show 2 ≤ (up L).length by omega), e, up_take (by omega) he, up_drop (by omega) he]
      rw [rootR_up n _ (by rw [List.length_take]; omega), rootR_up n _ (by rw [List.length_drop]; omega)]
theorem root_up (l : List Dig) : rootR (up l) = rootR l := rootR_up l.length l (Nat.le_refl _)

/-! ### Paths -/
def pathF : Nat → List Dig → Nat → List Dig
  | 0, _, _ => []
  | f + 1, l, i => if l.length ≤ 1 then [] else if i < bel l.length then pathF f (l.take (bel l.length)) i ++ [rootR (l.drop (bel l.length))] else pathF f (l.drop (bel l.length)) (i - bel l.length) ++ [rootR (l.take (bel l.length))]
def pathR (l : List Dig) (i : Nat) : List Dig := pathF l.length l i
theorem pathF_small (f : Nat) {l : List Dig} (i : Nat) (h : l.length ≤ 1) : pathF f l i = [] := by
  cases f with
  | zero => rfl
  | succ f => rw [pathF, if_pos h]
theorem pathF_succ (f : Nat) {l : List Dig} (i : Nat) (h : 2 ≤ l.length) : pathF (f + 1) l i = if i < bel l.length then pathF f (l.take (bel l.length)) i ++ [rootR (l.drop (bel l.length))] else pathF f (l.drop (bel l.length)) (i - bel l.length) ++ [rootR (l.take (bel l.length))] := by
  rw [pathF, if_neg (by omega)]
theorem pathF_fuel : ∀ (n f : Nat) (l : List Dig) (i : Nat), l.length ≤ n → l.length ≤ f → pathF f l i = pathF l.length l i
  | 0, f, l, i, h, _ => by
    have : l = [] := List.eq_nil_of_length_eq_zero (by omega)
    subst this
    cases f <;> simp [pathF]
  | n + 1, f, l, i, h, hf => by
    rcases Nat.lt_or_ge l.length 2 with h1 | h1
    · rw [pathF_small _ _ (by omega), pathF_small _ _ (by omega)]
    · have hb := bel_lt h1
      have hp := bel_pos l.length
      obtain ⟨g, hg⟩ : ∃ g, f = g + 1 := ⟨f - 1, by omega⟩
      obtain ⟨m, hm⟩ : ∃ m, l.length = m + 1 := ⟨l.length - 1, by omega⟩
      have ht : (l.take (bel l.length)).length = bel l.length := by rw [List.length_take]; omega
      have hd : (l.drop (bel l.length)).length = l.length - bel l.length := List.length_drop
      conv => rhs; rw [hm]
      rw [hg, pathF_succ g i h1, pathF_succ m i h1]
      rw [pathF_fuel n g (l.take (bel l.length)) i (by omega) (by omega), pathF_fuel n g (l.drop (bel l.length)) (i - bel l.length) (by omega) (by omega), pathF_fuel n m (l.take (bel l.length)) i (by omega) (by omega), pathF_fuel n m (l.drop (bel l.length)) (i - bel l.length) (by omega) (by omega)]
theorem pathR_small {l : List Dig} {i : Nat} (h : l.length ≤ 1) : pathR l i = [] := by
  unfold pathR
  cases hl : l.length with
  | zero => rfl
  | succ m => rw [pathF, if_pos (by omega)]
theorem pathR_split {l : List Dig} {i : Nat} (h : 2 ≤ l.length) : pathR l i = if i < bel l.length then pathR (l.take (bel l.length)) i ++ [rootR (l.drop (bel l.length))] else pathR (l.drop (bel l.length)) (i - bel l.length) ++ [rootR (l.take (bel l.length))] := by
  have hb := bel_lt h
  have hp := bel_pos l.length
  obtain ⟨m, hm⟩ : ∃ m, l.length = m + 1 := ⟨l.length - 1, by omega⟩
  have ht : (l.take (bel l.length)).length = bel l.length := by rw [List.length_take]; omega
  have hd : (l.drop (bel l.length)).length = l.length - bel l.length := List.length_drop
  unfold pathR
  conv => lhs; rw [hm]
  rw [pathF, if_neg (by omega), pathF_fuel m m (l.take (bel l.length)) i (by omega) (by omega), pathF_fuel m m (l.drop (bel l.length)) (i - bel l.length) (by omega) (by omega)]
theorem pathR_left {l : List Dig} {i : Nat} (h : 2 ≤ l.length) (hi : i < bel l.length) : pathR l i = pathR (l.take (bel l.length)) i ++ [rootR (l.drop (bel l.length))] := by rw [pathR_split h, if_pos hi]
theorem pathR_right {l : List Dig} {i : Nat} (h : 2 ≤ l.length) (hi : ¬ i < bel l.length) : pathR l i = pathR (l.drop (bel l.length)) (i - bel l.length) ++ [rootR (l.take (bel l.length))] := by rw [pathR_split h, if_neg hi]
/-- The other place of a pair. -/
def oth (i : Nat) : Nat := if i % 2 = 1 then i - 1 else i + 1
def sib (l : List Dig) (i : Nat) : List Dig := (l[oth i]?).toList
theorem pathR_up : ∀ (n : Nat) (l : List Dig) (i : Nat), l.length ≤ n → 2 ≤ l.length → i < l.length → pathR l i = sib l i ++ pathR (up l) (i / 2)
  | 0, l, i, h, h2, _ => by omega
  | n + 1, l, i, h, h2, hi => by
    rcases Nat.lt_or_ge l.length 3 with h3 | h3
    · match l, h2, h3 with
      | [x, y], _, _ =>
        rcases (by simp at hi; omega : i = 0 ∨ i = 1) with e | e <;> subst e <;> rfl
    · have hb := bel_spec h2
      have hh := bel_half h3
      have he := bel_even h3
      have hg := bel_ge2 h3
      have hu := up_length l
      have e : bel (up l).length = bel l.length / 2 := by rw [hu]; omega
      have ht : (l.take (bel l.length)).length = bel l.length := by rw [List.length_take]; omega
      have hd : (l.drop (bel l.length)).length = l.length - bel l.length := List.length_drop
      by_cases hl : i < bel l.length
      · rw [pathR_left h2 hl, pathR_left (show 2 ≤ (up l).length by omega) (by rw [e]; omega), e, up_take (by omega) he, up_drop (by omega) he, root_up]
        rw [pathR_up n _ i (by omega) (by omega) (by omega), List.append_assoc]
        congr 1
        unfold sib
        rw [List.getElem?_take, if_pos (by unfold oth; split <;> omega)]
      · rw [pathR_right h2 hl, pathR_right (show 2 ≤ (up l).length by omega) (by rw [e]; omega), e, up_take (by omega) he, up_drop (by omega) he, root_up]
        have hi2 : i / 2 - bel l.length / 2 = (i - bel l.length) / 2 := by omega
        rw [hi2]
        rcases Nat.lt_or_ge (l.length - bel l.length) 2 with h1 | h1
        · have e1 : i = bel l.length := by omega
          rw [pathR_small (show (l.drop (bel l.length)).length ≤ 1 by omega), pathR_small (show (up (l.drop (bel l.length))).length ≤ 1 by rw [up_length]; omega)]
          have : sib l i = [] := by
            unfold sib
            rw [List.getElem?_eq_none (by unfold oth; rw [if_neg (by omega)]; omega)]
            rfl
          rw [this]
          rfl
        · rw [pathR_up n _ (i - bel l.length) (by omega) (by omega) (by omega), List.append_assoc]
          congr 1
          unfold sib
          rw [List.getElem?_drop]
          congr 2
          unfold oth
          split <;> split <;> omega
theorem path_up {l : List Dig} {i : Nat} (h : 2 ≤ l.length) (hi : i < l.length) : pathR l i = sib l i ++ pathR (up l) (i / 2) := pathR_up l.length l i (Nat.le_refl _) h hi

/-! ### Lengths -/
def stepsF : Nat → Nat → Nat → Nat
  | 0, _, _ => 0
  | f + 1, i, n => if n ≤ 1 then 0 else if i < bel n then stepsF f i (bel n) + 1 else stepsF f (i - bel n) (n - bel n) + 1
def stepsR (i n : Nat) : Nat := stepsF n i n
theorem stepsF_small (f i : Nat) {n : Nat} (h : n ≤ 1) : stepsF f i n = 0 := by
  cases f with
  | zero => rfl
  | succ f => rw [stepsF, if_pos h]
theorem stepsF_succ (f i : Nat) {n : Nat} (h : 2 ≤ n) : stepsF (f + 1) i n = if i < bel n then stepsF f i (bel n) + 1 else stepsF f (i - bel n) (n - bel n) + 1 := by
  rw [stepsF, if_neg (by omega)]
theorem stepsF_fuel : ∀ (m f i n : Nat), n ≤ m → n ≤ f → stepsF f i n = stepsF n i n
  | 0, f, i, n, h, _ => by
    obtain rfl : n = 0 := by omega
    cases f <;> simp [stepsF]
  | m + 1, f, i, n, h, hf => by
    rcases Nat.lt_or_ge n 2 with h1 | h1
    · rw [stepsF_small _ _ (by omega), stepsF_small _ _ (by omega)]
    · have hb := bel_lt h1
      have hp := bel_pos n
      obtain ⟨g, hg⟩ : ∃ g, f = g + 1 := ⟨f - 1, by omega⟩
      obtain ⟨k, hk⟩ : ∃ k, n = k + 1 := ⟨n - 1, by omega⟩
      have e : stepsF n i n = stepsF (k + 1) i n := by rw [hk]
      rw [e, hg, stepsF_succ g i h1, stepsF_succ k i h1]
      rw [stepsF_fuel m g i (bel n) (by omega) (by omega), stepsF_fuel m g (i - bel n) (n - bel n) (by omega) (by omega), stepsF_fuel m k i (bel n) (by omega) (by omega), stepsF_fuel m k (i - bel n) (n - bel n) (by omega) (by omega)]
theorem stepsR_small {i n : Nat} (h : n ≤ 1) : stepsR i n = 0 := by
  unfold stepsR
  cases n with
  | zero => rfl
  | succ n => rw [stepsF, if_pos (by omega)]
theorem stepsR_split {i n : Nat} (h : 2 ≤ n) : stepsR i n = if i < bel n then stepsR i (bel n) + 1 else stepsR (i - bel n) (n - bel n) + 1 := by
  have hb := bel_lt h
  have hp := bel_pos n
  obtain ⟨k, hk⟩ : ∃ k, n = k + 1 := ⟨n - 1, by omega⟩
  have e : stepsR i n = stepsF (k + 1) i n := by unfold stepsR; rw [hk]
  rw [e, stepsF, if_neg (by omega)]
  unfold stepsR
  rw [stepsF_fuel k k i (bel n) (by omega) (by omega), stepsF_fuel k k (i - bel n) (n - bel n) (by omega) (by omega)]
theorem stepsR_left {i n : Nat} (h : 2 ≤ n) (hi : i < bel n) : stepsR i n = stepsR i (bel n) + 1 := by rw [stepsR_split h, if_pos hi]
theorem stepsR_right {i n : Nat} (h : 2 ≤ n) (hi : ¬ i < bel n) : stepsR i n = stepsR (i - bel n) (n - bel n) + 1 := by rw [stepsR_split h, if_neg hi]
theorem pathR_length : ∀ (m : Nat) (l : List Dig) (i : Nat), l.length ≤ m → (pathR l i).length = stepsR i l.length
  | 0, l, i, h => by rw [pathR_small (by omega), stepsR_small (by omega)]; rfl
  | m + 1, l, i, h => by
    rcases Nat.lt_or_ge l.length 2 with h1 | h1
    · rw [pathR_small (by omega), stepsR_small (by omega)]; rfl
    · have hb := bel_lt h1
      have hp := bel_pos l.length
      have ht : (l.take (bel l.length)).length = bel l.length := by rw [List.length_take]; omega
      have hd : (l.drop (bel l.length)).length = l.length - bel l.length := List.length_drop
      rw [pathR_split h1, stepsR_split h1]
      split
      · rw [List.length_append, pathR_length m _ i (by omega), ht]; rfl
      · rw [List.length_append, pathR_length m _ _ (by omega), hd]; rfl
theorem path_length (l : List Dig) (i : Nat) : (pathR l i).length = stepsR i l.length := pathR_length l.length l i (Nat.le_refl _)
/-- Whether there is a sibling. -/
def isT (i n : Nat) : Bool := decide (i % 2 = 1 ∨ i + 1 < n)
theorem stepsR_up : ∀ (m n i : Nat), n ≤ m → 2 ≤ n → i < n → stepsR i n = (if isT i n then 1 else 0) + stepsR (i / 2) ((n + 1) / 2)
  | 0, n, i, h, h2, _ => by omega
  | m + 1, n, i, h, h2, hi => by
    rcases Nat.lt_or_ge n 3 with h3 | h3
    · obtain rfl : n = 2 := by omega
      rcases (by omega : i = 0 ∨ i = 1) with e | e <;> subst e <;> decide
    · have hb := bel_spec h2
      have hh := bel_half h3
      have he := bel_even h3
      have hg := bel_ge2 h3
      have e : bel ((n + 1) / 2) = bel n / 2 := by omega
      by_cases hl : i < bel n
      · rw [stepsR_left h2 hl, stepsR_left (show 2 ≤ (n + 1) / 2 by omega) (by omega), stepsR_up m (bel n) i (by omega) (by omega) hl]
        have e2 : (bel n + 1) / 2 = bel ((n + 1) / 2) := by omega
        have e3 : isT i (bel n) = isT i n := by unfold isT; congr 1; apply propext; omega
        rw [e2, e3]
        omega
      · rw [stepsR_right h2 hl, stepsR_right (show 2 ≤ (n + 1) / 2 by omega) (by omega)]
        have hi2 : i / 2 - bel ((n + 1) / 2) = (i - bel n) / 2 := by omega
        have hn2 : (n + 1) / 2 - bel ((n + 1) / 2) = (n - bel n + 1) / 2 := by omega
        rw [hi2, hn2]
        rcases Nat.lt_or_ge (n - bel n) 2 with h1 | h1
        · rw [stepsR_small (show n - bel n ≤ 1 by omega), stepsR_small (show (n - bel n + 1) / 2 ≤ 1 by omega)]
          have : isT i n = false := by unfold isT; exact decide_eq_false (by omega)
          rw [this]; rfl
        · rw [stepsR_up m (n - bel n) (i - bel n) (by omega) h1 (by omega)]
          have e3 : isT (i - bel n) (n - bel n) = isT i n := by unfold isT; congr 1; apply propext; omega
          rw [e3]
          omega
theorem steps_up {i n : Nat} (h : 2 ≤ n) (hi : i < n) : stepsR i n = (if isT i n then 1 else 0) + stepsR (i / 2) ((n + 1) / 2) := stepsR_up n n i (Nat.le_refl _) h hi

/-! ### Following -/
def ledF : Nat → Dig → Nat → Nat → List Dig → Dig
  | 0, x, _, _, _ => x
  | f + 1, x, i, n, p => if n ≤ 1 then x else if i < bel n then nodeD (ledF f x i (bel n) p.dropLast) (p.getLastD zeroD) else nodeD (p.getLastD zeroD) (ledF f x (i - bel n) (n - bel n) p.dropLast)
def ledR (x : Dig) (i n : Nat) (p : List Dig) : Dig := ledF n x i n p
theorem ledF_small (f : Nat) (x : Dig) (i : Nat) {n : Nat} (p : List Dig) (h : n ≤ 1) : ledF f x i n p = x := by
  cases f with
  | zero => rfl
  | succ f => rw [ledF, if_pos h]
theorem ledF_succ (f : Nat) (x : Dig) (i : Nat) {n : Nat} (p : List Dig) (h : 2 ≤ n) : ledF (f + 1) x i n p = if i < bel n then nodeD (ledF f x i (bel n) p.dropLast) (p.getLastD zeroD) else nodeD (p.getLastD zeroD) (ledF f x (i - bel n) (n - bel n) p.dropLast) := by
  rw [ledF, if_neg (by omega)]
theorem ledF_fuel : ∀ (m f i n : Nat) (x : Dig) (p : List Dig), n ≤ m → n ≤ f → ledF f x i n p = ledF n x i n p
  | 0, f, i, n, x, p, h, _ => by
    obtain rfl : n = 0 := by omega
    cases f <;> simp [ledF]
  | m + 1, f, i, n, x, p, h, hf => by
    rcases Nat.lt_or_ge n 2 with h1 | h1
    · rw [ledF_small _ _ _ _ (by omega), ledF_small _ _ _ _ (by omega)]
    · have hb := bel_lt h1
      have hp := bel_pos n
      obtain ⟨g, hg⟩ : ∃ g, f = g + 1 := ⟨f - 1, by omega⟩
      obtain ⟨k, hk⟩ : ∃ k, n = k + 1 := ⟨n - 1, by omega⟩
      have e : ledF n x i n p = ledF (k + 1) x i n p := by rw [hk]
      rw [e, hg, ledF_succ g x i p h1, ledF_succ k x i p h1]
      rw [ledF_fuel m g i (bel n) _ _ (by omega) (by omega), ledF_fuel m g (i - bel n) (n - bel n) _ _ (by omega) (by omega), ledF_fuel m k i (bel n) _ _ (by omega) (by omega), ledF_fuel m k (i - bel n) (n - bel n) _ _ (by omega) (by omega)]
theorem ledR_small {x : Dig} {i n : Nat} {p : List Dig} (h : n ≤ 1) : ledR x i n p = x := by
  unfold ledR
  cases n with
  | zero => rfl
  | succ n => rw [ledF, if_pos (by omega)]
theorem ledR_split {x : Dig} {i n : Nat} {p : List Dig} (h : 2 ≤ n) : ledR x i n p = if i < bel n then nodeD (ledR x i (bel n) p.dropLast) (p.getLastD zeroD) else nodeD (p.getLastD zeroD) (ledR x (i - bel n) (n - bel n) p.dropLast) := by
  have hb := bel_lt h
  have hp := bel_pos n
  obtain ⟨k, hk⟩ : ∃ k, n = k + 1 := ⟨n - 1, by omega⟩
  have e : ledR x i n p = ledF (k + 1) x i n p := by unfold ledR; rw [hk]
  rw [e, ledF, if_neg (by omega)]
  unfold ledR
  rw [ledF_fuel k k i (bel n) _ _ (by omega) (by omega), ledF_fuel k k (i - bel n) (n - bel n) _ _ (by omega) (by omega)]
theorem ledR_left {x y : Dig} {i n : Nat} {p : List Dig} (h : 2 ≤ n) (hi : i < bel n) : ledR x i n (p ++ [y]) = nodeD (ledR x i (bel n) p) y := by rw [ledR_split h, if_pos hi]; simp
theorem ledR_right {x y : Dig} {i n : Nat} {p : List Dig} (h : 2 ≤ n) (hi : ¬ i < bel n) : ledR x i n (p ++ [y]) = nodeD y (ledR x (i - bel n) (n - bel n) p) := by rw [ledR_split h, if_neg hi]; simp
/-- One pair hashed. -/
def stepD (i : Nat) (x y : Dig) : Dig := if i % 2 = 1 then nodeD y x else nodeD x y
theorem ends_ex {α : Type} {p : List α} {k : Nat} (h : p.length = k + 1) : ∃ q y, p = q ++ [y] ∧ q.length = k := by
  have hne : p ≠ [] := fun e => by rw [e] at h; simp at h
  exact ⟨p.dropLast, p.getLast hne, (List.dropLast_concat_getLast hne).symm, by rw [List.length_dropLast]; omega⟩
theorem ledR_up : ∀ (m n i : Nat) (x : Dig) (p : List Dig), n ≤ m → 2 ≤ n → i < n → p.length = stepsR i n →
    (isT i n = true → ∀ y q, p = y :: q → ledR x i n p = ledR (stepD i x y) (i / 2) ((n + 1) / 2) q) ∧ (isT i n = false → ledR x i n p = ledR x (i / 2) ((n + 1) / 2) p)
  | 0, n, i, x, p, h, h2, _, _ => by omega
  | m + 1, n, i, x, p, h, h2, hi, hp => by
    rcases Nat.lt_or_ge n 3 with h3 | h3
    · obtain rfl : n = 2 := by omega
      rcases (by omega : i = 0 ∨ i = 1) with e | e
      · subst e
        refine ⟨fun _ y q hq => ?_, fun h => absurd h (by decide)⟩
        subst hq
        have hs2 : stepsR 0 2 = 1 := by decide
        have hq0 : q = [] := List.eq_nil_of_length_eq_zero (by simp only [List.length_cons] at hp; omega)
        subst hq0
        rw [ledR_split (by decide), bel_two, if_pos (by decide), ledR_small (by decide), ledR_small (by decide)]
        rfl
      · subst e
        refine ⟨fun _ y q hq => ?_, fun h => absurd h (by decide)⟩
        subst hq
        have hs2 : stepsR 1 2 = 1 := by decide
        have hq0 : q = [] := List.eq_nil_of_length_eq_zero (by simp only [List.length_cons] at hp; omega)
        subst hq0
        rw [ledR_split (by decide), bel_two, if_neg (by decide), ledR_small (by decide), ledR_small (by decide)]
        rfl
    · have hb := bel_spec h2
      have hh := bel_half h3
      have he := bel_even h3
      have hg := bel_ge2 h3
      have e : bel ((n + 1) / 2) = bel n / 2 := by omega
      have h22 : 2 ≤ (n + 1) / 2 := by omega
      by_cases hl : i < bel n
      · rw [stepsR_left h2 hl] at hp
        obtain ⟨q, z, rfl, hq⟩ := ends_ex hp
        have e2 : (bel n + 1) / 2 = bel ((n + 1) / 2) := by omega
        have e3 : isT i (bel n) = isT i n := by unfold isT; congr 1; apply propext; omega
        have hT : isT i n = true := by unfold isT; exact decide_eq_true (by omega)
        obtain ⟨ih1, _⟩ := ledR_up m (bel n) i x q (by omega) (by omega) hl hq
        refine ⟨fun h y r hr => ?_, fun h => absurd h (by rw [hT]; decide)⟩
        have hs := steps_up (show 2 ≤ bel n by omega) hl
        rw [e3, hT, if_pos rfl] at hs
        cases q with
        | nil => simp at hq; omega
        | cons y' q =>
          simp only [List.cons_append, List.cons.injEq] at hr
          obtain ⟨rfl, rfl⟩ := hr
          rw [ledR_left h2 hl, ih1 (by rw [e3]; exact h) y' q rfl, e2, ledR_left h22 (by omega)]
      · rw [stepsR_right h2 hl] at hp
        obtain ⟨q, z, rfl, hq⟩ := ends_ex hp
        have hi2 : i / 2 - bel ((n + 1) / 2) = (i - bel n) / 2 := by omega
        have hn2 : (n + 1) / 2 - bel ((n + 1) / 2) = (n - bel n + 1) / 2 := by omega
        rcases Nat.lt_or_ge (n - bel n) 2 with h1 | h1
        · have hF : isT i n = false := by unfold isT; exact decide_eq_false (by omega)
          refine ⟨fun h => absurd h (by rw [hF]; decide), fun _ => ?_⟩
          rw [ledR_right h2 hl, ledR_right h22 (by omega), hi2, hn2, ledR_small (show n - bel n ≤ 1 by omega), ledR_small (show (n - bel n + 1) / 2 ≤ 1 by omega)]
        · have e3 : isT (i - bel n) (n - bel n) = isT i n := by unfold isT; congr 1; apply propext; omega
          obtain ⟨ih1, ih2⟩ := ledR_up m (n - bel n) (i - bel n) x q (by omega) h1 (by omega) hq
          refine ⟨fun h y r hr => ?_, fun h => ?_⟩
          · have hs := steps_up h1 (show i - bel n < n - bel n by omega)
            rw [e3, h, if_pos rfl] at hs
            cases q with
            | nil => simp at hq; omega
            | cons y' q =>
              simp only [List.cons_append, List.cons.injEq] at hr
              obtain ⟨rfl, rfl⟩ := hr
              have es : stepD (i - bel n) x y' = stepD i x y' := by unfold stepD; rw [show (i - bel n) % 2 = i % 2 by omega]
              rw [ledR_right h2 hl, ih1 (by rw [e3]; exact h) y' q rfl, ledR_right h22 (by omega), hi2, hn2, es]
          · rw [ledR_right h2 hl, ih2 (by rw [e3]; exact h), ledR_right h22 (by omega), hi2, hn2]
theorem led_yes {n i : Nat} {x y : Dig} {q : List Dig} (h2 : 2 ≤ n) (hi : i < n) (hp : (y :: q).length = stepsR i n) (hT : isT i n = true) : ledR x i n (y :: q) = ledR (stepD i x y) (i / 2) ((n + 1) / 2) q :=
  (ledR_up n n i x (y :: q) (Nat.le_refl _) h2 hi hp).1 hT y q rfl
theorem led_no {n i : Nat} {x : Dig} {p : List Dig} (h2 : 2 ≤ n) (hi : i < n) (hp : p.length = stepsR i n) (hT : isT i n = false) : ledR x i n p = ledR x (i / 2) ((n + 1) / 2) p :=
  (ledR_up n n i x p (Nat.le_refl _) h2 hi hp).2 hT
/-! ### Halving, so many times -/
def it {α : Type} (f : α → α) : Nat → α → α
  | 0, x => x
  | k + 1, x => f (it f k x)
theorem it_shift {α : Type} (f : α → α) : ∀ (k : Nat) (x : α), it f (k + 1) x = it f k (f x)
  | 0, _ => rfl
  | k + 1, x => by
    show f (it f (k + 1) x) = f (it f k (f x))
    rw [it_shift f k x]
def hn (n k : Nat) : Nat := it (fun n => (n + 1) / 2) k n
def lgF : Nat → Nat → Nat
  | 0, _ => 0
  | f + 1, n => if n ≤ 1 then 0 else lgF f ((n + 1) / 2) + 1
def lg (n : Nat) : Nat := lgF n n
theorem hn_succ (n k : Nat) : hn n (k + 1) = (hn n k + 1) / 2 := rfl
theorem hn_shift (n k : Nat) : hn n (k + 1) = hn ((n + 1) / 2) k := it_shift _ k n
theorem lgF_spec : ∀ (f n : Nat), n ≤ f → (∀ k, k < lgF f n → 1 < hn n k) ∧ hn n (lgF f n) ≤ 1
  | 0, n, h => ⟨fun k hk => absurd hk (Nat.not_lt_zero _), by show n ≤ 1; omega⟩
  | f + 1, n, h => by
    by_cases h1 : n ≤ 1
    · rw [lgF, if_pos h1]
      exact ⟨fun k hk => absurd hk (Nat.not_lt_zero _), h1⟩
    · obtain ⟨i1, i2⟩ := lgF_spec f ((n + 1) / 2) (by omega)
      rw [lgF, if_neg h1]
      refine ⟨fun k hk => ?_, by rw [hn_shift]; exact i2⟩
      cases k with
      | zero => show 1 < n; omega
      | succ k => rw [hn_shift]; exact i1 k (by omega)
theorem lg_lt {n k : Nat} (h : k < lg n) : 1 < hn n k := (lgF_spec n n (Nat.le_refl _)).1 k h
theorem lg_end (n : Nat) : hn n (lg n) ≤ 1 := (lgF_spec n n (Nat.le_refl _)).2
theorem hn_pos {n : Nat} (h : 1 ≤ n) : ∀ k, 1 ≤ hn n k
  | 0 => h
  | k + 1 => by rw [hn_succ]; have := hn_pos h k; omega
theorem hn_le (n : Nat) (h : 1 ≤ n) : ∀ k, hn n k ≤ n
  | 0 => Nat.le_refl _
  | k + 1 => by rw [hn_succ]; have := hn_le n h k; have := hn_pos h k; omega
theorem lg_of {n k : Nat} (h : 1 < hn n k) (hk : k ≤ lg n) : k < lg n := by
  rcases Nat.lt_or_ge k (lg n) with h1 | h1
  · exact h1
  · obtain rfl : k = lg n := by omega
    have := lg_end n
    omega
theorem lg_eq {n k : Nat} (h : ¬ 1 < hn n k) (hk : k ≤ lg n) : k = lg n := by
  rcases Nat.lt_or_ge k (lg n) with h1 | h1
  · exact absurd (lg_lt h1) h
  · omega
def lv (l : List Dig) (k : Nat) : List Dig := it up k l
theorem lv_succ (l : List Dig) (k : Nat) : lv l (k + 1) = up (lv l k) := rfl
theorem lv_length (l : List Dig) : ∀ k, (lv l k).length = hn l.length k
  | 0 => rfl
  | k + 1 => by rw [lv_succ, up_length, lv_length l k]; rfl
theorem lv_root (l : List Dig) : ∀ k, rootR (lv l k) = rootR l
  | 0 => rfl
  | k + 1 => by rw [lv_succ, root_up, lv_root l k]
theorem lv_le (l : List Dig) : ∀ k, (lv l k).length ≤ l.length
  | 0 => Nat.le_refl _
  | k + 1 => by
    have := lv_le l k
    rw [lv_succ, up_length]
    omega
theorem hi_lt {i n : Nat} (h : i < n) : ∀ k, i / 2 ^ k < hn n k
  | 0 => by rw [Nat.pow_zero, Nat.div_one]; exact h
  | k + 1 => by
    have := hi_lt h k
    rw [Nat.pow_succ, ← Nat.div_div_eq_div_mul, hn_succ]
    omega
theorem div_pow_succ (i k : Nat) : i / 2 ^ (k + 1) = i / 2 ^ k / 2 := by rw [Nat.pow_succ, Nat.div_div_eq_div_mul]
def dv (i k : Nat) : Nat := it (fun i => i / 2) k i
theorem dv_succ (i k : Nat) : dv i (k + 1) = dv i k / 2 := rfl
theorem dv_lt {i n : Nat} (h : i < n) : ∀ k, dv i k < hn n k
  | 0 => h
  | k + 1 => by
    have := dv_lt h k
    rw [dv_succ, hn_succ]
    omega
end Go.Proofs.YtopaednfjjjnbaaDoor
namespace Go.Proofs.YtopaednfjjjnbaaDoor
open Go Go.RowKit

theorem add_add' (a : Addr) (k j : Nat) : (a.add k).add j = a.add (k + j) := by
  unfold Addr.add
  by_cases h0 : k = 0
  · subst h0; simp
  · by_cases h1 : j = 0
    · subst h1; simp
    · have h2 : ¬ k + j = 0 := by omega
      simp [h0, h1, Nat.add_assoc]
def fl (ds : List Dig) : List Value := ds.flatMap fun d => d.1.map u8
theorem fl_cons (d : Dig) (ds : List Dig) : fl (d :: ds) = d.1.map u8 ++ fl ds := rfl
theorem fl_append (a b : List Dig) : fl (a ++ b) = fl a ++ fl b := by simp [fl]
theorem fl_length (ds : List Dig) : (fl ds).length = ds.length * 32 := by
  induction ds with
  | nil => rfl
  | cons d ds ih => rw [fl_cons, List.length_append, ih, List.length_map, d.2, List.length_cons]; omega
theorem fl_one (ds : List Dig) : ∀ u ∈ fl ds, u.oneCell' = true := by
  intro u hu
  obtain ⟨d, _, hd⟩ := List.mem_flatMap.1 hu
  exact u8s_one d.1 u hd
theorem fl_drop : ∀ (ds : List Dig) (k : Nat), (fl ds).drop (k * 32) = fl (ds.drop k)
  | ds, 0 => by simp
  | [], k + 1 => by simp [fl]
  | d :: ds, k + 1 => by
    rw [fl_cons, List.drop_append, List.length_map, d.2, List.drop_of_length_le (by rw [List.length_map, d.2]; omega), List.nil_append, show (k + 1) * 32 - 32 = k * 32 by omega, fl_drop ds k]
    rfl
theorem fl_take : ∀ (ds : List Dig) (k : Nat), (fl ds).take (k * 32) = fl (ds.take k)
  | ds, 0 => by simp [fl]
  | [], k + 1 => by simp [fl]
  | d :: ds, k + 1 => by
    rw [fl_cons, List.take_append, List.length_map, d.2, List.take_of_length_le (by rw [List.length_map, d.2]; omega), show (k + 1) * 32 - 32 = k * 32 by omega, fl_take ds k]
    rfl
theorem fl_get {ds : List Dig} {k : Nat} {d : Dig} (h : ds[k]? = some d) : ((fl ds).drop (k * 32)).take 32 = d.1.map u8 := by
  rw [fl_drop]
  obtain ⟨hk, rfl⟩ := List.getElem?_eq_some_iff.1 h
  rw [List.drop_eq_getElem_cons hk, fl_cons, List.take_left' (by rw [List.length_map, ds[k].2])]
theorem dig_size (d : Dig) : (arr8 d.1).size = 32 := by rw [arr8_size, d.2]
theorem Mem.atD {w : World} {a : Addr} {ds : List Dig} (h : Mem w a (fl ds)) {k : Nat} {d : Dig} (hk : ds[k]? = some d) : Mem w (a.add (k * 32)) (d.1.map u8) := by
  have := h.cut (k * 32) 32
  rwa [fl_get hk] at this

/-- A slice of digests. -/
abbrev Dl (w : World) (oa : Option Addr) (cap : Nat) (ds : List Dig) : Prop := Cs w oa ds.length cap (fl ds)
theorem sub3_cut {w : World} {oa : Option Addr} {cap : Nat} {ds : List Dig} (h : Dl w oa cap ds) {l k m : Nat} (hlk : l ≤ k) (hk : k ≤ ds.length) (hkm : k ≤ m) (hm : m ≤ cap) :
    ∃ ob, sub3 oa l k m 32 = .slice ob ((ds.drop l).take (k - l)).length (m - l) ∧ ∀ w', Dl w' oa cap ds → Dl w' ob (m - l) ((ds.drop l).take (k - l)) := by
  have hl : ((ds.drop l).take (k - l)).length = k - l := by rw [List.length_take, List.length_drop]; omega
  have htop := h.top
  refine ⟨if m = l then oa else oa.map (·.add (l * 32)), by rw [hl]; rfl, fun w' h' => ⟨by rw [hl]; omega, by omega, fun h0 => ?_, fun b hb => ?_⟩⟩
  · split at h0
    · have := h.empty h0
      omega
    · have : oa = none := by cases oa <;> simp_all
      have := h.empty this
      omega
  · split at hb
    · have : (ds.drop l).take (k - l) = [] := List.eq_nil_of_length_eq_zero (by omega)
      rw [this]
      intro j v hj
      simp [fl] at hj
    · cases oa with
      | none => simp at hb
      | some a =>
        obtain rfl := Option.some.inj hb
        have := (h'.mem a rfl).cut (l * 32) ((k - l) * 32)
        rwa [fl_drop, fl_take] at this

/-- Where a slice of digests lies: as found, or in a row of the call's own. -/
def Lv (w0 : World) (e : TypeId) (oa : Option Addr) (cap : Nat) (ds : List Dig) (O : Blocks) : Prop :=
  Dl w0 oa cap ds ∨ ∃ r : Row, oa = some ⟨r.g, 0, none⟩ ∧ cap = r.cap ∧ (r.g, Obj.cells r.cs e (0, 0)) ∈ O ∧ Row.ok 32 ds.length (fl ds) (some r)
theorem Lv.cs {w0 w : World} {e : TypeId} {oa : Option Addr} {cap : Nat} {ds : List Dig} {O H : Blocks} (h : Lv w0 e oa cap ds O) (hw : Hp w0 H w) (hm : ∀ p ∈ O, p ∈ H) : Dl w oa cap ds := by
  rcases h with h | ⟨r, rfl, rfl, hr, hok⟩
  · exact h.old hw
  · obtain ⟨oa, cap, e1, _, hC⟩ := Row.vw (e := e) hok
    rw [Row.v] at e1
    obtain ⟨rfl, _, rfl⟩ := Value.slice.inj e1
    exact hC w hw (fun p hp => by
      have : p = (r.g, Obj.cells r.cs e (0, 0)) := by simpa [Row.b] using hp
      rw [this]; exact hm _ hr)
theorem Lv.mono {w0 : World} {e : TypeId} {oa : Option Addr} {cap : Nat} {ds : List Dig} {O O' : Blocks} (h : Lv w0 e oa cap ds O) (hm : ∀ p ∈ O, p ∈ O') : Lv w0 e oa cap ds O' := by
  rcases h with h | ⟨r, h1, h2, h3, h4⟩
  · exact .inl h
  · exact .inr ⟨r, h1, h2, hm _ h3, h4⟩
theorem Lv.row {w0 : World} {e : TypeId} {ds : List Dig} {r : Row} (h : Row.ok 32 ds.length (fl ds) (some r)) : Lv w0 e (some ⟨r.g, 0, none⟩) r.cap ds (Row.b e (some r)) := .inr ⟨r, rfl, rfl, by simp [Row.b], h⟩
theorem Lv.rd {c : Cx} {H : Blocks} {e : TypeId} {a : Addr} {cap : Nat} {ds : List Dig} {O : Blocks} (h : Lv c.w0 e (some a) cap ds O) (hm : ∀ p ∈ O, p ∈ H) {k : Nat} {d : Dig} (hk : ds[k]? = some d) : Rds c H (a.add (k * 32)) (d.1.map u8) :=
  fun _ hw => ((h.cs hw hm).mem a rfl).atD hk
theorem Lv.get_some {w0 : World} {e : TypeId} {oa : Option Addr} {cap : Nat} {ds : List Dig} {O : Blocks} (h : Lv w0 e oa cap ds O) (hl : 0 < ds.length) : ∃ a, oa = some a := by
  rcases h with h | ⟨r, rfl, _⟩
  · exact Cs.get_some h hl
  · exact ⟨_, rfl⟩
theorem Lv.le {w0 : World} {e : TypeId} {oa : Option Addr} {cap : Nat} {ds : List Dig} {O : Blocks} (h : Lv w0 e oa cap ds O) : ds.length ≤ cap := by
  rcases h with h | ⟨r, _, rfl, _, h⟩
  · exact h.le
  · exact h.2.1

/-! ### Parts of several cells -/
def setR (cs : Array Value) (off : Nat) : List Value → Array Value
  | [] => cs
  | v :: vs => setR (cs.setIfInBounds off v) (off + 1) vs
theorem setR_fold (vs : List Value) : ∀ (cs : Array Value) (off n : Nat), (vs.zipIdx n).foldl (fun cs (c, j) => cs.setIfInBounds (off + j) c) cs = setR cs (off + n) vs := by
  induction vs with
  | nil => intro cs off n; rfl
  | cons v vs ih =>
    intro cs off n
    rw [List.zipIdx_cons, List.foldl_cons, ih]
    rfl
theorem setR_toList (vs : List Value) : ∀ (cs : Array Value) (off : Nat), off + vs.length ≤ cs.size → (setR cs off vs).toList = cs.toList.take off ++ vs ++ cs.toList.drop (off + vs.length) := by
  induction vs with
  | nil => intro cs off _; simp [setR]
  | cons v vs ih =>
    intro cs off h
    simp only [List.length_cons] at h
    rw [setR, ih _ _ (by rw [Array.size_setIfInBounds]; omega), Array.toList_setIfInBounds]
    have hl : off < cs.toList.length := by rw [Array.length_toList]; omega
    rw [List.take_add_one, List.take_set_of_le (Nat.le_refl _), List.getElem?_set_self hl, List.drop_set_of_lt (by omega)]
    simp only [Option.toList_some, List.append_assoc, List.cons_append, List.nil_append, List.length_cons]
    rw [show off + 1 + vs.length = off + (vs.length + 1) by omega]
theorem fill_seq {s : Nat} (hs : 0 < s) : ∀ (vs : List Value) (o : Nat) (cs : Array Value), (∀ v ∈ vs, v.cells.size = s) → (o + vs.length) * s ≤ cs.size →
    ∃ cs', Instr.fill (fun i => some (i * s, s)) cs ((List.range' o vs.length).zip vs) = some cs' ∧ cs'.toList = cs.toList.take (o * s) ++ vs.flatMap (·.cells.toList) ++ cs.toList.drop ((o + vs.length) * s)
  | [], o, cs, _, _ => ⟨cs, rfl, by simp⟩
  | v :: vs, o, cs, hv, hl => by
    have h1 := hv v (List.mem_cons_self ..)
    have h2 : v.cells.toList.length = s := by rw [Array.length_toList, h1]
    rw [List.length_cons] at hl
    have e1 : (o + (vs.length + 1)) * s = (o + 1 + vs.length) * s := by congr 1; omega
    have e2 : (o + 1) * s = o * s + s := by rw [Nat.add_mul]; omega
    have e3 : (o + 1) * s ≤ (o + 1 + vs.length) * s := Nat.mul_le_mul_right _ (by omega)
    have hfold : v.cells.zipIdx.foldl (fun cs (c, j) => cs.setIfInBounds (o * s + j) c) cs = setR cs (o * s) v.cells.toList := by
      have := setR_fold v.cells.toList cs (o * s) 0
      rw [Nat.add_zero] at this
      rw [← this, ← Array.foldl_toList, Array.toList_zipIdx]
    have hset := setR_toList v.cells.toList cs (o * s) (by rw [h2]; omega)
    have hsz : (setR cs (o * s) v.cells.toList).size = cs.size := by
      rw [← Array.length_toList, hset]
      simp only [List.length_append, List.length_take, List.length_drop, Array.length_toList, h1]
      omega
    obtain ⟨cs', h3, h4⟩ := fill_seq hs vs (o + 1) (setR cs (o * s) v.cells.toList) (fun u hu => hv u (List.mem_cons_of_mem _ hu)) (by rw [hsz]; omega)
    refine ⟨cs', ?_, ?_⟩
    · rw [List.length_cons, List.range'_succ, List.zip_cons_cons, Instr.fill]
      simp only [h1]
      rw [if_neg (by simp; omega), hfold]
      exact h3
    · have e4 : o * s ≤ cs.size := by omega
      have hlen : (cs.toList.take (o * s) ++ v.cells.toList).length = (o + 1) * s := by
        rw [List.length_append, List.length_take, Array.length_toList, h2, e2, Nat.min_eq_left e4]
      rw [h4, hset, h2, List.take_left' hlen, List.drop_append, List.drop_of_length_le (by rw [hlen]; exact e3), hlen, List.drop_drop, List.nil_append, List.flatMap_cons, List.length_cons, e1]
      have e5 : o * s + s + ((o + 1 + vs.length) * s - (o + 1) * s) = (o + 1 + vs.length) * s := by omega
      rw [e5]
      simp only [List.append_assoc]
theorem fill_all {s n : Nat} (hs : 0 < s) {vs : List Value} {cs : Array Value} (hv : ∀ v ∈ vs, v.cells.size = s) (hn : vs.length = n) (hl : n * s = cs.size) :
    Instr.fill (fun i => some (i * s, s)) cs ((List.range n).zip vs) = some (vs.flatMap (·.cells.toList)).toArray := by
  subst hn
  obtain ⟨cs', h1, h2⟩ := fill_seq hs vs 0 cs hv (by rw [Nat.zero_add]; omega)
  rw [← List.range_eq_range'] at h1
  rw [h1]
  congr 1
  apply Array.toList_inj.1
  rw [h2]
  simp [hl]

section
variable {c : Cx} {σ : Slots} {H : Blocks} {Q : Post1} {ty : TypeId} {pos : String} {af : Array Edge} {gd : Option (Nat × Bool)} {dst : Option Nat}
theorem En.bsA {T e : TypeId} {n s : Nat} {parts : List (Nat × Operand)} {vs : List Value} {z : Value} (hx : evs σ (parts.map (·.2)) = some vs) (hp : parts.map (·.1) = List.range n) (hT : c.P.underlying T = some (.slice e)) (hs : ∀ w, (sizeOf e).run c.P w = .ok s w)
    (hz : ∀ w, (zeroValue e).run c.P w = .ok z w) (hv : ∀ v ∈ vs, v.cells.size = s) (hs0 : 0 < s) (hn : n * s ≤ 16777216) (hn0 : 0 < n) :
    En c σ H ⟨dst, .buildSlice T n parts.toArray, ty, pos, af, gd⟩ (fun b => .slice (some ⟨b, 0, none⟩) n n) (.cells (vs.flatMap (·.cells.toList)).toArray e (0, 0)) := by
  refine En.buildSlice (vs := (List.range n).zip vs) ?_ ?_
  · intro a hf
    rw [parts_zip, hf.evs hx, hp]
  · intro w
    have hl : vs.length = n := by
      have h1 := congrArg List.length hp
      rw [List.length_map, List.length_range] at h1
      have h2 : ∀ (xs : List Operand) (us : List Value), evs σ xs = some us → us.length = xs.length := by
        intro xs
        induction xs with
        | nil => intro us h; simp only [evs, Option.some.injEq] at h; subst h; rfl
        | cons x xs ih =>
          intro us h
          simp only [evs] at h
          split at h
          · rename_i v ws h3 h4
            simp only [Option.some.injEq] at h
            subst h
            simp [ih ws h4]
          · cases h
      rw [h2 _ _ hx, List.length_map, h1]
    have hns : 0 < n * s := Nat.mul_pos hn0 hs0
    have hf := fill_all hs0 (cs := (Array.range (n * s)).map (z.cells[· % z.cells.size]!)) hv hl (by simp)
    have hgt : ¬ 2 ^ 24 < n * s := by omega
    have hne : ¬ n * s = 0 := by omega
    simp only [Instr.buildSlice, Sem.run_bind, run_underlying hT, Result.andThen_ok, hs w]
    rw [if_neg hgt, if_neg hne]
    all_goals simp [newRow, hz w, hf]
/-- A variable of one cell written over. -/
theorem Es.store0 {T t : TypeId} {x y : Operand} {v v0 : Value} {b : Nat} {H' : Blocks} (hx : ev σ x = some (.pointer (some ⟨b, 0, none⟩))) (hy : ev σ y = some v) (hs : ∀ w, (sizeOf T).run c.P w = .ok 1 w)
    (hv : v.cells = #[v]) (h1 : v.oneCell' = true) (hu : Upd b (.cells #[v0] t (0, 0)) (.cells #[v] t (0, 0)) H H') : Es c σ H ⟨dst, .store T x y, ty, pos, af, gd⟩ H' :=
  Es.store1 hx hy hs hv h1 (cs := #[v0]) hu (Nat.zero_lt_one)
/-- A slice written out of digests. -/
theorem En.bsD {T e : TypeId} {n : Nat} {parts : List (Nat × Operand)} {ds : List Dig} {z : Value} (hx : evs σ (parts.map (·.2)) = some (ds.map fun d => .agg (arr8 d.1))) (hp : parts.map (·.1) = List.range n) (hT : c.P.underlying T = some (.slice e)) (hs : ∀ w, (sizeOf e).run c.P w = .ok 32 w)
    (hz : ∀ w, (zeroValue e).run c.P w = .ok z w) (hn : n * 32 ≤ 16777216) (hn0 : 0 < n) :
    En c σ H ⟨dst, .buildSlice T n parts.toArray, ty, pos, af, gd⟩ (fun b => .slice (some ⟨b, 0, none⟩) n n) (.cells (fl ds).toArray e (0, 0)) := by
  have h := En.bsA (c := c) (H := H) (dst := dst) (ty := ty) (pos := pos) (af := af) (gd := gd) hx hp hT hs hz (fun v hv => by
    obtain ⟨d, _, rfl⟩ := List.mem_map.1 hv
    exact dig_size d) (by decide) hn hn0
  have e1 : (ds.map fun d => Value.agg (arr8 d.1)).flatMap (·.cells.toList) = fl ds := by
    rw [List.flatMap_map]
    rfl
  rw [e1] at h
  exact h
theorem En.bs1D {T e : TypeId} {x : Operand} {d : Dig} {z : Value} (hx : ev σ x = some (.agg (arr8 d.1))) (hT : c.P.underlying T = some (.slice e)) (hs : ∀ w, (sizeOf e).run c.P w = .ok 32 w)
    (hz : ∀ w, (zeroValue e).run c.P w = .ok z w) :
    En c σ H ⟨dst, .buildSlice T 1 #[(0, x)], ty, pos, af, gd⟩ (fun b => .slice (some ⟨b, 0, none⟩) 1 1) (.cells (fl [d]).toArray e (0, 0)) :=
  En.bsD (parts := [(0, x)]) (ds := [d]) (by simp [evs, hx]) rfl hT hs hz (by decide) (by decide)
theorem Ev.loadD {T : TypeId} {x : Operand} {a : Addr} {D : Dig} {d : TypeDesc} (hx : ev σ x = some (.pointer (some a))) (hu : c.P.underlying T = some d)
    (hd : aggB d = true) (hs : ∀ w, (sizeOf T).run c.P w = .ok 32 w) (hr : Rds c H a (D.1.map u8)) : Ev c σ H ⟨dst, .load T x, ty, pos, af, gd⟩ (.agg (arr8 D.1)) :=
  Ev.loadA hx hu hd hs hr (by rw [List.length_map, D.2])
theorem Ev.fld {T : TypeId} {x : Operand} {b o i : Nat} (off : Nat) (hx : ev σ x = some (.pointer (some ⟨b, o, none⟩))) (h : ∀ a w, (Instr.fieldAt T (.pointer (some a)) i).run c.P w = .ok (.pointer (some (a.add off))) w) :
    Ev c σ H ⟨dst, .fieldAddr T x i, ty, pos, af, gd⟩ (.pointer (some ⟨b, o + off, none⟩)) := fun A w hf _ => by
  have e : execOp A.eval ⟨dst, .fieldAddr T x i, ty, pos, af, gd⟩ = (do pure (Next.value (← Instr.fieldAt T (A.eval x) i))) := rfl
  rw [e, hf.ev hx]
  simp only [Sem.run_bind, h, Result.andThen_ok, Sem.run_pure, add_lit]
theorem xor1_i64 {P : Program} {T : TypeId} {i : Nat} (h : i < 4611686018427387904) : Bin P .xor T (.int .i64 (i : Int)) (.int .i64 1) (.int .i64 (oth i : Int)) := Bin.int fun w => by
  have e1 : BitVec.ofInt 64 (i : Int) = BitVec.ofNat 64 i := BitVec.ofInt_natCast ..
  have e3 : (BitVec.ofInt 64 (i : Int) ^^^ BitVec.ofInt 64 1).toNat = oth i := by
    have e2 : BitVec.ofInt 64 1 = BitVec.ofNat 64 1 := rfl
    rw [e1, e2, BitVec.toNat_xor, BitVec.toNat_ofNat, BitVec.toNat_ofNat, Nat.mod_eq_of_lt (by omega), Nat.mod_eq_of_lt (by omega)]
    have h1 := Nat.xor_div_two (a := i) (b := 1)
    have h2 : (i ^^^ 1) % 2 = 1 ↔ ¬ i % 2 = 1 := by
      rw [Nat.mod_two_eq_one_iff_testBit_zero, Nat.testBit_xor, Nat.mod_two_eq_one_iff_testBit_zero]
      cases i.testBit 0 <;> decide
    unfold oth
    rw [show (1 : Nat) / 2 = 0 from rfl, Nat.xor_zero] at h1
    split <;> omega
  have e4 : IntKind.i64.wrap (((BitVec.ofInt 64 (i : Int) ^^^ BitVec.ofInt 64 1).toNat : Nat) : Int) = oth i := by
    rw [e3]
    exact IntWalk.i64_in _ (by unfold oth; split <;> omega)
  simp only [binOp, Op.intBits]
  exact congrArg (fun n => Result.ok (Value.int IntKind.i64 n) w) e4
end
/-! ### Taking an operation first, inside a round too (after Derived/OrdersIn.lean; no operation defers) -/
section
variable {P : Program} {ops : Array Oper} {md : Region.Mode} {Q : Post1} {F : Fence} {n : Nat}
theorem yieldsR {i : Nat} {o : Oper} {v : Value} {a : Act} (hnd : notDefer o = true) (hi : ops[i]? = some o) (hy : YieldsFenced P ops o v a)
    {K : Act → World → Prop} {w : World} (h : K (a.put o.dst v) w) : wpOpIn F n P ops Q i K a w := by
  unfold Go.wpOpIn
  simp only [hi]
  have hab : ∀ f, o.about P w a.eval = some f → F.fn f := fun f hf => by rw [hy.2 w] at hf; cases hf
  rcases hy.1 with ⟨hw, hv⟩ | ⟨hw, rfl⟩
  · simp only [hw, if_true, Oper.wpIn]
    refine ⟨hab, ?_⟩
    rw [Oper.semAt_eq _ _ _ (notDefer_ne hnd), hv w]
    exact h
  · simp only [hw, Bool.false_eq_true, if_false]; exact ⟨hab, h⟩
theorem wpOpIn_putR {j : Nat} {oi oj : Oper} {v : Value} (hnd : notDefer oj = true) (hj : ops[j]? = some oj) (hap : oi.apart ops oj = true)
    (hsi : ∀ cs b, oi.op ≠ .select cs b) (hsj : ∀ cs b, oj.op ≠ .select cs b)
    (hQ : ∀ c a w, Q (.panic c) (a.put oi.dst v) w → Q (.panic c) a w) {K : Act → World → Prop} {a : Act} {w : World}
    (hy : YieldsFenced P ops oi v a) (h : wpOpIn F n P ops Q j K (a.put oi.dst v) w) :
    wpOpIn F n P ops Q j (fun a' w' => YieldsFenced P ops oi v a' ∧ K (a'.put oi.dst v) w') a w := by
  obtain ⟨h1, h2, h3⟩ := Oper.apart_spec hap
  have keep : ∀ (a : Act), YieldsFenced P ops oi v a → ∀ u, YieldsFenced P ops oi v (a.put oj.dst u) := fun a hy u =>
    hy.of_same (execOp_put oi hsi a oj.dst u h3) (wanted_put oi a oj.dst u h3) (fun w => about_put oi w a oj.dst u h3)
  have keepD : ∀ d, YieldsFenced P ops oi v { a with defers := d :: a.defers } := fun d => hy.of_same rfl rfl (fun _ => rfl)
  unfold wpOpIn at *
  simp only [hj] at *
  rw [wanted_put oj a oi.dst v h1, about_put oj w a oi.dst v h1] at h
  split
  · rename_i hw
    simp only [hw, if_true] at h
    unfold Oper.wpIn at *
    rw [about_put oj w a oi.dst v h1] at h
    refine ⟨h.1, ?_⟩
    have h := h.2
    rw [Oper.semAt_eq _ _ _ (notDefer_ne hnd), execOp_put oj hsj a oi.dst v h1] at h
    rw [Oper.semAt_eq _ _ _ (notDefer_ne hnd)]
    generalize (execOp a.eval oj).run P w = r at *
    cases r with
    | ok x w' =>
      cases x <;> simp only [Oper.uponIn] at h ⊢
      case value u => exact ⟨keep a hy u, by rw [← Act.put_comm a v u h2]; exact h⟩
      case skip => exact ⟨keep a hy _, by rw [← Act.put_comm a v undef h2]; exact h⟩
      case defer d =>
        refine ⟨keep _ (keepD d) _, ?_⟩
        rw [← Act.put_comm _ v undef h2, ← Act.put_defers]
        exact h
      case enter f args =>
        refine ⟨h.1, CallsIn.mono h.2 fun e w'' he => ?_⟩
        cases e with
        | returned u => exact ⟨keep a hy u, by rw [← Act.put_comm a v u h2]; exact he⟩
        | panicked c => exact hQ _ _ _ he
        | outgrown => exact he
      case row row args => exact ⟨h.1, RowsIn.mono h.2 fun u w'' he => ⟨keep a hy u, by rw [← Act.put_comm a v u h2]; exact he⟩⟩
      case round l f tmps assign body =>
        refine ⟨h.1, RoundIn.mono h.2 fun e w'' he => ?_⟩
        cases e with
        | returned u => exact ⟨keep a hy u, by rw [← Act.put_comm a v u h2]; exact he⟩
        | panicked c => exact hQ _ _ _ he
        | outgrown => exact he
    | halt x w' =>
      cases x <;> simp only [Oper.uponIn] at h ⊢
      case panic u => exact hQ _ _ _ h
  · rename_i hw
    simp only [hw] at h
    exact ⟨h.1, keep a hy _, by rw [← Act.put_comm a v undef h2]; exact h.2⟩
theorem wpAnyIn_firstR {i : Nat} {oi : Oper} {v : Value} (hnd : allKept ops = true) (hi : ops[i]? = some oi) (hsel : ∀ (j : Nat) (o : Oper) cs b, ops[j]? = some o → o.op ≠ .select cs b)
    (hQ : ∀ c a w, Q (.panic c) (a.put oi.dst v) w → Q (.panic c) a w) :
    ∀ (fuel : Nat) (listed : Array Bool) (a : Act) (w : World),
      (∀ j oj, ops[j]? = some oj → j ≠ i → listed.getD j true = false → (∀ e ∈ oj.after, Region.binds md e = true → e.on ≠ i) → oi.apart ops oj = true) →
      i ∈ Region.ready md ops listed → YieldsFenced P ops oi v a →
      wpAnyIn F n P md ops Q fuel (listed.setIfInBounds i true) (a.put oi.dst v) w → wpAnyIn F n P md ops Q (fuel + 1) listed a w := by
  intro fuel
  induction fuel with
  | zero =>
    intro listed a w _ hr hy H
    refine ⟨fun h => (by rw [h] at hr; cases hr), fun j hj => ?_⟩
    by_cases hji : j = i
    · subst hji; exact yieldsR (allKept_spec hnd hi) hi hy H
    · have := ready_mono hj hji
      rw [H.1] at this
      cases this
  | succ fuel ih =>
    intro listed a w hfree hr hy H
    refine ⟨fun h => (by rw [h] at hr; cases hr), fun j hj => ?_⟩
    by_cases hji : j = i
    · subst hji; exact yieldsR (allKept_spec hnd hi) hi hy H
    · have h1 := H.2 j (ready_mono hj hji)
      obtain ⟨hjun, oj, hoj, hall⟩ := mem_ready.1 hj
      have hnot : ∀ e ∈ oj.after, Region.binds md e = true → e.on ≠ i := fun e he hb heq => by
        have h1 := hall e he hb
        have h0 := (mem_ready.1 hr).1
        rw [heq] at h1
        rcases Nat.lt_or_ge i listed.size with h' | h'
        · simp [h'] at h0 h1; rw [h0] at h1; cases h1
        · simp [Array.getElem?_eq_none h'] at h1
      have h2 := wpOpIn_putR (allKept_spec hnd hoj) hoj (hfree j oj hoj hji hjun hnot) (fun cs b => hsel i oi cs b hi) (fun cs b => hsel j oj cs b hoj) hQ hy h1
      have hfree' : ∀ k ok, ops[k]? = some ok → k ≠ i → (listed.setIfInBounds j true).getD k true = false →
          (∀ e ∈ ok.after, Region.binds md e = true → e.on ≠ i) → oi.apart ops ok = true := fun k ok hk hki hun hno => by
        refine hfree k ok hk hki ?_ hno
        by_cases hjk : j = k
        · subst hjk; exact hjun
        · rw [getD_set_ne true hjk] at hun; exact hun
      refine wpOpIn_mono (fun a' w' h3 => ih (listed.setIfInBounds j true) a' w' hfree' (ready_mono hr (Ne.symm hji)) h3.1 ?_) h2
      rw [Array.setIfInBounds_comm _ _ hji]
      exact h3.2
end
theorem JA.takeR {c : Cx} {ops : Array Oper} {σ : Slots} {H : Blocks} {fuel : Nat} {listed : Array Bool} {Q : Post1} {o : Oper} (i : Nat) {d : Nat} {v : Value} (hnd : allKept ops = true) (hi : ops[i]? = some o) (hd : o.dst = some d) (hdn : Nat.blt d c.n = true) (hs : Region.noSelect ops = true) (hf : Region.free .any ops listed i = true) (hr : (Region.ready .any ops listed).contains i = true)
    (hQ : ∀ ch a w, Q (.panic ch) (a.put o.dst v) w → Q (.panic ch) a w) (hab : ∀ w (a : Act), o.about c.P w a.eval = none)
    (g : Gd ops σ o.guard true) (e : ∀ w0, Ev { c with w0 := w0 } σ [] o v) (h : JA c ops ((d, v) :: σ) H fuel (listed.setIfInBounds i true) Q) : JA c ops σ H (fuel + 1) listed Q := fun a w hf1 hw =>
  wpAnyIn_firstR (i := i) (v := v) hnd hi (Region.noSelect_spec hs) hQ fuel listed a w (Region.free_spec hi hf) (by simpa using hr) ⟨.inl ⟨g.wanted hf1, fun w' => e w' a w' hf1 (Hp.start w')⟩, fun w' => hab w' a⟩
    (h _ _ (by rw [hd]; exact hf1.put (Nat.le_of_ble_eq_true hdn) v) hw)

theorem JO.skip {c : Cx} {ops : Array Oper} {σ : Slots} {H : Blocks} {o : Oper} {K : Act → World → Prop} {Q : Post1} {d : Nat} (hd : o.dst = some d) (hdn : Nat.blt d c.n = true) (g : Gd ops σ o.guard false) (h : J c ((d, undef) :: σ) H K) : JO c ops σ H o K Q := fun a w hf hw => by
  rw [if_neg (by rw [g.wanted hf]; simp)]
  exact ⟨fun _ _ => trivial, h _ _ (by rw [hd]; exact hf.put (Nat.le_of_ble_eq_true hdn) _) hw⟩
theorem JA.know {c : Cx} {ops : Array Oper} {σ : Slots} {H : Blocks} {fuel : Nat} {listed : Array Bool} {Q : Post1} {d : Nat} {b b' : Bool} (h : look σ d = some (.bool b')) (hb : b' = b) (h1 : JA c ops ((d, .bool b) :: σ) H fuel listed Q) : JA c ops σ H fuel listed Q := by
  subst hb; exact fun a w hf hw => h1 a w (hf.over h) hw
theorem JA.split {c : Cx} {ops : Array Oper} {σ : Slots} {H : Blocks} {fuel : Nat} {listed : Array Bool} {Q : Post1} {d : Nat} {b : Bool} (h : look σ d = some (.bool b)) (h1 : b = true → JA c ops ((d, .bool true) :: σ) H fuel listed Q) (h2 : b = false → JA c ops ((d, .bool false) :: σ) H fuel listed Q) : JA c ops σ H fuel listed Q := by
  cases b
  · exact fun a w hf hw => h2 rfl a w (hf.over h) hw
  · exact fun a w hf hw => h1 rfl a w (hf.over h) hw
theorem JA.weak {c : Cx} {ops : Array Oper} {σ σ' : Slots} {H H' : Blocks} {fuel fuel' : Nat} {listed listed' : Array Bool} {Q : Post1} (hfu : fuel = fuel') (hli : listed = listed') (hs : ∀ p ∈ σ', look σ p.1 = some p.2) (hH : Sub H' H) (h : JA c ops σ' H' fuel' listed' Q) : JA c ops σ H fuel listed Q := by
  subst hfu; subst hli; exact fun a w hf hw => h a w (hf.weaken hs) (hw.sub hH)
theorem JA.mid {c : Cx} {ops : Array Oper} {σ : Slots} {H : Blocks} {fuel : Nat} {listed : Array Bool} {Q : Post1} {X : Type} (p : X → Prop) (σ' : X → Slots) (H' : X → Blocks) (fuel' : Nat) (listed' : Array Bool) (h1 : ∀ x, p x → JA c ops (σ' x) (H' x) fuel' listed' Q) (h2 : (∀ x, p x → JA c ops (σ' x) (H' x) fuel' listed' Q) → JA c ops σ H fuel listed Q) : JA c ops σ H fuel listed Q := h2 h1
/-- A closure that writes its caller's blocks. -/
theorem JL.callCloAt {c : Cx} {σ : Slots} {H : Blocks} {Q : Post1} {ty : TypeId} {pos : String} {af : Array Edge} {gd : Option (Nat × Bool)} {ops : Array Oper} {l : List Oper} {d g : Nat} {f : Operand} {pre post : List Value} {xs : List Operand} {ats : Array TypeId} {vs : List Value} {Y : Value → Blocks → Prop}
    (hdn : Nat.blt d c.n = true) (hg : Gd ops σ gd true) (hf : ev σ f = some (.func (.func g) pre.toArray post.toArray)) (hx : evs σ xs = some vs)
    (hent : ∀ args w, (callFunc g args).run c.P w = .ok (.enter g args) w)
    (hc : ∀ w, Hp c.w0 H w → Calls c.P g (pre ++ vs ++ post).toArray w (Ret c.w0 Y))
    (h : ∀ v H', Y v H' → JL c ops ((d, v) :: σ) H' l Q) :
    JL c ops σ H ({ dst := some d, op := .call { callee := .value f, args := xs.toArray, argTypes := ats }, type := ty, pos := pos, after := af, guard := gd } :: l) Q := fun a w hfr hw => by
  have e1 := hfr.ev hf
  have e2 := hfr.evs hx
  refine wpListIn_execC (hg.wanted hfr) rfl (f := g) (args := (pre ++ vs ++ post).toArray) (w' := w) ?_ (hc w hw) ?_
  · have key : execOp a.eval { dst := some d, op := .call { callee := .value f, args := xs.toArray, argTypes := ats }, type := ty, pos := pos, after := af, guard := gd } =
        (do let d ← resolve a.eval { callee := .value f, args := xs.toArray, argTypes := ats } ty; invoke d.target d.args) := rfl
    rw [key]
    simp only [resolve, e1, List.map_toArray, e2, Deferred.ofValue, Sem.run_bind, Sem.run_pure, Result.andThen_ok, invoke]
    have := hent (pre ++ vs ++ post).toArray w
    simpa using this
  · rintro e w'' ⟨v, H', rfl, h1, h2⟩
    exact ⟨v, rfl, h v H' h2 _ _ (hfr.put (Nat.le_of_ble_eq_true hdn) _) h1⟩

/-- 'rangeG', where the assignment lays blocks of its own (a loop variable that is a variable in memory): 'y' tells what it left. -/
theorem JC.rangeH {P : Program} {n : Nat} {w0 : World} {σ : Slots} {H : Blocks} {g : Operand} {ps : List Nat} {assign body : Code} {Q : Post1} {gf : FuncId} {lb : List Value} {X Y : Type}
    (N : Nat) (HI : X → Blocks → Blocks) (Inv : Nat → X → Prop) (Stp : Code → X → Prop) (V : Nat → List Value → Blocks → Prop) (O0 : Blocks) (x0 : X) (σ1 : Nat → X → List Value → Y → Slots) (HA : X → List Value → Y → Blocks → Blocks)
    (hHI : ∀ x E, HI x E = HI x [] ++ E) (hHA : ∀ x vs y E, HA x vs y E = HA x vs y [] ++ E) (hg : ev σ g = some (.func (.func gf) #[] lb.toArray)) (hent : ∀ args w, (callFunc gf args).run P w = .ok (.enter gf args) w)
    (h0 : Sub (O0 ++ HI x0 []) H) (hi0 : Inv 0 x0) (hpn : (ps.all fun p => Nat.blt p n) = true) (hV : ∀ k vs O, V k vs O → vs.length = ps.length)
    (hiter : IterOk P gf lb w0 O0 V N)
    (hassign : ∀ (l k : Nat) (x : X) (vs : List Value) (O E : Blocks), k < N → Inv k x → V k vs O → (∀ p ∈ O, p ∈ E) →
      JC ⟨P, some l, n, [], w0⟩ (zipS ps vs σ) (HI x E) assign (fun e a w => e = .normal ∧ ∃ y, Fr n [] (σ1 k x vs y) a ∧ Hp w0 (HA x vs y E) w))
    (hbody : ∀ (l k : Nat) (x : X) (vs : List Value) (y : Y) (O E : Blocks), k < N → Inv k x → V k vs O → (∀ p ∈ O, p ∈ E) →
      JC ⟨P, some l, n, [], w0⟩ (σ1 k x vs y) (HA x vs y E) body (fun e _ w => (e = .normal ∧ ∃ x', Inv (k + 1) x' ∧ Hp w0 (HI x' E) w) ∨ ∃ c x', stopCode e = some c ∧ Stp c x' ∧ Hp w0 (HI x' E) w))
    (hdone : ∀ (x : X) (D : Nat) (E : Blocks), Inv N x → JQ ⟨P, none, n, [{ target := .collected D, args := #[] }], w0⟩ σ (HI x ((D, .deferred (some [])) :: E)) Q .normal)
    (hstop : ∀ (c : Code) (x : X) (D : Nat) (E : Blocks), Stp c x → JC ⟨P, none, n, [{ target := .collected D, args := #[] }], w0⟩ σ (HI x ((D, .deferred (some [])) :: E)) c Q) :
    JC ⟨P, none, n, [], w0⟩ σ H (.rangeFunc g ps.toArray assign body) Q := fun a w hf hw => by
  show (Code.rangeFunc g ps.toArray assign body).wpIn (Fw none) 7 P Q a w
  refine wpIn_rangeFunc (F := Fw none) ?_
  intro fn _
  obtain ⟨rec, hrec⟩ : ∃ rec : LoopState → Option Code → Loop, rec = fun st pe => { state := st, pending := pe, fn, tmps := a.tmps, params := ps.toArray, assign, body, defers := w.heap.size } := ⟨_, rfl⟩
  have hW1 : Hp w0 ((w.heap.size + 1, Obj.loop (rec .ready none)) :: (w.heap.size, Obj.deferred (some [])) :: H) ((w.alloc (.deferred (some []))).alloc (.loop (rec .ready none))) := by
    have := (hw.alloc (Obj.deferred (some []))).alloc (Obj.loop (rec .ready none))
    rwa [World.size_alloc] at this
  obtain ⟨LB, hLB⟩ : ∃ LB : LoopState → Option Code → Blocks, LB = fun st pe => [(w.heap.size + 1, Obj.loop (rec st pe)), (w.heap.size, Obj.deferred (some []))] := ⟨_, rfl⟩
  have hW2 : Hp w0 (O0 ++ HI x0 (LB .ready none)) ((w.alloc (.deferred (some []))).alloc (.loop (rec .ready none))) := by
    rw [hHI, ← List.append_assoc, hLB]
    exact hW1.sub (Sub.two h0)
  have hgv := hf.ev hg
  have hupG : ∀ (A : Blocks) (B : Blocks) st pe st' pe', Upd (w.heap.size + 1) (Obj.loop (rec st pe)) (Obj.loop (rec st' pe')) (A ++ (B ++ LB st pe)) (A ++ (B ++ LB st' pe')) := by
    intro A B st pe st' pe'
    rw [hLB]
    exact Upd.left _ (Upd.left _ .here)
  have hup : ∀ (O : Blocks) (x : X) st pe st' pe', Upd (w.heap.size + 1) (Obj.loop (rec st pe)) (Obj.loop (rec st' pe')) (O ++ HI x (LB st pe)) (O ++ HI x (LB st' pe')) := by
    intro O x st pe st' pe'
    rw [hHI x (LB st pe), hHI x (LB st' pe')]
    exact hupG _ _ _ _ _ _
  have hmem : ∀ (O : Blocks) (x : X) st pe, (w.heap.size + 1, Obj.loop (rec st pe)) ∈ O ++ HI x (LB st pe) := by
    intro O x st pe
    rw [hHI, hLB]; simp
  refine ⟨w.heap.size + 1, [{ target := .collected w.heap.size, args := #[] }], (w.alloc (.deferred (some []))).alloc (.loop (rec .ready none)), { target := .fn (.func gf) lb.toArray, args := #[.func (.yield (w.heap.size + 1)) #[] #[]] },
    (w.alloc (.deferred (some []))).alloc (.loop (rec .ready none)), gf, #[.func (.yield (w.heap.size + 1)) #[] #[]] ++ lb.toArray, (w.alloc (.deferred (some []))).alloc (.loop (rec .ready none)), ?_, ?_, fun _ _ => trivial, ?_, fun h => by simp [Fw] at h, ?_⟩
  · rw [hrec]
    exact run_enterLoop_outer _ _ _ _ _
  · simp only [resolve, hgv]
    simp [go_sem]
  · simp [invoke, go_sem, hent]
  · refine (callsW (hiter X (fun x => HI x (LB .ready none)) Inv (fun B => ∃ c x, Stp c x ∧ B = HI x (LB .done (some c))) (w.heap.size + 1) x0 _ hi0 hW2 ?_) none _).mono ?_
    · intro k x vs O w1 hk hi hv hw1
      have hl : w1.heap[w.heap.size + 1]? = some (.loop (rec .ready none)) := hw1.get (hmem ..)
      have hvl := hV k vs O hv
      have hy := run_yield (P := P) (args := vs.toArray) hl (by rw [hrec]; simpa using hvl)
      refine ⟨(rec .ready none).fn, _, (rec .ready none).assign, (rec .ready none).body, hy, ?_⟩
      refine roundIn_any (n := 7) (roundIn_of_wpIn (F := Fw none) trivial ?_)
      have hfr : Fr n [] (zipS ps vs σ) { tmps := (((rec .ready none).params).zip vs.toArray).foldl (fun tmps (t, a) => tmps.setIfInBounds t a) (rec .ready none).tmps, defers := [] } := by
        have h1 := Fr.zip ps vs hf hpn hvl
        have e : (((rec .ready none).params).zip vs.toArray).foldl (fun tmps (t, a) => tmps.setIfInBounds t a) (rec .ready none).tmps = (ps.zip vs).foldl (fun tmps (t, a) => tmps.setIfInBounds t a) a.tmps := by
          rw [hrec]
          simp
        exact ⟨by simpa only [e] using h1.size, rfl, fun t v h => by simpa only [e] using h1.get t v h⟩
      have hperm : ∀ x1 st pe w2, Hp w0 (O ++ HI x1 (LB st pe)) w2 → Hp w0 (HI x1 (O ++ LB st pe)) w2 := by
        intro x1 st pe w2 h
        rw [hHI] at h
        rw [hHI]
        exact h.swap
      have hperm' : ∀ x1 st pe w2, Hp w0 (HI x1 (O ++ LB st pe)) w2 → Hp w0 (O ++ HI x1 (LB st pe)) w2 := by
        intro x1 st pe w2 h
        rw [hHI] at h
        rw [hHI]
        exact h.swap
      have hassign' := hassign (w.heap.size + 1) k x vs O (O ++ LB .ready none) hk hi hv (fun p hp => List.mem_append_left _ hp) _ w1 hfr (hperm _ _ _ _ hw1)
      have hfn : (rec .ready none).assign = assign := by rw [hrec]
      have hbd : (rec .ready none).body = body := by rw [hrec]
      rw [hfn, hbd]
      refine wpIn_mono hassign' ?_
      rintro e a1 w2 ⟨rfl, y, hf1, hw2'⟩
      have hw2 : Hp w0 (HA x vs y [] ++ (O ++ LB .ready none)) w2 := by rw [hHA] at hw2'; exact hw2'
      have hl2 : w2.heap[w.heap.size + 1]? = some (.loop (rec .ready none)) := hw2.get (by rw [hLB]; simp)
      have ebusy : Obj.loop { rec .ready none with state := .busy } = Obj.loop (rec .busy none) := by rw [hrec]
      refine ⟨_, run_beginRound hl2 (by rw [hrec]), ?_⟩
      rw [ebusy]
      have hb := hbody (w.heap.size + 1) k x vs y O (O ++ LB .busy none) hk hi hv (fun p hp => List.mem_append_left _ hp) a1 (w2.putObj (w.heap.size + 1) (.loop (rec .busy none))) hf1
        (by rw [hHA]; exact hw2.putObj (hupG _ O .ready none .busy none))
      refine wpIn_mono hb ?_
      have fin : ∀ (jump : Option Code) (x' : X) (w3 : World), Hp w0 (HI x' (O ++ LB .busy none)) w3 →
          (Instr.endRound (w.heap.size + 1) jump).run P w3 = .ok (.bool jump.isNone) (w3.putObj (w.heap.size + 1) (.loop (rec (if jump.isNone then .ready else .done) jump))) ∧
          Hp w0 (O ++ HI x' (LB (if jump.isNone then .ready else .done) jump)) (w3.putObj (w.heap.size + 1) (.loop (rec (if jump.isNone then .ready else .done) jump))) := by
        intro jump x' w3 h3
        have h3 := hperm' _ _ _ _ h3
        have hl3 : w3.heap[w.heap.size + 1]? = some (.loop (rec .busy none)) := h3.get (hmem ..)
        refine ⟨?_, h3.putObj (hup O x' .busy none _ _)⟩
        have := run_endRound (P := P) jump hl3
        rw [hrec] at this ⊢
        exact this
      rintro e a3 w3 (⟨rfl, x', hi', hw3⟩ | ⟨c, x', he, hst, hw3⟩)
      · obtain ⟨h1, h2⟩ := fin none x' w3 hw3
        exact ⟨_, _, h1, .inl ⟨x', hi', rfl, h2⟩⟩
      · obtain ⟨h1, h2⟩ := fin (some c) x' w3 hw3
        cases e with
        | ret =>
          cases he
          exact ⟨_, _, h1, .inr ⟨_, ⟨_, x', hst, rfl⟩, rfl, h2⟩⟩
        | exit id =>
          cases he
          exact ⟨_, _, h1, .inr ⟨_, ⟨_, x', hst, rfl⟩, rfl, h2⟩⟩
        | _ => cases he
    · have last : ∀ (O : Blocks) (x : X) st pe (w2 : World), st ≠ .busy → Hp w0 (O ++ HI x (LB st pe)) w2 →
          (Instr.endLoop (w.heap.size + 1)).run P w2 = .ok pe (w2.putObj (w.heap.size + 1) (.loop (rec .exhausted pe))) ∧
          Hp w0 (HI x ((w.heap.size, Obj.deferred (some [])) :: (O ++ [(w.heap.size + 1, Obj.loop (rec .exhausted pe))]))) (w2.putObj (w.heap.size + 1) (.loop (rec .exhausted pe))) := by
        intro O x st pe w2 hst h2
        have hl : w2.heap[w.heap.size + 1]? = some (.loop (rec st pe)) := h2.get (hmem ..)
        refine ⟨?_, ?_⟩
        · refine (run_endLoop (P := P) hl (by rw [hrec]; exact hst)).trans ?_
          rw [hrec]
        · have h3 := h2.putObj (hup O x st pe .exhausted pe)
          rw [hHI] at h3
          rw [hHI]
          refine h3.swap.perm (List.Perm.append_left _ ?_)
          rw [hLB]
          refine (List.perm_append_comm (l₁ := O)).trans ?_
          refine (List.Perm.swap _ _ _).trans ?_
          exact List.Perm.cons _ (List.perm_append_comm (l₁ := [_]))
      rintro e w2 ⟨v, H', rfl, hw2, (⟨x, O, hi, rfl⟩ | ⟨B, O, ⟨c, x, hst, rfl⟩, rfl⟩)⟩
      · obtain ⟨h1, h2⟩ := last O x .ready none w2 (by simp) hw2
        exact ⟨none, _, h1, hdone x _ _ hi _ _ ⟨hf.size, by simp [hf.defers], hf.get⟩ h2⟩
      · obtain ⟨h1, h2⟩ := last O x .done (some c) w2 (by simp) hw2
        exact ⟨some c, _, h1, hstop c x _ _ hst _ _ ⟨hf.size, by simp [hf.defers], hf.get⟩ h2⟩
theorem JQ.asgH {P : Program} {r : Option Nat} {n : Nat} {ds : List Deferred} {w0 : World} {σ : Slots} {H : Blocks} {Y : Type} {σ1 : Y → Slots} {HA : Y → Blocks} (y : Y) (h : ∀ p ∈ σ1 y, look σ p.1 = some p.2) (hs : Sub (HA y) H) :
    JQ ⟨P, r, n, ds, w0⟩ σ H (fun e a w => e = .normal ∧ ∃ y, Fr n ds (σ1 y) a ∧ Hp w0 (HA y) w) .normal := fun _ _ hf hw => ⟨rfl, y, hf.weaken h, hw.sub hs⟩
end Go.Proofs.YtopaednfjjjnbaaDoor
namespace Go.Proofs.YtopaednfjjjnbaaDoor
open Go Go.RowKit

theorem Sub.k {A H : Blocks} (h : Sub A H := by first | exact Sub.all | exact Sub.of_cnt (fun a => by (try dsimp only); simp only [cntA]; omega)) : Sub A H := h
theorem Keeps.k {σ σ' : Slots} (h : Keeps σ σ' := by repeat (first | exact Keeps.nil | refine Keeps.cons rfl ?_)) : ∀ p ∈ σ', look σ p.1 = some p.2 := h.get
theorem Upd.k {b : Nat} {o o' : Obj} {H H' : Blocks} (h : Upd b o o' H H' := by repeat (first | exact .here | apply Upd.there | apply Upd.left)) : Upd b o o' H H' := h
theorem Cut.k {A H H0 : Blocks} (h : Cut A H H0 := by repeat (first | exact .last | exact .here | apply Cut.past | apply Cut.there)) : Cut A H H0 := h
theorem memK {α : Type} {x : α} {l : List α} (h : x ∈ l := by repeat (first | exact List.Mem.head _ | refine List.Mem.tail _ ?_ | refine List.mem_append_right _ ?_ | assumption)) : x ∈ l := h
theorem szK {n k : Nat} (h : n = k := by first | rfl | exact dig_size _ | (rw [arr8_size]; first | exact sha_length _ | exact shaO_length _ | assumption)) : n = k := h
theorem oneK {vs : Array Value} (h : ∀ u ∈ vs.toList, u.oneCell' = true := by first | exact arr8_one _ | exact fun u hu => arr8_one (List.replicate 32 0) u hu | (simp; done) | (simp; exact ⟨rfl, rfl⟩)) : ∀ u ∈ vs.toList, u.oneCell' = true := h
section
variable {c : Cx} {σ : Slots} {H : Blocks} {ty : TypeId} {pos : String} {af : Array Edge} {gd : Option (Nat × Bool)} {dst : Option Nat}
theorem Ev.lB {T : TypeId} {x : Operand} {b : Nat} {cs : Array Value} {t : TypeId} {fr : Nat × Nat} {d : TypeDesc} {k : Nat} (hu : c.P.underlying T = some d) (hs : ∀ w, (sizeOf T).run c.P w = .ok k w)
    (hx : ev σ x = some (.pointer (some ⟨b, 0, none⟩)) := by exact rfl) (hb : (b, Obj.cells cs t fr) ∈ H := by exact memK) (hd : aggB d = true := by exact rfl) (hk : cs.size = k := by exact szK) : Ev c σ H ⟨dst, .load T x, ty, pos, af, gd⟩ (.agg cs) :=
  Ev.loadB hx hb hu hd hs hk
theorem Es.sA {T t : TypeId} {x y : Operand} {vs cs : Array Value} {b k : Nat} {H' : Blocks} (hs : ∀ w, (sizeOf T).run c.P w = .ok k w) (hx : ev σ x = some (.pointer (some ⟨b, 0, none⟩)) := by exact rfl) (hy : ev σ y = some (.agg vs) := by exact rfl)
    (hu : Upd b (.cells cs t (0, 0)) (.cells vs t (0, 0)) H H' := by exact Upd.k) (hv : vs.size = k := by exact szK) (hc : cs.size = k := by exact szK) (h1 : ∀ u ∈ vs.toList, u.oneCell' = true := by exact oneK) :
    Es c σ H ⟨dst, .store T x y, ty, pos, af, gd⟩ H' := Es.storeA hx hy hs hu hv hc h1
end
section
variable {c : Cx} {σ : Slots} {H : Blocks} {Q : Post1} {ops : Array Oper} {l : List Oper} {fuel : Nat} {listed : Array Bool} {ty : TypeId} {pos : String} {af : Array Edge}
theorem JL.mv {d : Nat} {x : Operand} {v : Value} (h : JL c ops ((d, v) :: σ) H l Q) (hx : ev σ x = some v := by exact rfl) (hdn : Nat.blt d c.n = true := by exact rfl) :
    JL c ops σ H ({ dst := some d, op := .move x, type := ty, pos := pos, after := af, guard := none } :: l) Q := JL.val rfl hdn rfl (.none rfl) (Ev.move hx) h
theorem JL.asg {d : Nat} {x : Operand} {v : Value} (h : JL c ops ((d, v) :: σ) H l Q) (hx : ev σ x = some v := by exact rfl) (hdn : Nat.blt d c.n = true := by exact rfl) :
    JL c ops σ H ({ dst := some d, op := .assign x, type := ty, pos := pos, after := af, guard := none } :: l) Q := JL.val rfl hdn rfl (.none rfl) (Ev.assign hx) h
theorem JA.one {o : Oper} (i : Nat) (h : JO c ops σ H o (wpAnyIn (Fw c.r) 7 c.P .any ops Q fuel (listed.setIfInBounds i true)) Q) (hr : Region.ready .any ops listed = [i] := by kernel_rfl) (ho : ops[i]? = some o := by exact rfl) :
    JA c ops σ H (fuel + 1) listed Q := JA.branch [i] hr rfl (JAll.cons ho h JAll.nil)
theorem JA.tk {o : Oper} (i : Nat) {d : Nat} {v : Value} (hi : ops[i]? = some o) (g : Gd ops σ o.guard true) (e : ∀ w0, Ev { c with w0 := w0 } σ [] o v) (h : JA c ops ((d, v) :: σ) H fuel (listed.setIfInBounds i true) Q)
    (hd : o.dst = some d := by exact rfl) (hdn : Nat.blt d c.n = true := by exact rfl) (hnd : allKept ops = true := by kernel_rfl) (hs : Region.noSelect ops = true := by kernel_rfl) (hf : Region.free .any ops listed i = true := by kernel_rfl) (hr : (Region.ready .any ops listed).contains i = true := by kernel_rfl)
    (hQ : ∀ ch a w, Q (.panic ch) (a.put o.dst v) w → Q (.panic ch) a w := by exact fun _ _ _ h => h) (hab : ∀ w (a : Act), o.about c.P w a.eval = none := by exact fun _ _ => rfl) : JA c ops σ H (fuel + 1) listed Q :=
  JA.takeR i hnd hi hd hdn hs hf hr hQ hab g e h
theorem JA.tkc {o : Oper} (i : Nat) {d : Nat} {v : Value} (hi : ops[i]? = some o) (g : Gd ops σ o.guard true) (e : ∀ w0, Ev { c with w0 := w0 } σ [] o v) (h : JA c ops ((d, v) :: σ) H fuel (listed.setIfInBounds i true) Q)
    (hQ : ∀ ch a w, Q (.panic ch) (a.put o.dst v) w → Q (.panic ch) a w := by exact fun _ _ _ h => absurd h.1 (by simp)) (hd : o.dst = some d := by exact rfl) (hdn : Nat.blt d c.n = true := by exact rfl) (hnd : allKept ops = true := by kernel_rfl) (hs : Region.noSelect ops = true := by kernel_rfl)
    (hf : Region.free .any ops listed i = true := by kernel_rfl) (hr : (Region.ready .any ops listed).contains i = true := by kernel_rfl) (hab : ∀ w (a : Act), o.about c.P w a.eval = none := by exact fun _ _ => rfl) : JA c ops σ H (fuel + 1) listed Q :=
  JA.takeR i hnd hi hd hdn hs hf hr hQ hab g e h
end
end Go.Proofs.YtopaednfjjjnbaaDoor
namespace Go.Proofs.YtopaednfjjjnbaaDoor
open Go Go.RowKit

abbrev Ent := UInt8 × List UInt8
structure Et where
  k : UInt8
  o : Option Addr
  cap : Nat
  l : List UInt8
def Et.cl (x : Et) : List Value := [u8 x.k, .slice x.o x.l.length x.cap]
def Et.e (x : Et) : Ent := (x.k, x.l)
def ef (xs : List Et) : List Value := xs.flatMap Et.cl
theorem ef_append (a b : List Et) : ef (a ++ b) = ef a ++ ef b := by simp [ef]
theorem ef_length : ∀ xs : List Et, (ef xs).length = xs.length * 2
  | [] => rfl
  | x :: xs => by
    show (x.cl ++ ef xs).length = _
    rw [List.length_append, ef_length xs, List.length_cons]
    show 2 + xs.length * 2 = _
    omega
theorem ef_get : ∀ (xs : List Et) (k : Nat) (x : Et), xs[k]? = some x → ((ef xs).drop (k * 2)).take 2 = x.cl
  | [], k, x, h => by simp at h
  | y :: xs, 0, x, h => by
    simp only [List.getElem?_cons_zero, Option.some.injEq] at h
    subst h
    rfl
  | y :: xs, k + 1, x, h => by
    rw [List.getElem?_cons_succ] at h
    rw [show (k + 1) * 2 = 2 + k * 2 by omega, ← List.drop_drop]
    exact ef_get xs k x h
/-- A board's entries. -/
structure Bd (w : World) (oa : Option Addr) (cap : Nat) (xs : List Et) : Prop where
  cs : Cs w oa xs.length cap (ef xs)
  each : ∀ x ∈ xs, Bs w x.o x.cap x.l
theorem Bd.old {w0 w : World} {H : Blocks} {oa : Option Addr} {cap : Nat} {xs : List Et} (hw : Hp w0 H w) (h : Bd w0 oa cap xs) : Bd w oa cap xs := ⟨h.cs.old hw, fun x hx => (h.each x hx).old hw⟩
theorem Bd.get_some {w : World} {oa : Option Addr} {cap : Nat} {xs : List Et} (h : Bd w oa cap xs) (hl : 0 < xs.length) : ∃ a, oa = some a := h.cs.get_some hl
theorem Bd.at {w : World} {a : Addr} {cap : Nat} {xs : List Et} (h : Bd w (some a) cap xs) {k : Nat} {x : Et} (hk : xs[k]? = some x) : Mem w (a.add (k * 2)) x.cl := by
  have := (h.cs.mem a rfl).cut (k * 2) 2
  rwa [ef_get xs k x hk] at this
theorem Bd.bs {w : World} {oa : Option Addr} {cap : Nat} {xs : List Et} (h : Bd w oa cap xs) {k : Nat} {x : Et} (hk : xs[k]? = some x) : Bs w x.o x.cap x.l := h.each x (List.mem_of_getElem? hk)
theorem Bd.take {w : World} {oa : Option Addr} {cap : Nat} {xs : List Et} (h : Bd w oa cap xs) {k : Nat} (hk : k ≤ xs.length) : Bd w oa cap (xs.take k) := by
  have hl : (xs.take k).length = k := by rw [List.length_take]; omega
  have hc := h.cs.le
  refine ⟨⟨by omega, h.cs.top, h.cs.empty, fun a ha => ?_⟩, fun x hx => h.each x (List.mem_of_mem_take hx)⟩
  have := (h.cs.mem a ha).cut 0 (k * 2)
  rw [List.drop_zero, show a.add 0 = a from by simp [Addr.add]] at this
  have e : (ef xs).take (k * 2) = ef (xs.take k) := by
    have h1 : ef xs = ef (xs.take k) ++ ef (xs.drop k) := by rw [← ef_append, List.take_append_drop]
    rw [h1, List.take_left' (by rw [ef_length, hl])]
  rwa [e] at this
def okE (x : Ent) : Bool := decide (1 ≤ x.1.toNat) && (decide (x.1.toNat ≤ 13) && decide (x.2.length ≤ 8000))
theorem okE_len {x : Ent} (h : okE x = true) : x.2.length ≤ 8000 := by
  simp only [okE, Bool.and_eq_true, decide_eq_true_eq] at h
  exact h.2.2
/-- A valid board. -/
def okB (xs : List Ent) : Prop := xs.length ≤ 1024 ∧ ∀ x ∈ xs, okE x = true
instance (xs : List Ent) : Decidable (okB xs) := inferInstanceAs (Decidable (_ ∧ _))
def leafE (x : Ent) : Dig := ⟨sha (0 :: x.1 :: x.2), sha_length _⟩
def leavesE (xs : List Ent) : List Dig := xs.map leafE

/-! ### Boards of the call's own -/
structure OE where
  k : UInt8
  q : Option Row
  l : List UInt8
def OE.cl (x : OE) : List Value := [u8 x.k, Row.v x.l.length x.q]
def OE.e (x : OE) : Ent := (x.k, x.l)
def OE.ok (x : OE) : Prop := Row.ok 1 x.l.length (x.l.map u8) x.q
def oef (xs : List OE) : List Value := xs.flatMap OE.cl
def oeD (t : TypeId) (xs : List OE) : Blocks := xs.flatMap fun x => Row.b t x.q
theorem oef_append (a b : List OE) : oef (a ++ b) = oef a ++ oef b := by simp [oef]
theorem oeD_append (t : TypeId) (a b : List OE) : oeD t (a ++ b) = oeD t a ++ oeD t b := by simp [oeD]
def OE.et (x : OE) : Et := match x.q with
  | none => ⟨x.k, none, 0, x.l⟩
  | some r => ⟨x.k, some ⟨r.g, 0, none⟩, r.cap, x.l⟩
theorem OE.et_cl {x : OE} (h : x.ok) : x.et.cl = x.cl := by
  obtain ⟨k, q, l⟩ := x
  cases q with
  | none =>
    have h0 : l.length = 0 := h.1
    show [u8 k, Value.slice none l.length 0] = [u8 k, .slice none 0 0]
    rw [h0]
  | some r => rfl
theorem OE.et_e (x : OE) : x.et.e = x.e := by
  obtain ⟨k, q, l⟩ := x
  cases q <;> rfl
theorem own_ef : ∀ {os : List OE}, (∀ x ∈ os, x.ok) → ef (os.map OE.et) = oef os
  | [], _ => rfl
  | x :: os, h => by
    show x.et.cl ++ ef (os.map OE.et) = x.cl ++ oef os
    rw [OE.et_cl (h x (List.mem_cons_self ..)), own_ef fun y hy => h y (List.mem_cons_of_mem _ hy)]
theorem own_bs {t : TypeId} {x : OE} (h : x.ok) {w0 : World} {H : Blocks} (w : World) (hw : Hp w0 H w) (hm : ∀ p ∈ Row.b t x.q, p ∈ H) : Bs w x.et.o x.et.cap x.et.l := by
  obtain ⟨k, q, l⟩ := x
  obtain ⟨oa, cap, e1, _, hC⟩ := Row.vw (e := t) h
  have hc := hC w hw hm
  cases q with
  | none =>
    obtain ⟨h1, h2⟩ := h
    have h1' : l.length = 0 := h1
    have : l = [] := List.eq_nil_of_length_eq_zero h1'
    subst this
    exact bs_nil
  | some r =>
    rw [Row.v] at e1
    injection e1 with e1 _ e2
    subst e1 e2
    exact hc.bs rfl
theorem own_bd {e t : TypeId} {os : List OE} {r : Option Row} (h : Row.ok 2 os.length (oef os) r) (ho : ∀ x ∈ os, x.ok) :
    ∃ (oa : Option Addr) (cap : Nat) (xs : List Et), xs = os.map OE.et ∧ Row.v os.length r = .slice oa xs.length cap ∧ xs.map Et.e = os.map OE.e ∧ ∀ {w0 : World} {H : Blocks} (w : World), Hp w0 H w → (∀ p ∈ Row.b e r ++ oeD t os, p ∈ H) → Bd w oa cap xs := by
  obtain ⟨oa, cap, e1, _, hC⟩ := Row.vw (e := e) h
  have hl : (os.map OE.et).length = os.length := List.length_map ..
  refine ⟨oa, cap, os.map OE.et, rfl, by rw [hl]; exact e1, by rw [List.map_map]; exact List.map_congr_left fun x _ => OE.et_e x, fun {w0 H} w hw hm => ⟨?_, fun x hx => ?_⟩⟩
  · rw [own_ef ho, hl]
    exact hC w hw fun p hp => hm p (List.mem_append_left _ hp)
  · obtain ⟨y, hy, rfl⟩ := List.mem_map.1 hx
    exact own_bs (t := t) (ho y hy) w hw fun p hp => hm p (List.mem_append_right _ (List.mem_flatMap.2 ⟨y, hy, hp⟩))
section
variable {c : Cx} {σ : Slots} {H : Blocks} {ty : TypeId} {pos : String} {af : Array Edge} {gd : Option (Nat × Bool)} {dst : Option Nat}
end
end Go.Proofs.YtopaednfjjjnbaaDoor
namespace Go.Proofs.YtopaednfjjjnbaaDoor
open Go Go.RowKit

theorem bytes_dec (l m : List UInt8) : ((⟨l.toArray⟩ : ByteArray).toList == (⟨m.toArray⟩ : ByteArray).toList) = decide (l = m) := by
  rw [ByteArray.toList_eq, ByteArray.toList_eq]
  by_cases h : l = m
  · subst h; simp
  · simp [h]
structure Hd where
  n : Int
  root : Dig
  r : UInt64
  s : UInt64
def Hd.cl (h : Hd) : List Value := .int .i64 h.n :: (h.root.1.map u8 ++ [u64 h.r, u64 h.s])
theorem Hd.cl_length (h : Hd) : h.cl.length = 35 := by
  show (h.root.1.map u8 ++ [u64 h.r, u64 h.s]).length + 1 = 35
  rw [List.length_append, List.length_map, h.root.2]
  rfl
theorem Hd.size (h : Hd) : h.cl.toArray.size = 35 := by rw [List.size_toArray, h.cl_length]
theorem Hd.one (h : Hd) : ∀ u ∈ h.cl.toArray.toList, u.oneCell' = true := by
  intro u hu
  rcases List.mem_cons.1 hu with rfl | hu
  · rfl
  · rcases List.mem_append.1 hu with hu | hu
    · exact u8s_one _ u hu
    · simp only [List.mem_cons, List.not_mem_nil, or_false] at hu
      rcases hu with rfl | rfl <;> rfl
theorem Hd.get0 (h : Hd) : h.cl.toArray[0 + 0]? = some (.int .i64 h.n) := by
  rw [List.getElem?_toArray]; rfl
theorem Hd.rds {c : Cx} {H : Blocks} {b : Nat} {t : TypeId} {h : Hd} (hm : (b, Obj.cells h.cl.toArray t (0, 0)) ∈ H) : Rds c H ⟨b, 0 + 1, none⟩ (h.root.1.map u8) :=
  Rds.own hm fun j v hj => by
    rw [List.getElem?_toArray, show 0 + 1 + j = j + 1 by omega]
    show (h.root.1.map u8 ++ [u64 h.r, u64 h.s])[j]? = _
    rw [List.getElem?_append_left (List.getElem?_eq_some_iff.1 hj).1]
    exact hj
theorem setR_size (vs : List Value) : ∀ (cs : Array Value) (off : Nat), (setR cs off vs).size = cs.size := by
  induction vs with
  | nil => intro cs off; rfl
  | cons v vs ih => intro cs off; rw [setR, ih, Array.size_setIfInBounds]
theorem fill_step {pl : Nat → Option (Nat × Nat)} {cs : Array Value} {i off size : Nat} {v : Value} {rest : List (Nat × Value)} (hp : pl i = some (off, size)) (hv : v.cells.size = size) (hl : off + size ≤ cs.size) :
    Instr.fill pl cs ((i, v) :: rest) = Instr.fill pl (setR cs off v.cells.toList) rest := by
  have hfold : v.cells.zipIdx.foldl (fun cs (c, j) => cs.setIfInBounds (off + j) c) cs = setR cs off v.cells.toList := by
    have := setR_fold v.cells.toList cs off 0
    rw [Nat.add_zero] at this
    rw [← this, ← Array.foldl_toList, Array.toList_zipIdx]
  rw [Instr.fill, hp]
  simp only [hv]
  rw [if_neg (by simp; omega), hfold]
theorem fill_head (n : Int) (d : Dig) : Instr.fill ((#[(0, 1), (1, 32), (33, 2)] : Array (Nat × Nat))[·]?) (Hd.cl ⟨0, zeroD, 0, 0⟩).toArray [(0, .int .i64 n), (1, .agg (arr8 d.1))] = some (Hd.cl ⟨n, d, 0, 0⟩).toArray := by
  have hd : (Value.agg (arr8 d.1)).cells.toList = d.1.map u8 := by simp [Value.cells, arr8]
  have h0 : (Hd.cl ⟨0, zeroD, 0, 0⟩).toArray.size = 35 := Hd.size _
  rw [fill_step (off := 0) (size := 1) rfl rfl (by rw [h0]; decide), fill_step (v := .agg (arr8 d.1)) (off := 1) (size := 32) rfl (show (Value.agg (arr8 d.1)).cells.size = 32 from dig_size d) (by rw [setR_size, h0]; decide), Instr.fill, hd]
  congr 1
  apply Array.toList_inj.1
  have e1 : (setR (Hd.cl ⟨0, zeroD, 0, 0⟩).toArray 0 (Value.int .i64 n).cells.toList).toList = .int .i64 n :: (zeroD.1.map u8 ++ [u64 0, u64 0]) := by
    rw [setR_toList _ _ _ (by rw [h0]; exact (by decide : 0 + 1 ≤ 35))]; rfl
  rw [setR_toList _ _ _ (by rw [setR_size, h0, List.length_map, d.2]; decide), e1, List.length_map, d.2]
  show [Value.int .i64 n] ++ d.1.map u8 ++ (zeroD.1.map u8 ++ [u64 0, u64 0]).drop 32 = _
  rw [List.drop_left' (by rw [List.length_map, zeroD.2])]
  show .int .i64 n :: (d.1.map u8 ++ [u64 0, u64 0]) = _
  rfl
section
variable {c : Cx} {σ : Slots} {H : Blocks} {ty : TypeId} {pos : String} {af : Array Edge} {gd : Option (Nat × Bool)} {dst : Option Nat}
/-- A head written out, without a signature. -/
theorem Ev.buH {T : TypeId} {fs : Array Field} {x y : Operand} {n : Int} {d : Dig} (hx : ev σ x = some (.int .i64 n)) (hy : ev σ y = some (.agg (arr8 d.1))) (hu : c.P.underlying T = some (.struct fs))
    (hpl : ∀ w, (fs.mapM fun f => (do pure (f.offset, ← sizeOf f.type) : Sem (Nat × Nat))).run c.P w = .ok #[(0, 1), (1, 32), (33, 2)] w)
    (hz : ∀ w, (zeroValue T).run c.P w = .ok (.agg (Hd.cl ⟨0, zeroD, 0, 0⟩).toArray) w) : Ev c σ H ⟨dst, .build T #[(0, x), (1, y)], ty, pos, af, gd⟩ (.agg (Hd.cl ⟨n, d, 0, 0⟩).toArray) := by
  refine Ev.build (parts := [(0, x), (1, y)]) (vs := [(0, .int .i64 n), (1, .agg (arr8 d.1))]) ?_ ?_
  · intro A hf
    simp [hf.ev hx, hf.ev hy]
  · intro w
    have hg := fill_head n d
    simp only [Instr.build, Sem.run_bind, hz w, Result.andThen_ok, run_underlying hu, hpl w]
    show (match Instr.fill ((#[(0, 1), (1, 32), (33, 2)] : Array (Nat × Nat))[·]?) (Hd.cl ⟨0, zeroD, 0, 0⟩).toArray [(0, .int .i64 n), (1, .agg (arr8 d.1))] with | some cells => pure (.agg cells) | _ => stuck _ : Sem Value).run c.P w = _
    rw [hg]
    rfl
end
end Go.Proofs.YtopaednfjjjnbaaDoor
namespace Go.Proofs.YtopaednfjjjnbaaDoor
open Go Go.RowKit

theorem rowv_cells (n : Nat) (r : Option Row) : (Row.v n r).cells = #[Row.v n r] := by cases r <;> rfl
theorem rowv_one (n : Nat) (r : Option Row) : (Row.v n r).oneCell' = true := by cases r <;> rfl
theorem OE.one (x : OE) : ∀ u ∈ x.cl, u.oneCell' = true := by
  intro u hu
  simp only [OE.cl, List.mem_cons, List.not_mem_nil, or_false] at hu
  rcases hu with rfl | rfl
  · rfl
  · exact rowv_one _ _
theorem oeD_one (t : TypeId) (k : UInt8) (q : Option Row) (l : List UInt8) : oeD t [⟨k, q, l⟩] = Row.b t q := List.append_nil _
theorem oef_one (x : OE) : oef [x] = x.cl := List.append_nil _
theorem Upd.assoc {b : Nat} {o o' : Obj} {A B C H' : Blocks} (h : Upd b o o' (A ++ (B ++ C)) H') : Upd b o o' ((A ++ B) ++ C) H' := by rw [List.append_assoc]; exact h
theorem Cut.assoc {A B C D H0 : Blocks} (h : Cut A (B ++ (C ++ D)) H0) : Cut A ((B ++ C) ++ D) H0 := by rw [List.append_assoc]; exact h
/-- A board that the call has laid. -/
def OwnB (e t : TypeId) (es : List Ent) (v : Value) (H : Blocks) : Prop :=
  ∃ (r : Option Row) (os : List OE), v = .agg #[Row.v os.length r] ∧ H = Row.b e r ++ oeD t os ∧ Row.ok 2 os.length (oef os) r ∧ (∀ o ∈ os, o.ok) ∧ os.map OE.e = es
section
variable {c : Cx} {σ : Slots} {H : Blocks} {ty : TypeId} {pos : String} {af : Array Edge} {gd : Option (Nat × Bool)} {dst : Option Nat}
/-- A struct of two fields of one cell each. -/
theorem Ev.bu2 {T : TypeId} {fs : Array Field} {x y : Operand} {v1 v2 z1 z2 : Value} (hx : ev σ x = some v1) (hy : ev σ y = some v2) (h1 : v1.cells = #[v1]) (h2 : v2.cells = #[v2]) (hu : c.P.underlying T = some (.struct fs))
    (hpl : ∀ w, (fs.mapM fun f => (do pure (f.offset, ← sizeOf f.type) : Sem (Nat × Nat))).run c.P w = .ok #[(0, 1), (1, 1)] w)
    (hz : ∀ w, (zeroValue T).run c.P w = .ok (.agg #[z1, z2]) w) : Ev c σ H ⟨dst, .build T #[(0, x), (1, y)], ty, pos, af, gd⟩ (.agg #[v1, v2]) := by
  refine Ev.build (parts := [(0, x), (1, y)]) (vs := [(0, v1), (1, v2)]) ?_ ?_
  · intro A hf
    simp [hf.ev hx, hf.ev hy]
  · intro w
    have hg : Instr.fill ((#[(0, 1), (1, 1)] : Array (Nat × Nat))[·]?) #[z1, z2] [(0, v1), (1, v2)] = some #[v1, v2] := by
      rw [fill_step (v := v1) (off := 0) (size := 1) rfl (by rw [h1]; rfl) (by simp), fill_step (v := v2) (off := 1) (size := 1) rfl (by rw [h2]; rfl) (by rw [setR_size]; simp), h1, h2]
      rfl
    simp only [Instr.build, Sem.run_bind, hz w, Result.andThen_ok, run_underlying hu, hpl w]
    show (match Instr.fill ((#[(0, 1), (1, 1)] : Array (Nat × Nat))[·]?) #[z1, z2] [(0, v1), (1, v2)] with | some cells => pure (.agg cells) | _ => stuck _ : Sem Value).run c.P w = _
    rw [hg]
    rfl
theorem En.bs1E {T e : TypeId} {x : Operand} {o : OE} {z : Value} (hx : ev σ x = some (.agg o.cl.toArray)) (hT : c.P.underlying T = some (.slice e)) (hs : ∀ w, (sizeOf e).run c.P w = .ok 2 w)
    (hz : ∀ w, (zeroValue e).run c.P w = .ok z w) :
    En c σ H ⟨dst, .buildSlice T 1 #[(0, x)], ty, pos, af, gd⟩ (fun g => .slice (some ⟨g, 0, none⟩) 1 1) (.cells o.cl.toArray e (0, 0)) := by
  have h := En.bsA (c := c) (σ := σ) (H := H) (dst := dst) (ty := ty) (pos := pos) (af := af) (gd := gd) (parts := [(0, x)]) (vs := [.agg o.cl.toArray]) (n := 1) (s := 2) (by simp [evs, hx]) rfl hT hs hz (fun v hv => by
    obtain rfl := List.mem_singleton.1 hv
    rfl) (by decide) (by decide) (by decide)
  exact h
end
end Go.Proofs.YtopaednfjjjnbaaDoor
namespace Go.Proofs.YtopaednfjjjnbaaDoor
open Go Go.RowKit

def ints (l : List Int) : List Value := l.map fun z => .int .i64 z
theorem ints_append (a b : List Int) : ints (a ++ b) = ints a ++ ints b := List.map_append ..
theorem ints_one (l : List Int) : ∀ u ∈ ints l, u.oneCell' = true := fun u hu => by
  obtain ⟨z, _, rfl⟩ := List.mem_map.1 hu
  rfl
/-- An entry. -/
structure Me where
  k : UInt8
  l : List Int
  r : Option Row
def Me.p (m : Me) : Value × Value := (u8 m.k, Row.v m.l.length m.r)
def mB (t : TypeId) (ms : List Me) : Blocks := ms.flatMap fun m => Row.b t m.r
def getM : List Me → UInt8 → List Int × Option Row
  | [], _ => ([], none)
  | m :: ms, k => if m.k = k then (m.l, m.r) else getM ms k
def delM : List Me → UInt8 → List Me
  | [], _ => []
  | m :: ms, k => if m.k = k then ms else m :: delM ms k
def putM : List Me → UInt8 → List Int → Option Row → List Me
  | [], k, l, r => [⟨k, l, r⟩]
  | m :: ms, k, l, r => if m.k = k then ⟨k, l, r⟩ :: ms else m :: putM ms k l r
def Me.ok (m : Me) : Prop := Row.ok 1 m.l.length (ints m.l) m.r
theorem cntA' (a : Nat × Obj) (A B : Blocks) : cnt a (A ++ B) = cnt a A + cnt a B := by simp only [cntA]
theorem mB_cons (t : TypeId) (m : Me) (ms : List Me) : mB t (m :: ms) = Row.b t m.r ++ mB t ms := rfl
theorem mB_get (t : TypeId) (k : UInt8) (a : Nat × Obj) : ∀ ms : List Me, cnt a (mB t ms) = cnt a (Row.b t (getM ms k).2) + cnt a (mB t (delM ms k))
  | [] => rfl
  | m :: ms => by
    unfold getM delM
    split
    · rw [mB_cons, cntA']
    · rw [mB_cons, mB_cons, cntA', cntA', mB_get t k a ms]
      omega
theorem mB_put (t : TypeId) (k : UInt8) (l : List Int) (r : Option Row) (a : Nat × Obj) : ∀ ms : List Me, cnt a (mB t (putM ms k l r)) = cnt a (Row.b t r) + cnt a (mB t (delM ms k))
  | [] => by
    show cnt a (Row.b t r ++ []) = _
    rw [cntA']
    rfl
  | m :: ms => by
    unfold putM delM
    split
    · rw [mB_cons, cntA']
    · rw [mB_cons, mB_cons, cntA', cntA', mB_put t k l r a ms]
      omega
theorem getM_put (k k' : UInt8) (l : List Int) (r : Option Row) : ∀ ms : List Me, getM (putM ms k l r) k' = if k = k' then (l, r) else getM ms k'
  | [] => by
    unfold putM getM
    rfl
  | m :: ms => by
    by_cases h : m.k = k
    · subst h
      rw [putM, if_pos rfl, getM, getM]
      split <;> rfl
    · rw [putM, if_neg h, getM, getM, getM_put k k' l r ms]
      by_cases h1 : m.k = k'
      · rw [if_pos h1, if_pos h1, if_neg (fun h2 => h (by rw [h1, h2]))]
      · rw [if_neg h1, if_neg h1]
theorem getM_ok (k : UInt8) : ∀ ms : List Me, (∀ m ∈ ms, m.ok) → Row.ok 1 (getM ms k).1.length (ints (getM ms k).1) (getM ms k).2
  | [], _ => Row.ok0
  | m :: ms, h => by
    unfold getM
    split
    · exact h m (List.mem_cons_self ..)
    · exact getM_ok k ms fun x hx => h x (List.mem_cons_of_mem _ hx)
theorem putM_ok (k : UInt8) (l : List Int) (r : Option Row) (hr : Row.ok 1 l.length (ints l) r) : ∀ ms : List Me, (∀ m ∈ ms, m.ok) → ∀ m ∈ putM ms k l r, m.ok
  | [], _ => fun m hm => by
    obtain rfl := List.mem_singleton.1 hm
    exact hr
  | m :: ms, h => by
    unfold putM
    split
    · intro x hx
      rcases List.mem_cons.1 hx with rfl | hx
      · exact hr
      · exact h x (List.mem_cons_of_mem _ hx)
    · intro x hx
      rcases List.mem_cons.1 hx with rfl | hx
      · exact h x (List.mem_cons_self ..)
      · exact putM_ok k l r hr ms (fun y hy => h y (List.mem_cons_of_mem _ hy)) x hx
def kv (e : MapEntry) : Value × Value := (e.key, e.val)
theorem find_first (k : UInt8) : ∀ (es : List MapEntry) (ms : List Me) (i : Nat), es.map kv = ms.map Me.p →
    (Instr.findNow (.int .u8) (u8 k) es i = some none ∧ getM ms k = ([], none) ∧ ∀ l r, putM ms k l r = ms ++ [⟨k, l, r⟩]) ∨
    ∃ j e, Instr.findNow (.int .u8) (u8 k) es i = some (some (i + j, e.val)) ∧ es[j]? = some e ∧ e.key = u8 k ∧ e.val = Row.v (getM ms k).1.length (getM ms k).2 ∧
      ∀ l r, (es.modify j fun e => { e with key := u8 k, val := Row.v l.length r }).map kv = (putM ms k l r).map Me.p
  | [], [], _, _ => .inl ⟨rfl, rfl, fun _ _ => rfl⟩
  | [], m :: ms, _, h => by cases h
  | e :: es, [], _, h => by cases h
  | e :: es, m :: ms, i, h => by
    simp only [List.map_cons, List.cons.injEq] at h
    obtain ⟨h1, h2⟩ := h
    have hk : e.key = u8 m.k := congrArg Prod.fst h1
    have hv : e.val = Row.v m.l.length m.r := congrArg Prod.snd h1
    have hs : Instr.sameNow (.int .u8) (u8 k) e.key = some ((k.toNat : Int) == (m.k.toNat : Int)) := by rw [hk]; rfl
    by_cases hkm : m.k = k
    · subst hkm
      refine .inr ⟨0, e, ?_, rfl, hk, ?_, fun l r => ?_⟩
      · simp [Instr.findNow, hs]
      · rw [getM, if_pos rfl]; exact hv
      · rw [putM, if_pos rfl]
        simp only [List.modify_zero_cons, List.map_cons, h2]
        rfl
    · have hf : ((k.toNat : Int) == (m.k.toNat : Int)) = false := by
        rw [beq_eq_false_iff_ne]
        intro h3
        exact hkm (UInt8.toNat_inj.1 (by omega))
      rw [hf] at hs
      rcases find_first k es ms (i + 1) h2 with ⟨q1, q2, q3⟩ | ⟨j, e', q1, q2, q3, q4, q5⟩
      · refine .inl ⟨by simp [Instr.findNow, hs, q1], by rw [getM, if_neg hkm, q2], fun l r => by rw [putM, if_neg hkm, q3 l r]; rfl⟩
      · refine .inr ⟨j + 1, e', by simp [Instr.findNow, hs, q1]; omega, by simpa using q2, q3, by rw [getM, if_neg hkm, q4], fun l r => ?_⟩
        rw [putM, if_neg hkm]
        simp only [List.modify_succ_cons, List.map_cons, q5 l r, h1]
/-- The entries behind a write. -/
def upd8 (es : Array MapEntry) (clock : Nat) (k : UInt8) (v : Value) : Array MapEntry × Nat := match Instr.findNow (.int .u8) (u8 k) es.toList 0 with
  | some (some (j, _)) => (es.modify j fun e => { e with key := u8 k, val := v }, clock)
  | _ => (es.push { key := u8 k, val := v, born := clock }, clock + 1)
theorem upd8_ok {es : Array MapEntry} {clock : Nat} {k : UInt8} {ms : List Me} {l : List Int} {r : Option Row} (hm : es.toList.map kv = ms.map Me.p) : (upd8 es clock k (Row.v l.length r)).1.toList.map kv = (putM ms k l r).map Me.p := by
  unfold upd8
  rcases find_first k es.toList ms 0 hm with ⟨q1, _, q3⟩ | ⟨j, e', q1, _, _, _, q5⟩
  · rw [q1, q3 l r]
    simp [hm, kv, Me.p]
  · rw [q1, Nat.zero_add, ← q5 l r]
    show (es.modify j _).toList.map kv = _
    rw [Array.toList_modify]
section
variable {c : Cx} {σ : Slots} {H : Blocks} {ty : TypeId} {pos : String} {af : Array Edge} {gd : Option (Nat × Bool)} {dst : Option Nat}
theorem En.makeMap {T : TypeId} : En c σ H ⟨dst, .makeMap T none, ty, pos, af, gd⟩ (fun b => .map (some b)) (.map #[] 0) := fun A w _ _ => by
  have e : execOp A.eval ⟨dst, .makeMap T none, ty, pos, af, gd⟩ = (do pure (Next.value (← Instr.makeMap T none))) := rfl
  rw [e]
  simp [Instr.makeMap]
theorem isKey8 (k : UInt8) : Go.MapKept.IsKey (.int .u8) (u8 k) := rfl
theorem Ev.lookM {T kt et : TypeId} {x y : Operand} {b clock : Nat} {es : Array MapEntry} {ms : List Me} {k : UInt8} (hx : ev σ x = some (.map (some b))) (hy : ev σ y = some (u8 k)) (hT : c.P.underlying T = some (.map kt et)) (hkt : c.P.underlying kt = some (.int .u8))
    (hz : ∀ w, (zeroValue et).run c.P w = .ok (.slice none 0 0) w) (hb : (b, Obj.map es clock) ∈ H) (hm : es.toList.map kv = ms.map Me.p) :
    Ev c σ H ⟨dst, .lookup T x y false, ty, pos, af, gd⟩ (Row.v (getM ms k).1.length (getM ms k).2) := fun A w hf hw => by
  have e : execOp A.eval ⟨dst, .lookup T x y false, ty, pos, af, gd⟩ = (do pure (Next.value (← Instr.lookup T (A.eval x) (A.eval y) false))) := rfl
  rw [e, hf.ev hx, hf.ev hy]
  have hg := hw.get hb
  rcases find_first k es.toList ms 0 hm with ⟨q1, q2, _⟩ | ⟨j, e', q1, _, _, q4, _⟩
  · rw [q2]
    simp [Instr.lookup, run_underlying hT, Go.MapKept.run_getObj_map hg, Go.MapKept.run_checkKey hkt (isKey8 k), Go.MapKept.run_findKey hkt q1, hz]
    rfl
  · rw [← q4]
    simp [Instr.lookup, run_underlying hT, Go.MapKept.run_getObj_map hg, Go.MapKept.run_checkKey hkt (isKey8 k), Go.MapKept.run_findKey hkt q1]
theorem Es.putM {T kt et : TypeId} {x y z : Operand} {b clock : Nat} {es : Array MapEntry} {ms : List Me} {k : UInt8} {l : List Int} {r : Option Row} {H' : Blocks} (hx : ev σ x = some (.map (some b))) (hy : ev σ y = some (u8 k)) (hv : ev σ z = some (Row.v l.length r)) (hT : c.P.underlying T = some (.map kt et)) (hkt : c.P.underlying kt = some (.int .u8))
    (hu : Upd b (.map es clock) (.map (upd8 es clock k (Row.v l.length r)).1 (upd8 es clock k (Row.v l.length r)).2) H H') (hm : es.toList.map kv = ms.map Me.p) : Es c σ H ⟨dst, .mapUpdate T x y z, ty, pos, af, gd⟩ H' := fun A w hf hw => by
  have e : execOp A.eval ⟨dst, .mapUpdate T x y z, ty, pos, af, gd⟩ = (do Instr.mapUpdate T (A.eval x) (A.eval y) (A.eval z); pure Next.skip) := rfl
  rw [e, hf.ev hx, hf.ev hy, hf.ev hv]
  have hg := hw.get hu.mem
  refine ⟨_, ?_, hw.putObj hu⟩
  unfold upd8
  rcases find_first k es.toList ms 0 hm with ⟨q1, _, _⟩ | ⟨j, e', q1, q2, q3, _, _⟩
  · rw [q1]
    simp [Instr.mapUpdate, run_underlying hT, Go.MapKept.run_getObj_map hg, Go.MapKept.run_checkKey hkt (isKey8 k), Go.MapKept.run_findKey hkt q1, Go.MapKept.run_setObj_map _ hg]
    rfl
  · have hj : es[j]? = some e' := by simpa using q2
    rw [Nat.zero_add] at q1
    rw [q1]
    simp [Instr.mapUpdate, run_underlying hT, Go.MapKept.run_getObj_map hg, Go.MapKept.run_checkKey hkt (isKey8 k), Go.MapKept.run_findKey hkt q1, hj, q3, Go.MapKept.run_keyThatStays (isKey8 k), Go.MapKept.run_setObj_map _ hg]
    rfl
end
end Go.Proofs.YtopaednfjjjnbaaDoor
