/-
  Trees of digests, in plain terms: levels, roots, paths, following; halving and splitting agree.
-/
import Derived.Test.YtebinlinhmohbaaDoorSha
namespace Go.Proofs.YtebinlinhmohbaaDoor

abbrev Dig := { l : List UInt8 // l.length = 32 }
theorem dig_len (d : Dig) : d.1.length = 32 := d.2
def nodeD (a b : Dig) : Dig := ⟨sha (1 :: (a.1 ++ b.1)), sha_length _⟩
def sumD : Dig := ⟨sha [], sha_length _⟩
def zeroD : Dig := ⟨List.replicate 32 0, rfl⟩
instance : Inhabited Dig := ⟨zeroD⟩

/-! ### The greatest power of two below -/
def bel (n : Nat) : Nat := 2 ^ Nat.log2 (n - 1)
theorem bel_pos (n : Nat) : 1 ≤ bel n := Nat.one_le_two_pow
theorem bel_of {n j : Nat} (h1 : 2 ^ j < n) (h2 : n ≤ 2 ^ (j + 1)) : bel n = 2 ^ j := by
  unfold bel
  have h0 : n - 1 ≠ 0 := by have : 1 ≤ 2 ^ j := Nat.one_le_two_pow; omega
  rw [(Nat.log2_eq_iff (k := j) h0).2 ⟨by omega, by omega⟩]
theorem bel_spec {n : Nat} (h : 2 ≤ n) : bel n < n ∧ n ≤ 2 * bel n := by
  have h0 : n - 1 ≠ 0 := by omega
  have h1 := Nat.log2_self_le h0
  have h2 := @Nat.lt_log2_self (n - 1)
  unfold bel
  rw [Nat.pow_succ] at h2
  omega
theorem bel_lt {n : Nat} (h : 2 ≤ n) : bel n < n := (bel_spec h).1
theorem bel_two : bel 2 = 1 := by decide
/-- Halving. -/
theorem bel_half {n : Nat} (h : 3 ≤ n) : bel n = 2 * bel ((n + 1) / 2) := by
  have h1 := bel_spec (n := (n + 1) / 2) (by omega)
  obtain ⟨j, hj⟩ : ∃ j, bel ((n + 1) / 2) = 2 ^ j := ⟨_, rfl⟩
  rw [hj] at h1 ⊢
  have e : 2 * 2 ^ j = 2 ^ (j + 1) := by rw [Nat.pow_succ]; omega
  rw [e]
  apply bel_of
  · rw [← e]; omega
  · rw [Nat.pow_succ, ← e]; omega
theorem bel_even {n : Nat} (h : 3 ≤ n) : bel n % 2 = 0 := by rw [bel_half h]; omega
theorem bel_ge2 {n : Nat} (h : 3 ≤ n) : 2 ≤ bel n := by have := bel_half h; have := bel_pos ((n + 1) / 2); omega

/-! ### Levels -/
def up : List Dig → List Dig
  | a :: b :: l => nodeD a b :: up l
  | l => l
theorem up_nil : up [] = [] := rfl
theorem up_one (a : Dig) : up [a] = [a] := rfl
theorem up_two (a b : Dig) (l : List Dig) : up (a :: b :: l) = nodeD a b :: up l := rfl
theorem up_length : ∀ l : List Dig, (up l).length = (l.length + 1) / 2
  | [] => rfl
  | [x] => by rw [up_one, List.length_singleton]
  | a :: b :: l => by
    rw [up_two, List.length_cons, up_length l]
    simp only [List.length_cons]
    omega
theorem up_append : ∀ (a b : List Dig), a.length % 2 = 0 → up (a ++ b) = up a ++ up b
  | [], b, _ => rfl
  | [x], b, h => by simp at h
  | x :: y :: a, b, h => by
    simp only [List.cons_append, up_two]
    rw [up_append a b (by simp only [List.length_cons] at h; omega)]
theorem up_take {l : List Dig} {k : Nat} (hk : k ≤ l.length) (he : k % 2 = 0) : (up l).take (k / 2) = up (l.take k) := by
  have h := up_append (l.take k) (l.drop k) (by rw [List.length_take]; omega)
  rw [List.take_append_drop] at h
  rw [h, List.take_append_of_le_length (by rw [up_length, List.length_take]; omega), List.take_of_length_le (by rw [up_length, List.length_take]; omega)]
theorem up_drop {l : List Dig} {k : Nat} (hk : k ≤ l.length) (he : k % 2 = 0) : (up l).drop (k / 2) = up (l.drop k) := by
  have h := up_append (l.take k) (l.drop k) (by rw [List.length_take]; omega)
  rw [List.take_append_drop] at h
  rw [h, List.drop_append_of_le_length (by rw [up_length, List.length_take]; omega), List.drop_of_length_le (by rw [up_length, List.length_take]; omega), List.nil_append]
theorem up_get : ∀ (l : List Dig) (k : Nat) (a b : Dig), l[2 * k]? = some a → l[2 * k + 1]? = some b → (up l)[k]? = some (nodeD a b)
  | [], k, _, _, h, _ => by simp at h
  | [x], k, _, _, _, h => by simp at h
  | x :: y :: l, 0, a, b, h1, h2 => by
    simp at h1 h2
    subst h1; subst h2; rfl
  | x :: y :: l, k + 1, a, b, h1, h2 => by
    rw [up_two, List.getElem?_cons_succ]
    refine up_get l k a b ?_ ?_
    · rw [show 2 * (k + 1) = 2 * k + 1 + 1 by omega] at h1
      simpa using h1
    · rw [show 2 * (k + 1) + 1 = 2 * k + 1 + 1 + 1 by omega] at h2
      simpa using h2
theorem up_last : ∀ (l : List Dig) (k : Nat) (a : Dig), l.length = 2 * k + 1 → l[2 * k]? = some a → (up l)[k]? = some a
  | [], _, _, h, _ => by simp at h
  | [x], 0, a, _, h => by simpa [up_one] using h
  | [x], k + 1, a, h, _ => by simp at h
  | x :: y :: l, 0, a, h, _ => by simp at h
  | x :: y :: l, k + 1, a, h, h1 => by
    rw [up_two, List.getElem?_cons_succ]
    refine up_last l k a (by simp only [List.length_cons] at h; omega) ?_
    rw [show 2 * (k + 1) = 2 * k + 1 + 1 by omega] at h1
    simpa using h1

/-! ### Roots -/
def rootF : Nat → List Dig → Dig
  | 0, _ => sumD
  | f + 1, l => match l with
    | [] => sumD
    | [x] => x
    | l => nodeD (rootF f (l.take (bel l.length))) (rootF f (l.drop (bel l.length)))
def rootR (l : List Dig) : Dig := rootF l.length l
theorem rootF_two (f : Nat) {l : List Dig} (h : 2 ≤ l.length) : rootF (f + 1) l = nodeD (rootF f (l.take (bel l.length))) (rootF f (l.drop (bel l.length))) := by
  match l, h with
  | x :: y :: l, _ => rfl
theorem rootF_fuel : ∀ (n : Nat) (f : Nat) (l : List Dig), l.length ≤ n → l.length ≤ f → rootF f l = rootF l.length l
  | 0, f, l, h, _ => by
    have : l = [] := List.eq_nil_of_length_eq_zero (by omega)
    subst this
    cases f <;> rfl
  | n + 1, f, l, h, hf => by
    match l, h, hf with
    | [], _, _ => cases f <;> rfl
    | [x], _, hf => cases f with
      | zero => simp at hf
      | succ f => rfl
    | x :: y :: l, h, hf =>
      obtain ⟨L, hL⟩ : ∃ L, L = x :: y :: l := ⟨_, rfl⟩
      rw [← hL] at h hf ⊢
      have h2 : 2 ≤ L.length := by rw [hL]; simp
      have hb := bel_lt h2
      have hp := bel_pos L.length
      obtain ⟨g, hg⟩ : ∃ g, f = g + 1 := ⟨f - 1, by omega⟩
      obtain ⟨m, hm⟩ : ∃ m, L.length = m + 1 := ⟨L.length - 1, by omega⟩
      have ht : (L.take (bel L.length)).length = bel L.length := by rw [List.length_take]; omega
      have hd : (L.drop (bel L.length)).length = L.length - bel L.length := List.length_drop
      conv => rhs; rw [hm]
      rw [hg, rootF_two g h2, rootF_two m h2]
      rw [rootF_fuel n g _ (by omega) (by omega), rootF_fuel n g _ (by omega) (by omega), rootF_fuel n m _ (by omega) (by omega), rootF_fuel n m (L.drop _) (by omega) (by omega)]
theorem rootR_nil : rootR [] = sumD := rfl
theorem rootR_one (x : Dig) : rootR [x] = x := rfl
theorem rootR_len1 {l : List Dig} (h : l.length = 1) {x : Dig} (hx : l[0]? = some x) : rootR l = x := by
  match l, h with
  | [y], _ => simpa [rootR_one] using hx
theorem rootR_split {l : List Dig} (h : 2 ≤ l.length) : rootR l = nodeD (rootR (l.take (bel l.length))) (rootR (l.drop (bel l.length))) := by
  have hb := bel_lt h
  have hp := bel_pos l.length
  obtain ⟨m, hm⟩ : ∃ m, l.length = m + 1 := ⟨l.length - 1, by omega⟩
  have ht : (l.take (bel l.length)).length = bel l.length := by rw [List.length_take]; omega
  have hd : (l.drop (bel l.length)).length = l.length - bel l.length := List.length_drop
  unfold rootR
  conv => lhs; rw [hm]
  rw [rootF_two m h, rootF_fuel m m _ (by omega) (by omega), rootF_fuel m m (l.drop _) (by omega) (by omega)]
/-- The level above has the same root. -/
theorem rootR_up : ∀ (n : Nat) (l : List Dig), l.length ≤ n → rootR (up l) = rootR l
  | 0, l, h => by
    have : l = [] := List.eq_nil_of_length_eq_zero (by omega)
    subst this; rfl
  | n + 1, l, h => by
    match l, h with
    | [], _ => rfl
    | [x], _ => rfl
    | [x, y], _ => rfl
    | x :: y :: z :: l, h =>
      obtain ⟨L, hL⟩ : ∃ L, L = x :: y :: z :: l := ⟨_, rfl⟩
      rw [← hL] at h ⊢
      have h3 : 3 ≤ L.length := by rw [hL]; simp
      have hb := bel_lt (show 2 ≤ L.length by omega)
      have hh := bel_half h3
      have he := bel_even h3
      have hg := bel_ge2 h3
      have hu := up_length L
      have e : bel (up L).length = bel L.length / 2 := by rw [hu]; omega
      rw [rootR_split (show 2 ≤ L.length by omega), rootR_split (show 2 ≤ (up L).length by omega), e, up_take (by omega) he, up_drop (by omega) he]
      rw [rootR_up n _ (by rw [List.length_take]; omega), rootR_up n _ (by rw [List.length_drop]; omega)]
theorem root_up (l : List Dig) : rootR (up l) = rootR l := rootR_up l.length l (Nat.le_refl _)

/-! ### Paths -/
def pathF : Nat → List Dig → Nat → List Dig
  | 0, _, _ => []
  | f + 1, l, i => if l.length ≤ 1 then [] else if i < bel l.length then pathF f (l.take (bel l.length)) i ++ [rootR (l.drop (bel l.length))] else pathF f (l.drop (bel l.length)) (i - bel l.length) ++ [rootR (l.take (bel l.length))]
def pathR (l : List Dig) (i : Nat) : List Dig := pathF l.length l i
theorem pathF_small (f : Nat) {l : List Dig} (i : Nat) (h : l.length ≤ 1) : pathF f l i = [] := by
  cases f with
  | zero => rfl
  | succ f => rw [pathF, if_pos h]
theorem pathF_succ (f : Nat) {l : List Dig} (i : Nat) (h : 2 ≤ l.length) : pathF (f + 1) l i = if i < bel l.length then pathF f (l.take (bel l.length)) i ++ [rootR (l.drop (bel l.length))] else pathF f (l.drop (bel l.length)) (i - bel l.length) ++ [rootR (l.take (bel l.length))] := by
  rw [pathF, if_neg (by omega)]
theorem pathF_fuel : ∀ (n f : Nat) (l : List Dig) (i : Nat), l.length ≤ n → l.length ≤ f → pathF f l i = pathF l.length l i
  | 0, f, l, i, h, _ => by
    have : l = [] := List.eq_nil_of_length_eq_zero (by omega)
    subst this
    cases f <;> simp [pathF]
  | n + 1, f, l, i, h, hf => by
    rcases Nat.lt_or_ge l.length 2 with h1 | h1
    · rw [pathF_small _ _ (by omega), pathF_small _ _ (by omega)]
    · have hb := bel_lt h1
      have hp := bel_pos l.length
      obtain ⟨g, hg⟩ : ∃ g, f = g + 1 := ⟨f - 1, by omega⟩
      obtain ⟨m, hm⟩ : ∃ m, l.length = m + 1 := ⟨l.length - 1, by omega⟩
      have ht : (l.take (bel l.length)).length = bel l.length := by rw [List.length_take]; omega
      have hd : (l.drop (bel l.length)).length = l.length - bel l.length := List.length_drop
      conv => rhs; rw [hm]
      rw [hg, pathF_succ g i h1, pathF_succ m i h1]
      rw [pathF_fuel n g (l.take (bel l.length)) i (by omega) (by omega), pathF_fuel n g (l.drop (bel l.length)) (i - bel l.length) (by omega) (by omega), pathF_fuel n m (l.take (bel l.length)) i (by omega) (by omega), pathF_fuel n m (l.drop (bel l.length)) (i - bel l.length) (by omega) (by omega)]
theorem pathR_small {l : List Dig} {i : Nat} (h : l.length ≤ 1) : pathR l i = [] := by
  unfold pathR
  cases hl : l.length with
  | zero => rfl
  | succ m => rw [pathF, if_pos (by omega)]
theorem pathR_split {l : List Dig} {i : Nat} (h : 2 ≤ l.length) : pathR l i = if i < bel l.length then pathR (l.take (bel l.length)) i ++ [rootR (l.drop (bel l.length))] else pathR (l.drop (bel l.length)) (i - bel l.length) ++ [rootR (l.take (bel l.length))] := by
  have hb := bel_lt h
  have hp := bel_pos l.length
  obtain ⟨m, hm⟩ : ∃ m, l.length = m + 1 := ⟨l.length - 1, by omega⟩
  have ht : (l.take (bel l.length)).length = bel l.length := by rw [List.length_take]; omega
  have hd : (l.drop (bel l.length)).length = l.length - bel l.length := List.length_drop
  unfold pathR
  conv => lhs; rw [hm]
  rw [pathF, if_neg (by omega), pathF_fuel m m (l.take (bel l.length)) i (by omega) (by omega), pathF_fuel m m (l.drop (bel l.length)) (i - bel l.length) (by omega) (by omega)]
theorem pathR_left {l : List Dig} {i : Nat} (h : 2 ≤ l.length) (hi : i < bel l.length) : pathR l i = pathR (l.take (bel l.length)) i ++ [rootR (l.drop (bel l.length))] := by rw [pathR_split h, if_pos hi]
theorem pathR_right {l : List Dig} {i : Nat} (h : 2 ≤ l.length) (hi : ¬ i < bel l.length) : pathR l i = pathR (l.drop (bel l.length)) (i - bel l.length) ++ [rootR (l.take (bel l.length))] := by rw [pathR_split h, if_neg hi]
/-- The other place of a pair. -/
def oth (i : Nat) : Nat := if i % 2 = 1 then i - 1 else i + 1
def sib (l : List Dig) (i : Nat) : List Dig := (l[oth i]?).toList
theorem pathR_up : ∀ (n : Nat) (l : List Dig) (i : Nat), l.length ≤ n → 2 ≤ l.length → i < l.length → pathR l i = sib l i ++ pathR (up l) (i / 2)
  | 0, l, i, h, h2, _ => by omega
  | n + 1, l, i, h, h2, hi => by
    rcases Nat.lt_or_ge l.length 3 with h3 | h3
    · match l, h2, h3 with
      | [x, y], _, _ =>
        rcases (by simp at hi; omega : i = 0 ∨ i = 1) with e | e <;> subst e <;> rfl
    · have hb := bel_spec h2
      have hh := bel_half h3
      have he := bel_even h3
      have hg := bel_ge2 h3
      have hu := up_length l
      have e : bel (up l).length = bel l.length / 2 := by rw [hu]; omega
      have ht : (l.take (bel l.length)).length = bel l.length := by rw [List.length_take]; omega
      have hd : (l.drop (bel l.length)).length = l.length - bel l.length := List.length_drop
      by_cases hl : i < bel l.length
      · rw [pathR_left h2 hl, pathR_left (show 2 ≤ (up l).length by omega) (by rw [e]; omega), e, up_take (by omega) he, up_drop (by omega) he, root_up]
        rw [pathR_up n _ i (by omega) (by omega) (by omega), List.append_assoc]
        congr 1
        unfold sib
        rw [List.getElem?_take, if_pos (by unfold oth; split <;> omega)]
      · rw [pathR_right h2 hl, pathR_right (show 2 ≤ (up l).length by omega) (by rw [e]; omega), e, up_take (by omega) he, up_drop (by omega) he, root_up]
        have hi2 : i / 2 - bel l.length / 2 = (i - bel l.length) / 2 := by omega
        rw [hi2]
        rcases Nat.lt_or_ge (l.length - bel l.length) 2 with h1 | h1
        · have e1 : i = bel l.length := by omega
          rw [pathR_small (show (l.drop (bel l.length)).length ≤ 1 by omega), pathR_small (show (up (l.drop (bel l.length))).length ≤ 1 by rw [up_length]; omega)]
          have : sib l i = [] := by
            unfold sib
            rw [List.getElem?_eq_none (by unfold oth; rw [if_neg (by omega)]; omega)]
            rfl
          rw [this]
          rfl
        · rw [pathR_up n _ (i - bel l.length) (by omega) (by omega) (by omega), List.append_assoc]
          congr 1
          unfold sib
          rw [List.getElem?_drop]
          congr 2
          unfold oth
          split <;> split <;> omega
theorem path_up {l : List Dig} {i : Nat} (h : 2 ≤ l.length) (hi : i < l.length) : pathR l i = sib l i ++ pathR (up l) (i / 2) := pathR_up l.length l i (Nat.le_refl _) h hi

/-! ### Lengths -/
def stepsF : Nat → Nat → Nat → Nat
  | 0, _, _ => 0
  | f + 1, i, n => if n ≤ 1 then 0 else if i < bel n then stepsF f i (bel n) + 1 else stepsF f (i - bel n) (n - bel n) + 1
def stepsR (i n : Nat) : Nat := stepsF n i n
theorem stepsF_small (f i : Nat) {n : Nat} (h : n ≤ 1) : stepsF f i n = 0 := by
  cases f with
  | zero => rfl
  | succ f => rw [stepsF, if_pos h]
theorem stepsF_succ (f i : Nat) {n : Nat} (h : 2 ≤ n) : stepsF (f + 1) i n = if i < bel n then stepsF f i (bel n) + 1 else stepsF f (i - bel n) (n - bel n) + 1 := by
  rw [stepsF, if_neg (by omega)]
theorem stepsF_fuel : ∀ (m f i n : Nat), n ≤ m → n ≤ f → stepsF f i n = stepsF n i n
  | 0, f, i, n, h, _ => by
    obtain rfl : n = 0 := by omega
    cases f <;> simp [stepsF]
  | m + 1, f, i, n, h, hf => by
    rcases Nat.lt_or_ge n 2 with h1 | h1
    · rw [stepsF_small _ _ (by omega), stepsF_small _ _ (by omega)]
    · have hb := bel_lt h1
      have hp := bel_pos n
      obtain ⟨g, hg⟩ : ∃ g, f = g + 1 := ⟨f - 1, by omega⟩
      obtain ⟨k, hk⟩ : ∃ k, n = k + 1 := ⟨n - 1, by omega⟩
      have e : stepsF n i n = stepsF (k + 1) i n := by rw [hk]
      rw [e, hg, stepsF_succ g i h1, stepsF_succ k i h1]
      rw [stepsF_fuel m g i (bel n) (by omega) (by omega), stepsF_fuel m g (i - bel n) (n - bel n) (by omega) (by omega), stepsF_fuel m k i (bel n) (by omega) (by omega), stepsF_fuel m k (i - bel n) (n - bel n) (by omega) (by omega)]
theorem stepsR_small {i n : Nat} (h : n ≤ 1) : stepsR i n = 0 := by
  unfold stepsR
  cases n with
  | zero => rfl
  | succ n => rw [stepsF, if_pos (by omega)]
theorem stepsR_split {i n : Nat} (h : 2 ≤ n) : stepsR i n = if i < bel n then stepsR i (bel n) + 1 else stepsR (i - bel n) (n - bel n) + 1 := by
  have hb := bel_lt h
  have hp := bel_pos n
  obtain ⟨k, hk⟩ : ∃ k, n = k + 1 := ⟨n - 1, by omega⟩
  have e : stepsR i n = stepsF (k + 1) i n := by unfold stepsR; rw [hk]
  rw [e, stepsF, if_neg (by omega)]
  unfold stepsR
  rw [stepsF_fuel k k i (bel n) (by omega) (by omega), stepsF_fuel k k (i - bel n) (n - bel n) (by omega) (by omega)]
theorem stepsR_left {i n : Nat} (h : 2 ≤ n) (hi : i < bel n) : stepsR i n = stepsR i (bel n) + 1 := by rw [stepsR_split h, if_pos hi]
theorem stepsR_right {i n : Nat} (h : 2 ≤ n) (hi : ¬ i < bel n) : stepsR i n = stepsR (i - bel n) (n - bel n) + 1 := by rw [stepsR_split h, if_neg hi]
theorem pathR_length : ∀ (m : Nat) (l : List Dig) (i : Nat), l.length ≤ m → (pathR l i).length = stepsR i l.length
  | 0, l, i, h => by rw [pathR_small (by omega), stepsR_small (by omega)]; rfl
  | m + 1, l, i, h => by
    rcases Nat.lt_or_ge l.length 2 with h1 | h1
    · rw [pathR_small (by omega), stepsR_small (by omega)]; rfl
    · have hb := bel_lt h1
      have hp := bel_pos l.length
      have ht : (l.take (bel l.length)).length = bel l.length := by rw [List.length_take]; omega
      have hd : (l.drop (bel l.length)).length = l.length - bel l.length := List.length_drop
      rw [pathR_split h1, stepsR_split h1]
      split
      · rw [List.length_append, pathR_length m _ i (by omega), ht]; rfl
      · rw [List.length_append, pathR_length m _ _ (by omega), hd]; rfl
theorem path_length (l : List Dig) (i : Nat) : (pathR l i).length = stepsR i l.length := pathR_length l.length l i (Nat.le_refl _)
/-- Whether there is a sibling. -/
def isT (i n : Nat) : Bool := decide (i % 2 = 1 ∨ i + 1 < n)
theorem stepsR_up : ∀ (m n i : Nat), n ≤ m → 2 ≤ n → i < n → stepsR i n = (if isT i n then 1 else 0) + stepsR (i / 2) ((n + 1) / 2)
  | 0, n, i, h, h2, _ => by omega
  | m + 1, n, i, h, h2, hi => by
    rcases Nat.lt_or_ge n 3 with h3 | h3
    · obtain rfl : n = 2 := by omega
      rcases (by omega : i = 0 ∨ i = 1) with e | e <;> subst e <;> decide
    · have hb := bel_spec h2
      have hh := bel_half h3
      have he := bel_even h3
      have hg := bel_ge2 h3
      have e : bel ((n + 1) / 2) = bel n / 2 := by omega
      by_cases hl : i < bel n
      · rw [stepsR_left h2 hl, stepsR_left (show 2 ≤ (n + 1) / 2 by omega) (by omega), stepsR_up m (bel n) i (by omega) (by omega) hl]
        have e2 : (bel n + 1) / 2 = bel ((n + 1) / 2) := by omega
        have e3 : isT i (bel n) = isT i n := by unfold isT; congr 1; apply propext; omega
        rw [e2, e3]
        omega
      · rw [stepsR_right h2 hl, stepsR_right (show 2 ≤ (n + 1) / 2 by omega) (by omega)]
        have hi2 : i / 2 - bel ((n + 1) / 2) = (i - bel n) / 2 := by omega
        have hn2 : (n + 1) / 2 - bel ((n + 1) / 2) = (n - bel n + 1) / 2 := by omega
        rw [hi2, hn2]
        rcases Nat.lt_or_ge (n - bel n) 2 with h1 | h1
        · rw [stepsR_small (show n - bel n ≤ 1 by omega), stepsR_small (show (n - bel n + 1) / 2 ≤ 1 by omega)]
          have : isT i n = false := by unfold isT; exact decide_eq_false (by omega)
          rw [this]; rfl
        · rw [stepsR_up m (n - bel n) (i - bel n) (by omega) h1 (by omega)]
          have e3 : isT (i - bel n) (n - bel n) = isT i n := by unfold isT; congr 1; apply propext; omega
          rw [e3]
          omega
theorem steps_up {i n : Nat} (h : 2 ≤ n) (hi : i < n) : stepsR i n = (if isT i n then 1 else 0) + stepsR (i / 2) ((n + 1) / 2) := stepsR_up n n i (Nat.le_refl _) h hi

/-! ### Following -/
def ledF : Nat → Dig → Nat → Nat → List Dig → Dig
  | 0, x, _, _, _ => x
  | f + 1, x, i, n, p => if n ≤ 1 then x else if i < bel n then nodeD (ledF f x i (bel n) p.dropLast) (p.getLastD zeroD) else nodeD (p.getLastD zeroD) (ledF f x (i - bel n) (n - bel n) p.dropLast)
def ledR (x : Dig) (i n : Nat) (p : List Dig) : Dig := ledF n x i n p
theorem ledF_small (f : Nat) (x : Dig) (i : Nat) {n : Nat} (p : List Dig) (h : n ≤ 1) : ledF f x i n p = x := by
  cases f with
  | zero => rfl
  | succ f => rw [ledF, if_pos h]
theorem ledF_succ (f : Nat) (x : Dig) (i : Nat) {n : Nat} (p : List Dig) (h : 2 ≤ n) : ledF (f + 1) x i n p = if i < bel n then nodeD (ledF f x i (bel n) p.dropLast) (p.getLastD zeroD) else nodeD (p.getLastD zeroD) (ledF f x (i - bel n) (n - bel n) p.dropLast) := by
  rw [ledF, if_neg (by omega)]
theorem ledF_fuel : ∀ (m f i n : Nat) (x : Dig) (p : List Dig), n ≤ m → n ≤ f → ledF f x i n p = ledF n x i n p
  | 0, f, i, n, x, p, h, _ => by
    obtain rfl : n = 0 := by omega
    cases f <;> simp [ledF]
  | m + 1, f, i, n, x, p, h, hf => by
    rcases Nat.lt_or_ge n 2 with h1 | h1
    · rw [ledF_small _ _ _ _ (by omega), ledF_small _ _ _ _ (by omega)]
    · have hb := bel_lt h1
      have hp := bel_pos n
      obtain ⟨g, hg⟩ : ∃ g, f = g + 1 := ⟨f - 1, by omega⟩
      obtain ⟨k, hk⟩ : ∃ k, n = k + 1 := ⟨n - 1, by omega⟩
      have e : ledF n x i n p = ledF (k + 1) x i n p := by rw [hk]
      rw [e, hg, ledF_succ g x i p h1, ledF_succ k x i p h1]
      rw [ledF_fuel m g i (bel n) _ _ (by omega) (by omega), ledF_fuel m g (i - bel n) (n - bel n) _ _ (by omega) (by omega), ledF_fuel m k i (bel n) _ _ (by omega) (by omega), ledF_fuel m k (i - bel n) (n - bel n) _ _ (by omega) (by omega)]
theorem ledR_small {x : Dig} {i n : Nat} {p : List Dig} (h : n ≤ 1) : ledR x i n p = x := by
  unfold ledR
  cases n with
  | zero => rfl
  | succ n => rw [ledF, if_pos (by omega)]
theorem ledR_split {x : Dig} {i n : Nat} {p : List Dig} (h : 2 ≤ n) : ledR x i n p = if i < bel n then nodeD (ledR x i (bel n) p.dropLast) (p.getLastD zeroD) else nodeD (p.getLastD zeroD) (ledR x (i - bel n) (n - bel n) p.dropLast) := by
  have hb := bel_lt h
  have hp := bel_pos n
  obtain ⟨k, hk⟩ : ∃ k, n = k + 1 := ⟨n - 1, by omega⟩
  have e : ledR x i n p = ledF (k + 1) x i n p := by unfold ledR; rw [hk]
  rw [e, ledF, if_neg (by omega)]
  unfold ledR
  rw [ledF_fuel k k i (bel n) _ _ (by omega) (by omega), ledF_fuel k k (i - bel n) (n - bel n) _ _ (by omega) (by omega)]
theorem ledR_left {x y : Dig} {i n : Nat} {p : List Dig} (h : 2 ≤ n) (hi : i < bel n) : ledR x i n (p ++ [y]) = nodeD (ledR x i (bel n) p) y := by rw [ledR_split h, if_pos hi]; simp
theorem ledR_right {x y : Dig} {i n : Nat} {p : List Dig} (h : 2 ≤ n) (hi : ¬ i < bel n) : ledR x i n (p ++ [y]) = nodeD y (ledR x (i - bel n) (n - bel n) p) := by rw [ledR_split h, if_neg hi]; simp
/-- One pair hashed. -/
def stepD (i : Nat) (x y : Dig) : Dig := if i % 2 = 1 then nodeD y x else nodeD x y
theorem ends_ex {α : Type} {p : List α} {k : Nat} (h : p.length = k + 1) : ∃ q y, p = q ++ [y] ∧ q.length = k := by
  have hne : p ≠ [] := fun e => by rw [e] at h; simp at h
  exact ⟨p.dropLast, p.getLast hne, (List.dropLast_concat_getLast hne).symm, by rw [List.length_dropLast]; omega⟩
theorem ledR_up : ∀ (m n i : Nat) (x : Dig) (p : List Dig), n ≤ m → 2 ≤ n → i < n → p.length = stepsR i n →
    (isT i n = true → ∀ y q, p = y :: q → ledR x i n p = ledR (stepD i x y) (i / 2) ((n + 1) / 2) q) ∧ (isT i n = false → ledR x i n p = ledR x (i / 2) ((n + 1) / 2) p)
  | 0, n, i, x, p, h, h2, _, _ => by omega
  | m + 1, n, i, x, p, h, h2, hi, hp => by
    rcases Nat.lt_or_ge n 3 with h3 | h3
    · obtain rfl : n = 2 := by omega
      rcases (by omega : i = 0 ∨ i = 1) with e | e
      · subst e
        refine ⟨fun _ y q hq => ?_, fun h => absurd h (by decide)⟩
        subst hq
        have hs2 : stepsR 0 2 = 1 := by decide
        have hq0 : q = [] := List.eq_nil_of_length_eq_zero (by simp only [List.length_cons] at hp; omega)
        subst hq0
        rw [ledR_split (by decide), bel_two, if_pos (by decide), ledR_small (by decide), ledR_small (by decide)]
        rfl
      · subst e
        refine ⟨fun _ y q hq => ?_, fun h => absurd h (by decide)⟩
        subst hq
        have hs2 : stepsR 1 2 = 1 := by decide
        have hq0 : q = [] := List.eq_nil_of_length_eq_zero (by simp only [List.length_cons] at hp; omega)
        subst hq0
        rw [ledR_split (by decide), bel_two, if_neg (by decide), ledR_small (by decide), ledR_small (by decide)]
        rfl
    · have hb := bel_spec h2
      have hh := bel_half h3
      have he := bel_even h3
      have hg := bel_ge2 h3
      have e : bel ((n + 1) / 2) = bel n / 2 := by omega
      have h22 : 2 ≤ (n + 1) / 2 := by omega
      by_cases hl : i < bel n
      · rw [stepsR_left h2 hl] at hp
        obtain ⟨q, z, rfl, hq⟩ := ends_ex hp
        have e2 : (bel n + 1) / 2 = bel ((n + 1) / 2) := by omega
        have e3 : isT i (bel n) = isT i n := by unfold isT; congr 1; apply propext; omega
        have hT : isT i n = true := by unfold isT; exact decide_eq_true (by omega)
        obtain ⟨ih1, _⟩ := ledR_up m (bel n) i x q (by omega) (by omega) hl hq
        refine ⟨fun h y r hr => ?_, fun h => absurd h (by rw [hT]; decide)⟩
        have hs := steps_up (show 2 ≤ bel n by omega) hl
        rw [e3, hT, if_pos rfl] at hs
        cases q with
        | nil => simp at hq; omega
        | cons y' q =>
          simp only [List.cons_append, List.cons.injEq] at hr
          obtain ⟨rfl, rfl⟩ := hr
          rw [ledR_left h2 hl, ih1 (by rw [e3]; exact h) y' q rfl, e2, ledR_left h22 (by omega)]
      · rw [stepsR_right h2 hl] at hp
        obtain ⟨q, z, rfl, hq⟩ := ends_ex hp
        have hi2 : i / 2 - bel ((n + 1) / 2) = (i - bel n) / 2 := by omega
        have hn2 : (n + 1) / 2 - bel ((n + 1) / 2) = (n - bel n + 1) / 2 := by omega
        rcases Nat.lt_or_ge (n - bel n) 2 with h1 | h1
        · have hF : isT i n = false := by unfold isT; exact decide_eq_false (by omega)
          refine ⟨fun h => absurd h (by rw [hF]; decide), fun _ => ?_⟩
          rw [ledR_right h2 hl, ledR_right h22 (by omega), hi2, hn2, ledR_small (show n - bel n ≤ 1 by omega), ledR_small (show (n - bel n + 1) / 2 ≤ 1 by omega)]
        · have e3 : isT (i - bel n) (n - bel n) = isT i n := by unfold isT; congr 1; apply propext; omega
          obtain ⟨ih1, ih2⟩ := ledR_up m (n - bel n) (i - bel n) x q (by omega) h1 (by omega) hq
          refine ⟨fun h y r hr => ?_, fun h => ?_⟩
          · have hs := steps_up h1 (show i - bel n < n - bel n by omega)
            rw [e3, h, if_pos rfl] at hs
            cases q with
            | nil => simp at hq; omega
            | cons y' q =>
              simp only [List.cons_append, List.cons.injEq] at hr
              obtain ⟨rfl, rfl⟩ := hr
              have es : stepD (i - bel n) x y' = stepD i x y' := by unfold stepD; rw [show (i - bel n) % 2 = i % 2 by omega]
              rw [ledR_right h2 hl, ih1 (by rw [e3]; exact h) y' q rfl, ledR_right h22 (by omega), hi2, hn2, es]
          · rw [ledR_right h2 hl, ih2 (by rw [e3]; exact h), ledR_right h22 (by omega), hi2, hn2]
theorem led_yes {n i : Nat} {x y : Dig} {q : List Dig} (h2 : 2 ≤ n) (hi : i < n) (hp : (y :: q).length = stepsR i n) (hT : isT i n = true) : ledR x i n (y :: q) = ledR (stepD i x y) (i / 2) ((n + 1) / 2) q :=
  (ledR_up n n i x (y :: q) (Nat.le_refl _) h2 hi hp).1 hT y q rfl
theorem led_no {n i : Nat} {x : Dig} {p : List Dig} (h2 : 2 ≤ n) (hi : i < n) (hp : p.length = stepsR i n) (hT : isT i n = false) : ledR x i n p = ledR x (i / 2) ((n + 1) / 2) p :=
  (ledR_up n n i x p (Nat.le_refl _) h2 hi hp).2 hT
/-- Following the path of a leaf gives the root. -/
theorem led_path : ∀ (m : Nat) (l : List Dig) (i : Nat) (x : Dig), l.length ≤ m → l[i]? = some x → ledR x i l.length (pathR l i) = rootR l
  | 0, l, i, x, h, hx => by
    have : l = [] := List.eq_nil_of_length_eq_zero (by omega)
    subst this; simp at hx
  | m + 1, l, i, x, h, hx => by
    have hi : i < l.length := (List.getElem?_eq_some_iff.1 hx).1
    rcases Nat.lt_or_ge l.length 2 with h1 | h1
    · obtain rfl : i = 0 := by omega
      rw [ledR_small (by omega), rootR_len1 (by omega) hx]
    · have hb := bel_lt h1
      have hp := bel_pos l.length
      have ht : (l.take (bel l.length)).length = bel l.length := by rw [List.length_take]; omega
      have hd : (l.drop (bel l.length)).length = l.length - bel l.length := List.length_drop
      by_cases hl : i < bel l.length
      · have ih := led_path m (l.take (bel l.length)) i x (by omega) (by rw [List.getElem?_take, if_pos hl]; exact hx)
        rw [ht] at ih
        rw [pathR_left h1 hl, ledR_left h1 hl, ih, rootR_split h1]
      · have ih := led_path m (l.drop (bel l.length)) (i - bel l.length) x (by omega) (by rw [List.getElem?_drop, show bel l.length + (i - bel l.length) = i by omega]; exact hx)
        rw [hd] at ih
        rw [pathR_right h1 hl, ledR_right h1 hl, ih, rootR_split h1]
theorem led_of_path {l : List Dig} {i : Nat} {x : Dig} (hx : l[i]? = some x) : ledR x i l.length (pathR l i) = rootR l := led_path l.length l i x (Nat.le_refl _) hx
/-- A path does not depend on its leaf. -/
theorem path_set : ∀ (m : Nat) (l : List Dig) (i : Nat) (x : Dig), l.length ≤ m → pathR (l.set i x) i = pathR l i
  | 0, l, i, x, h => by rw [pathR_small (by rw [List.length_set]; omega), pathR_small (by omega)]
  | m + 1, l, i, x, h => by
    rcases Nat.lt_or_ge l.length 2 with h1 | h1
    · rw [pathR_small (by rw [List.length_set]; omega), pathR_small (by omega)]
    · have hb := bel_lt h1
      have hp := bel_pos l.length
      have h1' : 2 ≤ (l.set i x).length := by rw [List.length_set]; exact h1
      by_cases hl : i < bel l.length
      · rw [pathR_left h1' (by rw [List.length_set]; exact hl), pathR_left h1 hl, List.length_set, List.take_set, List.drop_set_of_lt hl, path_set m _ i x (by rw [List.length_take]; omega)]
      · rw [pathR_right h1' (by rw [List.length_set]; exact hl), pathR_right h1 hl, List.length_set, List.take_set_of_le (by omega), List.drop_set, if_neg hl, path_set m _ _ x (by rw [List.length_drop]; omega)]
theorem path_of_set (l : List Dig) (i : Nat) (x : Dig) : pathR (l.set i x) i = pathR l i := path_set l.length l i x (Nat.le_refl _)

/-! ### Halving, so many times -/
def it {α : Type} (f : α → α) : Nat → α → α
  | 0, x => x
  | k + 1, x => f (it f k x)
theorem it_shift {α : Type} (f : α → α) : ∀ (k : Nat) (x : α), it f (k + 1) x = it f k (f x)
  | 0, _ => rfl
  | k + 1, x => by
    show f (it f (k + 1) x) = f (it f k (f x))
    rw [it_shift f k x]
def hn (n k : Nat) : Nat := it (fun n => (n + 1) / 2) k n
def lgF : Nat → Nat → Nat
  | 0, _ => 0
  | f + 1, n => if n ≤ 1 then 0 else lgF f ((n + 1) / 2) + 1
def lg (n : Nat) : Nat := lgF n n
theorem hn_succ (n k : Nat) : hn n (k + 1) = (hn n k + 1) / 2 := rfl
theorem hn_shift (n k : Nat) : hn n (k + 1) = hn ((n + 1) / 2) k := it_shift _ k n
theorem lgF_spec : ∀ (f n : Nat), n ≤ f → (∀ k, k < lgF f n → 1 < hn n k) ∧ hn n (lgF f n) ≤ 1
  | 0, n, h => ⟨fun k hk => absurd hk (Nat.not_lt_zero _), by show n ≤ 1; omega⟩
  | f + 1, n, h => by
    by_cases h1 : n ≤ 1
    · rw [lgF, if_pos h1]
      exact ⟨fun k hk => absurd hk (Nat.not_lt_zero _), h1⟩
    · obtain ⟨i1, i2⟩ := lgF_spec f ((n + 1) / 2) (by omega)
      rw [lgF, if_neg h1]
      refine ⟨fun k hk => ?_, by rw [hn_shift]; exact i2⟩
      cases k with
      | zero => show 1 < n; omega
      | succ k => rw [hn_shift]; exact i1 k (by omega)
theorem lg_lt {n k : Nat} (h : k < lg n) : 1 < hn n k := (lgF_spec n n (Nat.le_refl _)).1 k h
theorem lg_end (n : Nat) : hn n (lg n) ≤ 1 := (lgF_spec n n (Nat.le_refl _)).2
theorem hn_pos {n : Nat} (h : 1 ≤ n) : ∀ k, 1 ≤ hn n k
  | 0 => h
  | k + 1 => by rw [hn_succ]; have := hn_pos h k; omega
theorem hn_le (n : Nat) (h : 1 ≤ n) : ∀ k, hn n k ≤ n
  | 0 => Nat.le_refl _
  | k + 1 => by rw [hn_succ]; have := hn_le n h k; have := hn_pos h k; omega
theorem lg_of {n k : Nat} (h : 1 < hn n k) (hk : k ≤ lg n) : k < lg n := by
  rcases Nat.lt_or_ge k (lg n) with h1 | h1
  · exact h1
  · obtain rfl : k = lg n := by omega
    have := lg_end n
    omega
theorem lg_eq {n k : Nat} (h : ¬ 1 < hn n k) (hk : k ≤ lg n) : k = lg n := by
  rcases Nat.lt_or_ge k (lg n) with h1 | h1
  · exact absurd (lg_lt h1) h
  · omega
def lv (l : List Dig) (k : Nat) : List Dig := it up k l
theorem lv_zero (l : List Dig) : lv l 0 = l := rfl
theorem lv_succ (l : List Dig) (k : Nat) : lv l (k + 1) = up (lv l k) := rfl
theorem lv_length (l : List Dig) : ∀ k, (lv l k).length = hn l.length k
  | 0 => rfl
  | k + 1 => by rw [lv_succ, up_length, lv_length l k]; rfl
theorem lv_root (l : List Dig) : ∀ k, rootR (lv l k) = rootR l
  | 0 => rfl
  | k + 1 => by rw [lv_succ, root_up, lv_root l k]
theorem lv_le (l : List Dig) : ∀ k, (lv l k).length ≤ l.length
  | 0 => Nat.le_refl _
  | k + 1 => by
    have := lv_le l k
    rw [lv_succ, up_length]
    omega
theorem hi_lt {i n : Nat} (h : i < n) : ∀ k, i / 2 ^ k < hn n k
  | 0 => by rw [Nat.pow_zero, Nat.div_one]; exact h
  | k + 1 => by
    have := hi_lt h k
    rw [Nat.pow_succ, ← Nat.div_div_eq_div_mul, hn_succ]
    omega
theorem div_pow_succ (i k : Nat) : i / 2 ^ (k + 1) = i / 2 ^ k / 2 := by rw [Nat.pow_succ, Nat.div_div_eq_div_mul]
def dv (i k : Nat) : Nat := it (fun i => i / 2) k i
theorem dv_succ (i k : Nat) : dv i (k + 1) = dv i k / 2 := rfl
theorem dv_lt {i n : Nat} (h : i < n) : ∀ k, dv i k < hn n k
  | 0 => h
  | k + 1 => by
    have := dv_lt h k
    rw [dv_succ, hn_succ]
    omega
end Go.Proofs.YtebinlinhmohbaaDoor
