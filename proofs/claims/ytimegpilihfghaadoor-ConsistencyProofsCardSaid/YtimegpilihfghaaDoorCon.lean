/-
  The plain law of consistency proofs and of peaks.
-/
import Derived.Test.YtimegpilihfghaaDoorTree
namespace Go.Proofs.YtimegpilihfghaaDoor
open Go

theorem bel_same {n m : Nat} (h2 : 2 ≤ n) (h : bel n < m) (hm : m ≤ n) : bel m = bel n := by
  have := bel_spec h2
  have e : bel n = 2 ^ Nat.log2 (n - 1) := rfl
  rw [e] at h this ⊢
  exact bel_of h (by rw [Nat.pow_succ]; omega)
theorem bel_le {n : Nat} (h : 1 ≤ n) : bel (n + 1) ≤ n := by have := bel_lt (n := n + 1) (by omega); omega
theorem bel_top {n : Nat} (h : 1 ≤ n) : n + 1 ≤ 2 * bel (n + 1) := (bel_spec (n := n + 1) (by omega)).2

/-- The proof of the first m leaves of a list. -/
def proofR (l : List Dig) (m : Nat) (fr : Bool) : List Dig :=
  if h : m = l.length ∨ l.length < 2 then (if fr then [] else [rootR l])
  else if m ≤ bel l.length then proofR (l.take (bel l.length)) m fr ++ [rootR (l.drop (bel l.length))]
  else proofR (l.drop (bel l.length)) (m - bel l.length) false ++ [rootR (l.take (bel l.length))]
  termination_by l.length
  decreasing_by
    · have := bel_lt (n := l.length) (by omega); rw [List.length_take]; omega
    · have := bel_pos l.length; rw [List.length_drop]; omega
theorem proofR_top {l : List Dig} {m : Nat} {fr : Bool} (h : m = l.length) : proofR l m fr = if fr then [] else [rootR l] := by
  rw [proofR, dif_pos (.inl h)]
theorem proofR_left {l : List Dig} {m : Nat} {fr : Bool} (h1 : 1 ≤ m) (h : m < l.length) (hk : m ≤ bel l.length) : proofR l m fr = proofR (l.take (bel l.length)) m fr ++ [rootR (l.drop (bel l.length))] := by
  rw [proofR, dif_neg (by omega), if_pos hk]
theorem proofR_right {l : List Dig} {m : Nat} {fr : Bool} (h1 : 1 ≤ m) (h : m < l.length) (hk : ¬ m ≤ bel l.length) : proofR l m fr = proofR (l.drop (bel l.length)) (m - bel l.length) false ++ [rootR (l.take (bel l.length))] := by
  rw [proofR, dif_neg (by omega), if_neg hk]

/-- Its length. -/
def stepsC (m n : Nat) (fr : Bool) : Nat :=
  if h : m = n ∨ n < 2 then (if fr then 0 else 1) else if m ≤ bel n then stepsC m (bel n) fr + 1 else stepsC (m - bel n) (n - bel n) false + 1
  termination_by n
  decreasing_by
    · exact bel_lt (by omega)
    · have := bel_pos n; omega
theorem stepsC_top {m n : Nat} {fr : Bool} (h : m = n) : stepsC m n fr = if fr then 0 else 1 := by rw [stepsC, dif_pos (.inl h)]
theorem stepsC_left {m n : Nat} {fr : Bool} (h1 : 1 ≤ m) (h : m < n) (hk : m ≤ bel n) : stepsC m n fr = stepsC m (bel n) fr + 1 := by rw [stepsC, dif_neg (by omega), if_pos hk]
theorem stepsC_right {m n : Nat} {fr : Bool} (h1 : 1 ≤ m) (h : m < n) (hk : ¬ m ≤ bel n) : stepsC m n fr = stepsC (m - bel n) (n - bel n) false + 1 := by rw [stepsC, dif_neg (by omega), if_neg hk]

/-- Following a proof: the old root and the new one. -/
def ledC (m n : Nat) (fr : Bool) (was : Dig) (p : List Dig) : Dig × Dig :=
  if h : m = n ∨ n < 2 then (if fr then (was, was) else (p.headD zeroD, p.headD zeroD))
  else if m ≤ bel n then ((ledC m (bel n) fr was p.dropLast).1, nodeD (ledC m (bel n) fr was p.dropLast).2 (p.getLastD zeroD))
  else (nodeD (p.getLastD zeroD) (ledC (m - bel n) (n - bel n) false was p.dropLast).1, nodeD (p.getLastD zeroD) (ledC (m - bel n) (n - bel n) false was p.dropLast).2)
  termination_by n
  decreasing_by
    all_goals first | exact bel_lt (by omega) | (have := bel_pos n; omega)
theorem ledC_top {m n : Nat} {fr : Bool} {was : Dig} {p : List Dig} (h : m = n) : ledC m n fr was p = if fr then (was, was) else (p.headD zeroD, p.headD zeroD) := by rw [ledC, dif_pos (.inl h)]
theorem ledC_left {m n : Nat} {fr : Bool} {was y : Dig} {p : List Dig} (h1 : 1 ≤ m) (h : m < n) (hk : m ≤ bel n) : ledC m n fr was (p ++ [y]) = ((ledC m (bel n) fr was p).1, nodeD (ledC m (bel n) fr was p).2 y) := by
  rw [ledC, dif_neg (by omega), if_pos hk]; simp
theorem ledC_right {m n : Nat} {fr : Bool} {was y : Dig} {p : List Dig} (h1 : 1 ≤ m) (h : m < n) (hk : ¬ m ≤ bel n) : ledC m n fr was (p ++ [y]) = (nodeD y (ledC (m - bel n) (n - bel n) false was p).1, nodeD y (ledC (m - bel n) (n - bel n) false was p).2) := by
  rw [ledC, dif_neg (by omega), if_neg hk]; simp

theorem proof_steps : ∀ (f : Nat) (l : List Dig) (m : Nat) (fr : Bool), l.length ≤ f → 1 ≤ m → m ≤ l.length → (proofR l m fr).length = stepsC m l.length fr
  | 0, l, m, fr, hf, h1, hm => by omega
  | f + 1, l, m, fr, hf, h1, hm => by
    by_cases he : m = l.length
    · rw [proofR_top he, stepsC_top he]; cases fr <;> rfl
    · have h2 : 2 ≤ l.length := by omega
      have hb := bel_lt h2
      have hp := bel_pos l.length
      have ht : (l.take (bel l.length)).length = bel l.length := by rw [List.length_take]; omega
      have hd : (l.drop (bel l.length)).length = l.length - bel l.length := List.length_drop
      by_cases hk : m ≤ bel l.length
      · rw [proofR_left h1 (by omega) hk, stepsC_left h1 (by omega) hk, List.length_append, proof_steps f _ m fr (by omega) h1 (by omega), ht]; rfl
      · rw [proofR_right h1 (by omega) hk, stepsC_right h1 (by omega) hk, List.length_append, proof_steps f _ (m - bel l.length) false (by omega) (by omega) (by omega), hd]; rfl
theorem proof_length {l : List Dig} {m : Nat} (h1 : 1 ≤ m) (hm : m ≤ l.length) : (proofR l m true).length = stepsC m l.length true := proof_steps l.length l m true (Nat.le_refl _) h1 hm
theorem stepsC_le : ∀ (f m n : Nat) (fr : Bool), n ≤ f → 1 ≤ m → m ≤ n → stepsC m n fr ≤ n
  | 0, m, n, fr, hf, h1, hm => by omega
  | f + 1, m, n, fr, hf, h1, hm => by
    by_cases he : m = n
    · rw [stepsC_top he]; split <;> omega
    · have hb := bel_lt (n := n) (by omega)
      have hp := bel_pos n
      by_cases hk : m ≤ bel n
      · rw [stepsC_left h1 (by omega) hk]
        have := stepsC_le f m (bel n) fr (by omega) h1 hk
        omega
      · rw [stepsC_right h1 (by omega) hk]
        have := stepsC_le f (m - bel n) (n - bel n) false (by omega) (by omega) (by omega)
        omega

/-- The root of a part of a list that passes the half. -/
theorem root_take {l : List Dig} {m : Nat} (h2 : 2 ≤ l.length) (hk : bel l.length < m) (hm : m ≤ l.length) : rootR (l.take m) = nodeD (rootR (l.take (bel l.length))) (rootR ((l.drop (bel l.length)).take (m - bel l.length))) := by
  have hp := bel_pos l.length
  have hl : (l.take m).length = m := by rw [List.length_take]; omega
  rw [rootR_split (l := l.take m) (by omega), hl, bel_same h2 hk hm, List.take_take, Nat.min_eq_left (by omega), List.drop_take]
theorem led_proof : ∀ (f : Nat) (l : List Dig) (m : Nat) (fr : Bool) (was : Dig), l.length ≤ f → 1 ≤ m → m ≤ l.length → (fr = true → was = rootR (l.take m)) → ledC m l.length fr was (proofR l m fr) = (rootR (l.take m), rootR l)
  | 0, l, m, fr, was, hf, h1, hm, _ => by omega
  | f + 1, l, m, fr, was, hf, h1, hm, hw => by
    by_cases he : m = l.length
    · rw [ledC_top he, proofR_top he]
      have e1 : l.take m = l := by rw [he]; exact List.take_length
      rw [e1]
      cases fr with
      | true => rw [hw rfl, e1]; rfl
      | false => rfl
    · have h2 : 2 ≤ l.length := by omega
      have hb := bel_lt h2
      have hp := bel_pos l.length
      have ht : (l.take (bel l.length)).length = bel l.length := by rw [List.length_take]; omega
      have hd : (l.drop (bel l.length)).length = l.length - bel l.length := List.length_drop
      by_cases hk : m ≤ bel l.length
      · have e1 : (l.take (bel l.length)).take m = l.take m := by rw [List.take_take, Nat.min_eq_left hk]
        have h3 := led_proof f (l.take (bel l.length)) m fr was (by omega) h1 (by omega) (by rw [e1]; exact hw)
        rw [ht, e1] at h3
        rw [proofR_left h1 (by omega) hk, ledC_left h1 (by omega) hk, h3, ← rootR_split h2]
      · have h3 := led_proof f (l.drop (bel l.length)) (m - bel l.length) false was (by omega) (by omega) (by omega) (fun h => by cases h)
        rw [hd] at h3
        rw [proofR_right h1 (by omega) hk, ledC_right h1 (by omega) hk, h3, ← rootR_split h2, ← root_take h2 (by omega) hm]
theorem led_of_proof {l : List Dig} {m : Nat} (h1 : 1 ≤ m) (hm : m ≤ l.length) : ledC m l.length true (rootR (l.take m)) (proofR l m true) = (rootR (l.take m), rootR l) :=
  led_proof l.length l m true _ (Nat.le_refl _) h1 hm fun _ => rfl

/-! ### Peaks -/
def overR (l : List Dig) : List Dig :=
  if h : l.length = 0 then [] else rootR (l.take (bel (l.length + 1))) :: overR (l.drop (bel (l.length + 1)))
  termination_by l.length
  decreasing_by
    have := bel_pos (l.length + 1); rw [List.length_drop]; omega
theorem overR_nil : overR [] = [] := by
  rw [overR]
  exact dif_pos rfl
theorem overR_cons {l : List Dig} (h : 1 ≤ l.length) : overR l = rootR (l.take (bel (l.length + 1))) :: overR (l.drop (bel (l.length + 1))) := by rw [overR, dif_neg (by omega)]
def onesR (n : Nat) : Nat :=
  if h : n = 0 then 0 else n % 2 + onesR (n / 2)
  termination_by n
  decreasing_by omega
theorem onesR_zero : onesR 0 = 0 := by rw [onesR, dif_pos rfl]
theorem onesR_pos {n : Nat} (h : n ≠ 0) : onesR n = n % 2 + onesR (n / 2) := by rw [onesR, dif_neg h]
def withR (p : List Dig) (n : Nat) (x : Dig) : List Dig :=
  if h : n % 2 = 0 then p ++ [x] else withR p.dropLast (n / 2) (nodeD (p.getLastD zeroD) x)
  termination_by n
  decreasing_by omega
theorem withR_even {p : List Dig} {n : Nat} {x : Dig} (h : n % 2 = 0) : withR p n x = p ++ [x] := by rw [withR, dif_pos h]
theorem withR_odd {p : List Dig} {n : Nat} {x y : Dig} (h : ¬ n % 2 = 0) : withR (p ++ [y]) n x = withR p (n / 2) (nodeD y x) := by rw [withR, dif_neg h]; simp
def prootR : List Dig → Dig
  | [] => sumD
  | [x] => x
  | x :: y :: r => nodeD x (prootR (y :: r))
theorem proot_over : ∀ (f : Nat) (l : List Dig), l.length ≤ f → prootR (overR l) = rootR l
  | 0, l, hf => by
    obtain rfl := List.eq_nil_of_length_eq_zero (Nat.le_zero.1 hf)
    rw [overR_nil]; rfl
  | f + 1, l, hf => by
    rcases Nat.eq_zero_or_pos l.length with h0 | h1
    · obtain rfl := List.eq_nil_of_length_eq_zero h0
      rw [overR_nil]; rfl
    · have hb := bel_le h1
      have ht := bel_top h1
      have hp := bel_pos (l.length + 1)
      rw [overR_cons h1]
      by_cases he : bel (l.length + 1) = l.length
      · rw [he, List.take_length, List.drop_length, overR_nil]; rfl
      · have hl : (l.drop (bel (l.length + 1))).length = l.length - bel (l.length + 1) := List.length_drop
        have h3 := proot_over f (l.drop (bel (l.length + 1))) (by omega)
        have hb2 : bel l.length = bel (l.length + 1) := bel_same (n := l.length + 1) (by omega) (by omega) (by omega)
        have e1 := overR_cons (l := l.drop (bel (l.length + 1))) (by omega)
        rw [e1] at h3 ⊢
        show nodeD _ (prootR (_ :: _)) = _
        rw [h3, rootR_split (l := l) (by omega), hb2]
theorem bel_odd {n : Nat} (h : 2 ≤ n) (he : n % 2 = 0) : bel (n + 2) = bel (n + 1) := by
  have h1 := bel_le (n := n + 1) (by omega)
  have h2 := bel_even (n := n + 2) (by omega)
  exact (bel_same (n := n + 2) (m := n + 1) (by omega) (by have h3 : bel (n + 2) ≤ n + 1 := h1; omega) (by omega)).symm
theorem over_even : ∀ (f : Nat) (q : List Dig) (x : Dig), q.length ≤ f → q.length % 2 = 0 → overR (q ++ [x]) = overR q ++ [x]
  | 0, q, x, hf, _ => by
    obtain rfl := List.eq_nil_of_length_eq_zero (Nat.le_zero.1 hf)
    rw [overR_nil, overR_cons (l := [] ++ [x]) (by simp)]
    show rootR ([x].take (bel 2)) :: overR ([x].drop (bel 2)) = _
    rw [bel_two]
    show rootR [x] :: overR [] = _
    rw [overR_nil, rootR_one]; rfl
  | f + 1, q, x, hf, he => by
    rcases Nat.eq_zero_or_pos q.length with h0 | h1
    · exact over_even 0 q x (by omega) he
    · have hl : (q ++ [x]).length = q.length + 1 := by simp
      have hb := bel_le h1
      have hk2 := bel_even (n := q.length + 1) (by omega)
      have hp := bel_ge2 (n := q.length + 1) (by omega)
      rw [overR_cons (l := q ++ [x]) (by omega), hl, bel_odd (by omega) he, overR_cons h1, List.take_append_of_le_length hb, List.drop_append_of_le_length hb, over_even f _ x (by rw [List.length_drop]; omega) (by rw [List.length_drop]; omega)]
      rfl
theorem over_up : ∀ (f : Nat) (q : List Dig), q.length ≤ f → q.length % 2 = 0 → overR (up q) = overR q
  | 0, q, hf, _ => by
    obtain rfl := List.eq_nil_of_length_eq_zero (Nat.le_zero.1 hf)
    rfl
  | f + 1, q, hf, he => by
    rcases Nat.eq_zero_or_pos q.length with h0 | h1
    · obtain rfl := List.eq_nil_of_length_eq_zero h0; rfl
    · have hb := bel_le h1
      have hk2 := bel_even (n := q.length + 1) (by omega)
      have hh := bel_half (n := q.length + 1) (by omega)
      have hul := up_length q
      have e0 : (up q).length + 1 = (q.length + 1 + 1) / 2 := by omega
      have e1 : bel ((up q).length + 1) = bel (q.length + 1) / 2 := by rw [e0]; omega
      have hp := bel_pos (q.length + 1)
      rw [overR_cons h1, overR_cons (l := up q) (by omega), e1, up_take hb hk2, up_drop hb hk2, root_up, over_up f _ (by rw [List.length_drop]; omega) (by rw [List.length_drop]; omega)]
theorem over_with : ∀ (f : Nat) (q : List Dig) (x : Dig), q.length ≤ f → withR (overR q) q.length x = overR (q ++ [x])
  | 0, q, x, hf => by
    obtain rfl := List.eq_nil_of_length_eq_zero (Nat.le_zero.1 hf)
    rw [withR_even rfl, over_even 0 [] x (Nat.le_refl _) rfl]
  | f + 1, q, x, hf => by
    by_cases he : q.length % 2 = 0
    · rw [withR_even he, over_even q.length q x (Nat.le_refl _) he]
    · obtain ⟨r, a, rfl, hr⟩ := ends_ex (p := q) (k := q.length - 1) (by omega)
      have hl : (r ++ [a]).length = r.length + 1 := by simp
      rw [hl] at he hf hr ⊢
      have hre : r.length % 2 = 0 := by omega
      have hul := up_length r
      rw [over_even r.length r a (Nat.le_refl _) hre, withR_odd he, ← over_up r.length r (Nat.le_refl _) hre, show (r.length + 1) / 2 = (up r).length by omega, over_with f (up r) (nodeD a x) (by omega)]
      have e1 : up r ++ [nodeD a x] = up (r ++ [a] ++ [x]) := by
        rw [List.append_assoc, up_append r _ hre]; rfl
      rw [e1, over_up _ _ (Nat.le_refl _) (by simp; omega)]
theorem over_ones : ∀ (f : Nat) (q : List Dig), q.length ≤ f → (overR q).length = onesR q.length
  | 0, q, hf => by
    obtain rfl := List.eq_nil_of_length_eq_zero (Nat.le_zero.1 hf)
    rw [overR_nil]; exact onesR_zero.symm
  | f + 1, q, hf => by
    rcases Nat.eq_zero_or_pos q.length with h0 | h1
    · obtain rfl := List.eq_nil_of_length_eq_zero h0
      rw [overR_nil]; exact onesR_zero.symm
    · rw [onesR_pos (by omega)]
      by_cases he : q.length % 2 = 0
      · have hul := up_length q
        rw [← over_up q.length q (Nat.le_refl _) he, over_ones f (up q) (by omega), hul, he, show (q.length + 1) / 2 = q.length / 2 by omega, Nat.zero_add]
      · obtain ⟨r, a, rfl, hr⟩ := ends_ex (p := q) (k := q.length - 1) (by omega)
        have hl : (r ++ [a]).length = r.length + 1 := by simp
        rw [hl] at he hf ⊢
        have hre : r.length % 2 = 0 := by omega
        have hul := up_length r
        rw [over_even r.length r a (Nat.le_refl _) hre, List.length_append, ← over_up r.length r (Nat.le_refl _) hre, over_ones f (up r) (by omega), hul, show (r.length + 1) % 2 = 1 by omega]
        show onesR _ + 1 = _
        omega
end Go.Proofs.YtimegpilihfghaaDoor
