/-
  The plain law of consistency's main theorem: two accepted proofs of one new root are the same, or two different pairs have one digest.
-/
import Derived.Test.YtimegpilihfghaaDoorDown
namespace Go.Proofs.YtimegpilihfghaaDoor
open Go

/-- The pairs that computing the new root hashes, from the bottom. -/
def pairsR (m n : Nat) (fr : Bool) (was : Dig) (p : List Dig) : List (Dig × Dig) × Dig :=
  if h : m = n ∨ n < 2 then ([], if fr then was else p.headD zeroD)
  else if m ≤ bel n then ((pairsR m (bel n) fr was p.dropLast).1 ++ [((pairsR m (bel n) fr was p.dropLast).2, p.getLastD zeroD)], nodeD (pairsR m (bel n) fr was p.dropLast).2 (p.getLastD zeroD))
  else ((pairsR (m - bel n) (n - bel n) false was p.dropLast).1 ++ [(p.getLastD zeroD, (pairsR (m - bel n) (n - bel n) false was p.dropLast).2)], nodeD (p.getLastD zeroD) (pairsR (m - bel n) (n - bel n) false was p.dropLast).2)
  termination_by n
  decreasing_by
    all_goals first | exact bel_lt (by omega) | (have := bel_pos n; omega)
theorem pairsR_top {m n : Nat} {fr : Bool} {was : Dig} {p : List Dig} (h : m = n) : pairsR m n fr was p = ([], if fr then was else p.headD zeroD) := by rw [pairsR, dif_pos (.inl h)]
theorem pairsR_left {m n : Nat} {fr : Bool} {was y : Dig} {p : List Dig} (h1 : 1 ≤ m) (h : m < n) (hk : m ≤ bel n) :
    pairsR m n fr was (p ++ [y]) = ((pairsR m (bel n) fr was p).1 ++ [((pairsR m (bel n) fr was p).2, y)], nodeD (pairsR m (bel n) fr was p).2 y) := by
  rw [pairsR, dif_neg (by omega), if_pos hk]; simp
theorem pairsR_right {m n : Nat} {fr : Bool} {was y : Dig} {p : List Dig} (h1 : 1 ≤ m) (h : m < n) (hk : ¬ m ≤ bel n) :
    pairsR m n fr was (p ++ [y]) = ((pairsR (m - bel n) (n - bel n) false was p).1 ++ [(y, (pairsR (m - bel n) (n - bel n) false was p).2)], nodeD y (pairsR (m - bel n) (n - bel n) false was p).2) := by
  rw [pairsR, dif_neg (by omega), if_neg hk]; simp
theorem pairs_led : ∀ (f m n : Nat) (fr : Bool) (was : Dig) (p : List Dig), n ≤ f → 1 ≤ m → m ≤ n → p.length = stepsC m n fr → (pairsR m n fr was p).2 = (ledC m n fr was p).2
  | 0, m, n, fr, was, p, hf, h1, hm, hl => by omega
  | f + 1, m, n, fr, was, p, hf, h1, hm, hl => by
    by_cases he : m = n
    · rw [pairsR_top he, ledC_top he]; cases fr <;> rfl
    · have hb := bel_lt (n := n) (by omega)
      have hp := bel_pos n
      by_cases hk : m ≤ bel n
      · rw [stepsC_left h1 (by omega) hk] at hl
        obtain ⟨q, y, rfl, hq⟩ := ends_ex hl
        rw [pairsR_left h1 (by omega) hk, ledC_left h1 (by omega) hk]
        show nodeD _ y = nodeD _ y
        rw [pairs_led f m (bel n) fr was q (by omega) h1 hk hq]
      · rw [stepsC_right h1 (by omega) hk] at hl
        obtain ⟨q, y, rfl, hq⟩ := ends_ex hl
        rw [pairsR_right h1 (by omega) hk, ledC_right h1 (by omega) hk]
        show nodeD y _ = nodeD y _
        rw [pairs_led f (m - bel n) (n - bel n) false was q (by omega) (by omega) (by omega) hq]
theorem pairs_len : ∀ (f m n : Nat) (fr : Bool) (x y : Dig) (p q : List Dig), n ≤ f → 1 ≤ m → m ≤ n → p.length = stepsC m n fr → q.length = stepsC m n fr → (pairsR m n fr x p).1.length = (pairsR m n fr y q).1.length
  | 0, m, n, fr, x, y, p, q, hf, h1, hm, hp', hq' => by omega
  | f + 1, m, n, fr, x, y, p, q, hf, h1, hm, hp', hq' => by
    by_cases he : m = n
    · rw [pairsR_top he, pairsR_top he]
    · have hb := bel_lt (n := n) (by omega)
      have hp := bel_pos n
      by_cases hk : m ≤ bel n
      · rw [stepsC_left h1 (by omega) hk] at hp' hq'
        obtain ⟨p1, a, rfl, hp1⟩ := ends_ex hp'
        obtain ⟨q1, b, rfl, hq1⟩ := ends_ex hq'
        rw [pairsR_left h1 (by omega) hk, pairsR_left h1 (by omega) hk]
        simp only [List.length_append, List.length_cons, List.length_nil]
        rw [pairs_len f m (bel n) fr x y p1 q1 (by omega) h1 hk hp1 hq1]
      · rw [stepsC_right h1 (by omega) hk] at hp' hq'
        obtain ⟨p1, a, rfl, hp1⟩ := ends_ex hp'
        obtain ⟨q1, b, rfl, hq1⟩ := ends_ex hq'
        rw [pairsR_right h1 (by omega) hk, pairsR_right h1 (by omega) hk]
        simp only [List.length_append, List.length_cons, List.length_nil]
        rw [pairs_len f (m - bel n) (n - bel n) false x y p1 q1 (by omega) (by omega) (by omega) hp1 hq1]
/-- No two different pairs at one place with one digest. -/
def Apart (s t : List (Dig × Dig)) : Prop := ∀ (k : Nat) (a b : Dig × Dig), s[k]? = some a → t[k]? = some b → nodeD a.1 a.2 = nodeD b.1 b.2 → a = b
theorem Apart.init {s t : List (Dig × Dig)} {a b : Dig × Dig} (h : Apart (s ++ [a]) (t ++ [b])) (hl : s.length = t.length) : Apart s t ∧ (nodeD a.1 a.2 = nodeD b.1 b.2 → a = b) := by
  refine ⟨fun k x y hx hy => h k x y ?_ ?_, fun hn => h s.length a b ?_ ?_ hn⟩
  · rw [List.getElem?_append_left (List.getElem?_eq_some_iff.1 hx).1]; exact hx
  · rw [List.getElem?_append_left (List.getElem?_eq_some_iff.1 hy).1]; exact hy
  · simp
  · rw [hl]; simp
theorem pairs_same : ∀ (f m n : Nat) (fr : Bool) (x y : Dig) (p q : List Dig), n ≤ f → 1 ≤ m → m ≤ n → p.length = stepsC m n fr → q.length = stepsC m n fr → (pairsR m n fr x p).2 = (pairsR m n fr y q).2 →
    Apart (pairsR m n fr x p).1 (pairsR m n fr y q).1 → p = q ∧ ledC m n fr x p = ledC m n fr y q
  | 0, m, n, fr, x, y, p, q, hf, h1, hm, hp', hq', hr, ha => by omega
  | f + 1, m, n, fr, x, y, p, q, hf, h1, hm, hp', hq', hr, ha => by
    by_cases he : m = n
    · rw [stepsC_top he] at hp' hq'
      rw [pairsR_top he, pairsR_top he] at hr
      rw [ledC_top he, ledC_top he]
      cases fr with
      | true =>
        obtain rfl := List.eq_nil_of_length_eq_zero hp'
        obtain rfl := List.eq_nil_of_length_eq_zero hq'
        have hxy : x = y := hr
        exact ⟨rfl, by rw [hxy]⟩
      | false =>
        match p, q, hp', hq', hr with
        | [a], [b], _, _, hr =>
          have hab : a = b := hr
          exact ⟨by rw [hab], by rw [hab]; rfl⟩
    · have hb := bel_lt (n := n) (by omega)
      have hp := bel_pos n
      by_cases hk : m ≤ bel n
      · rw [stepsC_left h1 (by omega) hk] at hp' hq'
        obtain ⟨p1, a, rfl, hp1⟩ := ends_ex hp'
        obtain ⟨q1, b, rfl, hq1⟩ := ends_ex hq'
        rw [pairsR_left h1 (by omega) hk, pairsR_left h1 (by omega) hk] at hr ha
        obtain ⟨h3, h4⟩ := Apart.init ha (pairs_len f m (bel n) fr x y p1 q1 (by omega) h1 hk hp1 hq1)
        have h5 := h4 hr
        simp only [Prod.mk.injEq] at h5
        obtain ⟨h6, h7⟩ := pairs_same f m (bel n) fr x y p1 q1 (by omega) h1 hk hp1 hq1 h5.1 h3
        rw [ledC_left h1 (by omega) hk, ledC_left h1 (by omega) hk, h7, h5.2, h6]
        exact ⟨rfl, rfl⟩
      · rw [stepsC_right h1 (by omega) hk] at hp' hq'
        obtain ⟨p1, a, rfl, hp1⟩ := ends_ex hp'
        obtain ⟨q1, b, rfl, hq1⟩ := ends_ex hq'
        rw [pairsR_right h1 (by omega) hk, pairsR_right h1 (by omega) hk] at hr ha
        obtain ⟨h3, h4⟩ := Apart.init ha (pairs_len f (m - bel n) (n - bel n) false x y p1 q1 (by omega) (by omega) (by omega) hp1 hq1)
        have h5 := h4 hr
        simp only [Prod.mk.injEq] at h5
        obtain ⟨h6, h7⟩ := pairs_same f (m - bel n) (n - bel n) false x y p1 q1 (by omega) (by omega) (by omega) hp1 hq1 h5.2 h3
        rw [ledC_right h1 (by omega) hk, ledC_right h1 (by omega) hk, h7, h5.1, h6]
        exact ⟨rfl, rfl⟩
/-- THE MAIN THEOREM, in plain terms: what an accepted proof says of the old root. -/
theorem prefix_root {b : List Dig} {m : Nat} {was : Dig} {p : List Dig} (h1 : 1 ≤ m) (hm : m ≤ b.length) (hl : p.length = stepsC m b.length true) (hv : ledC m b.length true was p = (was, rootR b))
    (ha : Apart (pairsR m b.length true was p).1 (pairsR m b.length true (rootR (b.take m)) (proofR b m true)).1) : was = rootR (b.take m) := by
  have hq := proof_length h1 hm
  have h2 := led_of_proof h1 hm
  have e1 := pairs_led b.length m b.length true was p (Nat.le_refl _) h1 hm hl
  have e2 := pairs_led b.length m b.length true (rootR (b.take m)) (proofR b m true) (Nat.le_refl _) h1 hm hq
  rw [hv] at e1
  rw [h2] at e2
  obtain ⟨_, h4⟩ := pairs_same b.length m b.length true was (rootR (b.take m)) p (proofR b m true) (Nat.le_refl _) h1 hm hl hq (e1.trans e2.symm) ha
  rw [hv, h2] at h4
  exact congrArg Prod.fst h4
end Go.Proofs.YtimegpilihfghaaDoor
