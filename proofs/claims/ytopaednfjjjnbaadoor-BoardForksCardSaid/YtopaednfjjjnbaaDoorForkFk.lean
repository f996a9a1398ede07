/-
  The plain law of the board's main theorem: where no two different nodes have one digest, an accepted proof says that the first list is a prefix of the second.
-/
import Derived.Test.YtopaednfjjjnbaaDoorPackDFk
namespace Go.Proofs.YtopaednfjjjnbaaDoor
open Go

/-- The nodes of a list's tree. -/
def nodesR (l : List Dig) : List (Dig × Dig) :=
  if h : l.length < 2 then [] else nodesR (l.take (bel l.length)) ++ nodesR (l.drop (bel l.length)) ++ [(rootR (l.take (bel l.length)), rootR (l.drop (bel l.length)))]
  termination_by l.length
  decreasing_by
    · have := bel_lt (n := l.length) (by omega); rw [List.length_take]; omega
    · have := bel_pos l.length; rw [List.length_drop]; omega
theorem nodesR_small {l : List Dig} (h : l.length < 2) : nodesR l = [] := by rw [nodesR, dif_pos h]
theorem nodesR_split {l : List Dig} (h : 2 ≤ l.length) : nodesR l = nodesR (l.take (bel l.length)) ++ nodesR (l.drop (bel l.length)) ++ [(rootR (l.take (bel l.length)), rootR (l.drop (bel l.length)))] := by rw [nodesR, dif_neg (by omega)]
/-- The nodes that following a proof computes. -/
def stepsN (m n : Nat) (fr : Bool) (was : Dig) (p : List Dig) : List (Dig × Dig) :=
  if h : m = n ∨ n < 2 then []
  else if m ≤ bel n then stepsN m (bel n) fr was p.dropLast ++ [((ledC m (bel n) fr was p.dropLast).2, p.getLastD zeroD)]
  else stepsN (m - bel n) (n - bel n) false was p.dropLast ++ [(p.getLastD zeroD, (ledC (m - bel n) (n - bel n) false was p.dropLast).1), (p.getLastD zeroD, (ledC (m - bel n) (n - bel n) false was p.dropLast).2)]
  termination_by n
  decreasing_by
    all_goals first | exact bel_lt (by omega) | (have := bel_pos n; omega)
theorem stepsN_top {m n : Nat} {fr : Bool} {was : Dig} {p : List Dig} (h : m = n) : stepsN m n fr was p = [] := by rw [stepsN, dif_pos (.inl h)]
theorem stepsN_left {m n : Nat} {fr : Bool} {was y : Dig} {p : List Dig} (h1 : 1 ≤ m) (h : m < n) (hk : m ≤ bel n) : stepsN m n fr was (p ++ [y]) = stepsN m (bel n) fr was p ++ [((ledC m (bel n) fr was p).2, y)] := by
  rw [stepsN, dif_neg (by omega), if_pos hk]; simp
theorem stepsN_right {m n : Nat} {fr : Bool} {was y : Dig} {p : List Dig} (h1 : 1 ≤ m) (h : m < n) (hk : ¬ m ≤ bel n) :
    stepsN m n fr was (p ++ [y]) = stepsN (m - bel n) (n - bel n) false was p ++ [(y, (ledC (m - bel n) (n - bel n) false was p).1), (y, (ledC (m - bel n) (n - bel n) false was p).2)] := by
  rw [stepsN, dif_neg (by omega), if_neg hk]; simp
/-- No two different nodes have one digest. -/
def InjN (s : List (Dig × Dig)) : Prop := ∀ a ∈ s, ∀ b ∈ s, nodeD a.1 a.2 = nodeD b.1 b.2 → a = b
theorem InjN.sub {s t : List (Dig × Dig)} (h : InjN t) (hs : ∀ a ∈ s, a ∈ t) : InjN s := fun a ha b hb => h a (hs a ha) b (hs b hb)
theorem tree_inj : ∀ (f : Nat) (l m : List Dig) (s : List (Dig × Dig)), l.length ≤ f → l.length = m.length → rootR l = rootR m → InjN s → (∀ a ∈ nodesR l, a ∈ s) → (∀ a ∈ nodesR m, a ∈ s) → l = m
  | 0, l, m, s, hf, hlm, _, _, _, _ => by
    rw [List.eq_nil_of_length_eq_zero (l := l) (by omega), List.eq_nil_of_length_eq_zero (l := m) (by omega)]
  | f + 1, l, m, s, hf, hlm, hr, hi, hl, hm => by
    by_cases h2 : l.length < 2
    · match l, m, hlm, h2, hr with
      | [], [], _, _, _ => rfl
      | [a], [b], _, _, hr => rw [rootR_one, rootR_one] at hr; rw [hr]
    · have h2 : 2 ≤ l.length := by omega
      have hb := bel_lt h2
      have hp := bel_pos l.length
      have h2m : 2 ≤ m.length := by omega
      rw [nodesR_split h2] at hl
      rw [nodesR_split h2m, ← hlm] at hm
      rw [rootR_split h2, rootR_split h2m, ← hlm] at hr
      have h3 := hi _ (hl _ (List.mem_append_right _ (List.mem_singleton.2 rfl))) _ (hm _ (List.mem_append_right _ (List.mem_singleton.2 rfl))) hr
      simp only [Prod.mk.injEq] at h3
      have h4 := tree_inj f (l.take (bel l.length)) (m.take (bel l.length)) s (by rw [List.length_take]; omega) (by rw [List.length_take, List.length_take]; omega) h3.1 hi (fun a ha => hl a (List.mem_append_left _ (List.mem_append_left _ ha))) (fun a ha => hm a (List.mem_append_left _ (List.mem_append_left _ ha)))
      have h5 := tree_inj f (l.drop (bel l.length)) (m.drop (bel l.length)) s (by rw [List.length_drop]; omega) (by rw [List.length_drop, List.length_drop]; omega) h3.2 hi (fun a ha => hl a (List.mem_append_left _ (List.mem_append_right _ ha))) (fun a ha => hm a (List.mem_append_left _ (List.mem_append_right _ ha)))
      rw [← List.take_append_drop (bel l.length) l, ← List.take_append_drop (bel l.length) m, h4, h5]
theorem steps_inj : ∀ (f : Nat) (l : List Dig) (m : Nat) (fr : Bool) (was : Dig) (p : List Dig) (s : List (Dig × Dig)), l.length ≤ f → 1 ≤ m → m ≤ l.length → p.length = stepsC m l.length fr → (ledC m l.length fr was p).2 = rootR l →
    InjN s → (∀ a ∈ nodesR l, a ∈ s) → (∀ a ∈ stepsN m l.length fr was p, a ∈ s) → (ledC m l.length fr was p).1 = rootR (l.take m)
  | 0, l, m, fr, was, p, s, hf, h1, hm, _, _, _, _, _ => by omega
  | f + 1, l, m, fr, was, p, s, hf, h1, hm, hp', hr, hi, hl, hs => by
    by_cases he : m = l.length
    · rw [ledC_top he] at hr ⊢
      rw [he, List.take_length]
      cases fr <;> exact hr
    · have h2 : 2 ≤ l.length := by omega
      have hb := bel_lt h2
      have hp := bel_pos l.length
      have ht : (l.take (bel l.length)).length = bel l.length := by rw [List.length_take]; omega
      have hd : (l.drop (bel l.length)).length = l.length - bel l.length := List.length_drop
      rw [nodesR_split h2] at hl
      rw [rootR_split h2] at hr
      by_cases hk : m ≤ bel l.length
      · rw [stepsC_left h1 (by omega) hk] at hp'
        obtain ⟨q, y, rfl, hq⟩ := ends_ex hp'
        rw [ledC_left h1 (by omega) hk] at hr ⊢
        rw [stepsN_left h1 (by omega) hk] at hs
        have h3 := hi _ (hs _ (List.mem_append_right _ (List.mem_singleton.2 rfl))) _ (hl _ (List.mem_append_right _ (List.mem_singleton.2 rfl))) hr
        simp only [Prod.mk.injEq] at h3
        have h4 := steps_inj f (l.take (bel l.length)) m fr was q s (by omega) h1 (by omega) (by rw [ht]; exact hq) (by rw [ht]; exact h3.1) hi (fun a ha => hl a (List.mem_append_left _ (List.mem_append_left _ ha))) (fun a ha => hs a (List.mem_append_left _ (by rw [ht] at ha; exact ha)))
        rw [ht, List.take_take, Nat.min_eq_left hk] at h4
        exact h4
      · rw [stepsC_right h1 (by omega) hk] at hp'
        obtain ⟨q, y, rfl, hq⟩ := ends_ex hp'
        rw [ledC_right h1 (by omega) hk] at hr ⊢
        rw [stepsN_right h1 (by omega) hk] at hs
        have h3 := hi _ (hs _ (List.mem_append_right _ (List.mem_cons_of_mem _ (List.mem_singleton.2 rfl)))) _ (hl _ (List.mem_append_right _ (List.mem_singleton.2 rfl))) hr
        simp only [Prod.mk.injEq] at h3
        have h4 := steps_inj f (l.drop (bel l.length)) (m - bel l.length) false was q s (by omega) (by omega) (by omega) (by rw [hd]; exact hq) (by rw [hd]; exact h3.2) hi (fun a ha => hl a (List.mem_append_left _ (List.mem_append_right _ ha))) (fun a ha => hs a (List.mem_append_left _ (by rw [hd] at ha; exact ha)))
        rw [hd] at h4
        rw [root_take h2 (by omega) hm, ← h4, ← h3.1]
/-- THE MAIN THEOREM, in plain terms. -/
theorem fork_prefix {k l p : List Dig} (h1 : 1 ≤ k.length) (hm : k.length ≤ l.length) (hl : p.length = stepsC k.length l.length true) (hv : ledC k.length l.length true (rootR k) p = (rootR k, rootR l))
    (hi : InjN (nodesR k ++ nodesR l ++ nodesR (l.take k.length) ++ stepsN k.length l.length true (rootR k) p)) : k = l.take k.length := by
  have h3 := steps_inj l.length l k.length true (rootR k) p _ (Nat.le_refl _) h1 hm hl (by rw [hv]) hi (fun a ha => by simp [ha]) (fun a ha => by simp [ha])
  rw [hv] at h3
  exact tree_inj k.length k (l.take k.length) _ (Nat.le_refl _) (by rw [List.length_take]; omega) h3 hi (fun a ha => by simp [ha]) (fun a ha => by simp [ha])
end Go.Proofs.YtopaednfjjjnbaaDoor
