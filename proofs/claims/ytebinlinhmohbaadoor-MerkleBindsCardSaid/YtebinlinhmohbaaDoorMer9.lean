/-
  The pairs hashed along a path; two paths to one root.
-/
import Derived.Test.YtebinlinhmohbaaDoorMer6
import Derived.Test.YtebinlinhmohbaaDoorPair
namespace Go.Proofs.YtebinlinhmohbaaDoor
open Go Go.RowKit
set_option maxRecDepth 100000

theorem drop_get {α : Type} {l : List α} {k : Nat} {x : α} (h : l[k]? = some x) : l.drop k = x :: l.drop (k + 1) := by
  obtain ⟨hk, rfl⟩ := List.getElem?_eq_some_iff.1 h
  exact List.drop_eq_getElem_cons hk
def pairD (i : Nat) (x y : Dig) : Dig × Dig := if i % 2 = 1 then (y, x) else (x, y)
theorem pair_step (i : Nat) (x y : Dig) : nodeD (pairD i x y).1 (pairD i x y).2 = stepD i x y := by unfold pairD stepD; split <;> rfl
theorem pair_inj {i : Nat} {x y a b : Dig} (h : (pairD i x a).1 = (pairD i y b).1 ∧ (pairD i x a).2 = (pairD i y b).2) : x = y ∧ a = b := by
  unfold pairD at h
  split at h
  · exact ⟨h.2, h.1⟩
  · exact h
/-- What is hashed along a path, level by level. -/
def wayF : Nat → Dig → Nat → Nat → List Dig → List (Dig × Dig)
  | 0, _, _, _, _ => []
  | f + 1, x, i, n, p => if n ≤ 1 then [] else if isT i n = true then (match p with | [] => [] | y :: q => pairD i x y :: wayF f (stepD i x y) (i / 2) ((n + 1) / 2) q) else wayF f x (i / 2) ((n + 1) / 2) p
theorem wayF_succ (f : Nat) (x : Dig) (i n : Nat) (p : List Dig) : wayF (f + 1) x i n p = if n ≤ 1 then [] else if isT i n = true then (match p with | [] => [] | y :: q => pairD i x y :: wayF f (stepD i x y) (i / 2) ((n + 1) / 2) q) else wayF f x (i / 2) ((n + 1) / 2) p := by
  cases p <;> rfl
def wayR (x : Dig) (i n : Nat) (p : List Dig) : List (Dig × Dig) := wayF n x i n p
theorem wayF_fuel : ∀ (f g : Nat) (x : Dig) (i n : Nat) (p : List Dig), n ≤ f → n ≤ g → wayF f x i n p = wayF g x i n p
  | 0, 0, _, _, _, _, _, _ => rfl
  | 0, g + 1, x, i, n, p, hf, _ => by rw [wayF_succ, if_pos (by omega)]; rfl
  | f + 1, 0, x, i, n, p, _, hg => by rw [wayF_succ, if_pos (by omega)]; rfl
  | f + 1, g + 1, x, i, n, p, hf, hg => by
    rw [wayF_succ, wayF_succ]
    by_cases h1 : n ≤ 1
    · rw [if_pos h1, if_pos h1]
    · rw [if_neg h1, if_neg h1]
      by_cases hT : isT i n = true
      · rw [if_pos hT, if_pos hT]
        cases p with
        | nil => rfl
        | cons y q =>
          show _ :: _ = _ :: _
          rw [wayF_fuel f g _ _ _ q (by omega) (by omega)]
      · rw [if_neg hT, if_neg hT]
        exact wayF_fuel f g x _ _ p (by omega) (by omega)
theorem wayF_le : ∀ (f : Nat) (x : Dig) (i n : Nat) (p : List Dig), (wayF f x i n p).length ≤ p.length
  | 0, _, _, _, _ => Nat.zero_le _
  | f + 1, x, i, n, p => by
    rw [wayF_succ]
    by_cases h1 : n ≤ 1
    · rw [if_pos h1]; exact Nat.zero_le _
    · rw [if_neg h1]
      by_cases hT : isT i n = true
      · rw [if_pos hT]
        cases p with
        | nil => exact Nat.zero_le _
        | cons y q => exact Nat.succ_le_succ (wayF_le f _ _ _ q)
      · rw [if_neg hT]; exact wayF_le f x _ _ p
theorem wayR_le (x : Dig) (i n : Nat) (p : List Dig) : (wayR x i n p).length ≤ p.length := wayF_le n x i n p
theorem wayR_small {x : Dig} {i n : Nat} {p : List Dig} (h : n ≤ 1) : wayR x i n p = [] := by
  unfold wayR
  cases n with
  | zero => rfl
  | succ n => rw [wayF_succ, if_pos h]
theorem wayR_yes {x y : Dig} {i n : Nat} {q : List Dig} (h2 : 2 ≤ n) (hT : isT i n = true) : wayR x i n (y :: q) = pairD i x y :: wayR (stepD i x y) (i / 2) ((n + 1) / 2) q := by
  obtain ⟨m, rfl⟩ : ∃ m, n = m + 1 := ⟨n - 1, by omega⟩
  unfold wayR
  rw [wayF_succ, if_neg (by omega), if_pos hT]
  show _ :: _ = _ :: _
  rw [wayF_fuel m ((m + 1 + 1) / 2) _ _ _ q (by omega) (by omega)]
theorem wayR_no {x : Dig} {i n : Nat} {p : List Dig} (h2 : 2 ≤ n) (hT : isT i n = false) : wayR x i n p = wayR x (i / 2) ((n + 1) / 2) p := by
  obtain ⟨m, rfl⟩ : ∃ m, n = m + 1 := ⟨n - 1, by omega⟩
  unfold wayR
  rw [wayF_succ, if_neg (by omega), if_neg (by rw [hT]; simp)]
  exact wayF_fuel m ((m + 1 + 1) / 2) _ _ _ p (by omega) (by omega)
theorem way_yes {j m k : Nat} {y e : Dig} {p : List Dig} {out V : List (Dig × Dig)} (h2 : 2 ≤ m) (hj : j < m) (hT : isT j m = true) (he : p[k]? = some e) (hst : (p.drop k).length = stepsR j m) (hw : out ++ wayR y j m (p.drop k) = V) :
    (p.drop (k + 1)).length = stepsR (j / 2) ((m + 1) / 2) ∧ (out ++ [pairD j y e]) ++ wayR (stepD j y e) (j / 2) ((m + 1) / 2) (p.drop (k + 1)) = V := by
  rw [drop_get he] at hst hw
  rw [wayR_yes h2 hT] at hw
  rw [steps_up h2 hj, hT, if_pos rfl, List.length_cons] at hst
  exact ⟨by omega, by rw [List.append_assoc]; exact hw⟩
theorem way_no {j m k : Nat} {y : Dig} {p : List Dig} {out V : List (Dig × Dig)} (h2 : 2 ≤ m) (hj : j < m) (hT : isT j m = false) (hst : (p.drop k).length = stepsR j m) (hw : out ++ wayR y j m (p.drop k) = V) :
    (p.drop k).length = stepsR (j / 2) ((m + 1) / 2) ∧ out ++ wayR y (j / 2) ((m + 1) / 2) (p.drop k) = V := by
  rw [wayR_no h2 hT] at hw
  rw [steps_up h2 hj, hT, if_neg (by simp), Nat.zero_add] at hst
  exact ⟨hst, hw⟩
/-- Two ways to one root meet in a collision, or are the same. -/
theorem clash_ex : ∀ (f n i : Nat) (x y : Dig) (p q : List Dig), n ≤ f → i < n → p.length = stepsR i n → q.length = stepsR i n → ledR x i n p = ledR y i n q → ¬ (x = y ∧ p = q) →
    ∃ (k : Nat) (a b : Dig × Dig), (wayR x i n p)[k]? = some a ∧ (wayR y i n q)[k]? = some b ∧ clashR a.1 a.2 b.1 b.2 = true
  | 0, n, i, _, _, _, _, hf, hi, _, _, _, _ => by omega
  | f + 1, n, i, x, y, p, q, hf, hi, hp, hq, hr, hne => by
    by_cases h1 : n ≤ 1
    · rw [stepsR_small h1] at hp hq
      rw [ledR_small h1, ledR_small h1] at hr
      exact absurd ⟨hr, by rw [List.eq_nil_of_length_eq_zero hp, List.eq_nil_of_length_eq_zero hq]⟩ hne
    · have h2 : 2 ≤ n := by omega
      cases hT : isT i n with
      | true =>
        have hp' := hp
        have hq' := hq
        rw [steps_up h2 hi, hT, if_pos rfl] at hp' hq'
        match p, q, hp, hq, hp', hq', hr, hne with
        | [], _, _, _, hp', _, _, _ => simp only [List.length_nil] at hp'; omega
        | _ :: _, [], _, _, _, hq', _, _ => simp only [List.length_nil] at hq'; omega
        | a :: p', b :: q', hp, hq, hp', hq', hr, hne =>
          rw [List.length_cons] at hp' hq'
          rw [led_yes h2 hi hp hT, led_yes h2 hi hq hT] at hr
          rw [wayR_yes h2 hT, wayR_yes h2 hT]
          by_cases h3 : stepD i x a = stepD i y b ∧ ¬ (x = y ∧ a = b)
          · exact ⟨0, _, _, rfl, rfl, clash_yes (by rw [pair_step, pair_step]; exact h3.1) (fun h => h3.2 (pair_inj h))⟩
          · obtain ⟨k, c, d, h4, h5, h6⟩ := clash_ex f ((n + 1) / 2) (i / 2) (stepD i x a) (stepD i y b) p' q' (by omega) (by omega) (by omega) (by omega) hr (fun h => by
              by_cases h7 : x = y ∧ a = b
              · exact hne ⟨h7.1, by rw [h7.2, h.2]⟩
              · exact h3 ⟨h.1, h7⟩)
            exact ⟨k + 1, c, d, h4, h5, h6⟩
      | false =>
        have hp' := hp
        have hq' := hq
        rw [steps_up h2 hi, hT, if_neg (by simp), Nat.zero_add] at hp' hq'
        rw [led_no h2 hi hp hT, led_no h2 hi hq hT] at hr
        rw [wayR_no h2 hT, wayR_no h2 hT]
        exact clash_ex f ((n + 1) / 2) (i / 2) x y p q (by omega) (by omega) hp' hq' hr hne
theorem fo_zero {i n : Int} {p : List Dig} (h : foE i n p = 0) : ¬ badT i n ∧ p.length = stepsR i.toNat n.toNat := by
  unfold foE at h
  split at h
  · simp at h
  · rename_i h1
    split at h
    · simp at h
    · rename_i h2
      exact ⟨h1, Classical.not_not.1 h2⟩

theorem ways_any (x : Dig) (i n : Nat) (hin : i < n) (hmx : n ≤ 1024) (oa : Option Addr) (cap : Nat) (p : List Dig) (w : World) (hd : Dl w oa cap p) (hst : p.length = stepsR i n) (hk : KMem 1 w) (hf : FMem 0 w) :
    Calls Tryd.prog 28 #[.agg (arr8 x.1), .int .i64 (i : Int), .int .i64 (n : Int), .slice oa p.length cap] w (Ret w (fun v H => ∃ r : Option Row, v = Row.v (wayR x i n p).length r ∧ H = Row.b 53 r ∧ Row.ok 64 (wayR x i n p).length (fp (wayR x i n p)) r)) := by
  refine enter (vs := [.agg (arr8 x.1), .int .i64 (i : Int), .int .i64 (n : Int), .slice oa p.length cap]) Tryd.func28 rfl Tryd.ntmps28 rfl ?_
  refine JC.seq ?_
  -- region 0
  refine JC.region ?_
  refine JL.new rfl rfl rfl (.none rfl) (En.boxA rfl) (fun b4 hb4 => ?_)
  refine JL.val rfl rfl rfl (.none rfl) (Ev.assign rfl) ?_
  refine JL.nil ?_
  refine JQ.thenN ?_
  refine JC.seq ?_
  -- region 1
  refine JC.region ?_
  refine JL.val rfl rfl rfl (.none rfl) (Ev.assign rfl) ?_
  refine JL.nil ?_
  refine JQ.thenN ?_
  refine JC.seq ?_
  -- region 2
  refine JC.region ?_
  refine JL.val rfl rfl rfl (.none rfl) (Ev.assign rfl) ?_
  refine JL.nil ?_
  refine JQ.thenN ?_
  refine JC.seq ?_
  refine JC.block ?_
  refine JC.loop (X := Nat × Nat × Nat × Dig × List (Dig × Dig) × Option Row)
    (fun ⟨k, j, m, y, out, q⟩ => [(1, .int .i64 (j : Int)), (2, .int .i64 (m : Int)), (3, .slice oa p.length cap), (4, .pointer (some ⟨b4, 0, none⟩)), (8, .slice none 0 0), (9, Row.v out.length q), (10, .int .i64 (k : Int))])
    (fun ⟨k, j, m, y, out, q⟩ => (b4, Obj.cells (arr8 y.1) 22 (0, 0)) :: Row.b 53 q)
    (fun ⟨k, j, m, y, out, q⟩ => j < m ∧ m ≤ 1024 ∧ (p.drop k).length = stepsR j m ∧ out ++ wayR y j m (p.drop k) = wayR x i n p ∧ Row.ok 64 out.length (fp out) q ∧ out.length = k ∧ k ≤ p.length)
    (fun ⟨k, j, m, y, out, q⟩ => m) (0, i, n, x, [], none) ?_ ?_ ?_ ?_
  · exact Keeps.get (by repeat (first | exact Keeps.nil | refine Keeps.cons rfl ?_))
  · first | exact Sub.all | exact Sub.of_cnt (fun a => by (try dsimp only); simp only [cntA]; omega) | repeat (first | exact Sub.nil | refine Sub.cons (by first | exact .here | exact .there .here | exact .there (.there .here) | exact .there (.there (.there .here)) | exact .there (.there (.there (.there .here)))) ?_ | exact Sub.all)
  · exact ⟨hin, hmx, hst, rfl, ⟨rfl, rfl⟩, rfl, Nat.zero_le _⟩
  rintro ⟨k, j, m, y, out, q⟩ ⟨hjm, hmm, hst2, hw2, hq, hlen, hkp⟩
  refine JC.seq ?_
  refine JC.seq ?_
  -- region 3
  refine JC.region ?_
  refine JL.val rfl rfl rfl (.none rfl) (Ev.move rfl) ?_
  refine JL.val rfl rfl rfl (.none rfl) (Ev.bin rfl rfl gtr_int) ?_
  refine JL.nil ?_
  refine JQ.thenN ?_
  refine JC.cond rfl (fun hc1 => ?_) (fun hc1 => ?_)
  · -- t14 True
    replace hc1 := of_decide_eq_true hc1
    have hm2 : 2 ≤ m := by omega
    have hsu := steps_up hm2 hjm
    have hpl : p.length ≤ 1024 := by have := stepsR_le n i n (Nat.le_refl _); omega
    refine JC.skip ?_
    refine JQ.thenN ?_
    refine JC.block ?_
    refine JC.seq ?_
    refine JC.seq ?_
    -- region 4
    refine JC.region ?_
    refine JL.val rfl rfl rfl (.none rfl) (Ev.move rfl) ?_
    refine JL.val rfl rfl rfl (.none rfl) (Ev.bin rfl rfl (rem_i64 (by omega))) ?_
    refine JL.val rfl rfl rfl (.none rfl) (Ev.bin rfl rfl eql_int) ?_
    refine JL.val rfl rfl rfl (.none rfl) (Ev.move rfl) ?_
    refine JL.split (d := 18) rfl (fun hgO => ?_) (fun hgO => ?_)
    · -- guard 18 true
      have hodd : j % 2 = 1 := by have := of_decide_eq_true hgO; omega
      refine JL.skip rfl rfl (.noF rfl rfl rfl) ?_
      refine JL.skip rfl rfl (.noF rfl rfl rfl) ?_
      refine JL.skip rfl rfl (.noF rfl rfl rfl) ?_
      refine JL.skip rfl rfl (.noF rfl rfl rfl) ?_
      refine JL.val rfl rfl rfl (.none rfl) (Ev.pickT rfl rfl) ?_
      refine JL.nil ?_
      refine JQ.thenN ?_
      refine JC.condT rfl ?_
      refine JC.seq ?_
      have hT : isT j m = true := decide_eq_true (by omega)
      rw [hT, if_pos rfl] at hsu
      have hkl : k < p.length := by have := List.length_drop (i := k) (l := p); omega
      obtain ⟨e, hek⟩ := get_some hkl
      obtain ⟨a, rfl⟩ := Cs.get_some hd (by omega)
      have hwy := way_yes hm2 hjm hT hek hst2 hw2
      -- region 5
      refine JC.regionA (by kernel_rfl) ?_
      refine JA.mid (X := Nat × Nat) (fun _ => True) (fun ⟨b11, b12⟩ => [(1, .int .i64 (j : Int)), (2, .int .i64 (m : Int)), (3, .slice (some a) p.length cap), (4, .pointer (some ⟨b4, 0, none⟩)), (8, .slice none 0 0), (9, Row.v out.length q), (10, .int .i64 (k : Int)), (27, .pointer (some (a.add (k * 32)))), (24, .agg (arr8 y.1)), (28, .agg (arr8 e.1)), (11, .pointer (some ⟨b11, 0, none⟩)), (12, .pointer (some ⟨b12, 0, none⟩))]) (fun ⟨b11, b12⟩ => (b12, Obj.cells (arr8 e.1) 22 (0, 0)) :: (b11, Obj.cells (arr8 y.1) 22 (0, 0)) :: (b4, Obj.cells (arr8 y.1) 22 (0, 0)) :: Row.b 53 q) 0 #[true, true, true, true, true, true, true, true, true] ?_ (fun hmid0 => ?_)
      · -- state [0, 1, 2, 3, 4, 5, 6, 7, 8]
        rintro ⟨b11, b12⟩ hq
        refine JA.done (by kernel_rfl) ?_
        refine JQ.thenN ?_
        refine JC.seq ?_
        refine JC.seq ?_
        -- region 6
        refine JC.region ?_
        refine JL.val rfl rfl rfl (.none rfl) (Ev.move rfl) ?_
        refine JL.val rfl rfl rfl (.none rfl) (Ev.bin rfl rfl (rem_i64 (by omega))) ?_
        refine JL.val rfl rfl rfl (.none rfl) (Ev.bin rfl rfl eql_int) ?_
        refine JL.nil ?_
        refine JQ.thenN ?_
        refine JC.cond rfl (fun hc2 => ?_) (fun hc2 => ?_)
        · -- t31 True
          replace hc2 := of_decide_eq_true hc2
          have ho1 : j % 2 = 1 := by omega
          have hsd : nodeD e y = stepD j y e := (if_pos ho1).symm
          have hpd : [(e, y)] = [pairD j y e] := by rw [pairD, if_pos ho1]
          -- region 7
          refine JC.region ?_
          refine JL.val rfl rfl rfl (.none rfl) (Ev.loadB rfl (by repeat (first | exact List.Mem.head _ | refine List.Mem.tail _ ?_ | refine List.mem_append_right _ ?_ | assumption)) Tryd.underlying22 rfl Tryd.sizeOf22 (by first | rfl | exact dig_size _ | (rw [arr8_size]; first | exact sha_length _ | exact shaO_length _ | assumption))) ?_
          refine JL.val rfl rfl rfl (.none rfl) (Ev.loadB rfl (by repeat (first | exact List.Mem.head _ | refine List.Mem.tail _ ?_ | refine List.mem_append_right _ ?_ | assumption)) Tryd.underlying22 rfl Tryd.sizeOf22 (by first | rfl | exact dig_size _ | (rw [arr8_size]; first | exact sha_length _ | exact shaO_length _ | assumption))) ?_
          refine JL.sto rfl rfl (.none rfl) (Es.storeA rfl rfl Tryd.sizeOf22 (by repeat (first | exact .here | apply Upd.there | apply Upd.left)) (by first | rfl | exact dig_size _ | (rw [arr8_size]; first | exact sha_length _ | exact shaO_length _ | assumption)) (by first | rfl | exact dig_size _ | (rw [arr8_size]; first | exact sha_length _ | exact shaO_length _ | assumption)) (by first | exact arr8_one _ | exact fun u hu => arr8_one (List.replicate 32 0) u hu | (simp; done) | (simp; exact ⟨rfl, rfl⟩))) ?_
          refine JL.sto rfl rfl (.none rfl) (Es.storeA rfl rfl Tryd.sizeOf22 (by repeat (first | exact .here | apply Upd.there | apply Upd.left)) (by first | rfl | exact dig_size _ | (rw [arr8_size]; first | exact sha_length _ | exact shaO_length _ | assumption)) (by first | rfl | exact dig_size _ | (rw [arr8_size]; first | exact sha_length _ | exact shaO_length _ | assumption)) (by first | exact arr8_one _ | exact fun u hu => arr8_one (List.replicate 32 0) u hu | (simp; done) | (simp; exact ⟨rfl, rfl⟩))) ?_
          refine JL.nil ?_
          refine JQ.thenN ?_
          refine JC.seq ?_
          -- region 8
          refine JC.region ?_
          refine JL.val rfl rfl rfl (.none rfl) (Ev.move rfl) ?_
          refine JL.val rfl rfl rfl (.none rfl) (Ev.loadB rfl (by repeat (first | exact List.Mem.head _ | refine List.Mem.tail _ ?_ | refine List.mem_append_right _ ?_ | assumption)) Tryd.underlying22 rfl Tryd.sizeOf22 (by first | rfl | exact dig_size _ | (rw [arr8_size]; first | exact sha_length _ | exact shaO_length _ | assumption))) ?_
          refine JL.val rfl rfl rfl (.none rfl) (Ev.loadB rfl (by repeat (first | exact List.Mem.head _ | refine List.Mem.tail _ ?_ | refine List.mem_append_right _ ?_ | assumption)) Tryd.underlying22 rfl Tryd.sizeOf22 (by first | rfl | exact dig_size _ | (rw [arr8_size]; first | exact sha_length _ | exact shaO_length _ | assumption))) ?_
          refine JL.val rfl rfl rfl (.none rfl) (Ev.buP rfl rfl Tryd.underlying53 Tryd.sizeOf22 Tryd.zeroValue53 rfl) ?_
          refine JL.new rfl rfl rfl (.none rfl) (En.bs1P rfl Tryd.underlying50 Tryd.sizeOf53 Tryd.zeroValue53) (fun b38 hb38 => ?_)
          refine JL.gen rfl rfl rfl (.none rfl) (Eg.append1 (z := (.agg (arr8 (List.replicate 64 0)))) (s := 64) (bytes := 64) rfl rfl rfl (by repeat (first | exact .last | exact .here | apply Cut.past | apply Cut.there)) Tryd.underlying50 (by kernel_rfl) rfl (by decide) (by decide) (by assumption) (Rds.all (by repeat (first | exact List.Mem.head _ | refine List.Mem.tail _ ?_ | refine List.mem_append_right _ ?_ | assumption))) (fp_length _) (by decide) (fp_one _) (by omega)) ?_
          rintro _ _ ⟨r39, rfl, rfl, hr39⟩
          refine JL.val rfl rfl rfl (.none rfl) (Ev.assign rfl) ?_
          refine JL.nil ?_
          refine JQ.thenN ?_
          refine JC.seq ?_
          -- region 9
          refine JC.region ?_
          refine JL.val rfl rfl rfl (.none rfl) (Ev.loadB rfl (by repeat (first | exact List.Mem.head _ | refine List.Mem.tail _ ?_ | refine List.mem_append_right _ ?_ | assumption)) Tryd.underlying22 rfl Tryd.sizeOf22 (by first | rfl | exact dig_size _ | (rw [arr8_size]; first | exact sha_length _ | exact shaO_length _ | assumption))) ?_
          refine JL.val rfl rfl rfl (.none rfl) (Ev.loadB rfl (by repeat (first | exact List.Mem.head _ | refine List.Mem.tail _ ?_ | refine List.mem_append_right _ ?_ | assumption)) Tryd.underlying22 rfl Tryd.sizeOf22 (by first | rfl | exact dig_size _ | (rw [arr8_size]; first | exact sha_length _ | exact shaO_length _ | assumption))) ?_
          refine JL.callV rfl (.none rfl) rfl Tryd.call23 (fun w1 hw1 => nodeG_any _ _ w1 (hk.old hw1) (hf.old hw1)) ?_
          refine JL.sto rfl rfl (.none rfl) (Es.storeA rfl rfl Tryd.sizeOf22 (by repeat (first | exact .here | apply Upd.there | apply Upd.left)) (by first | rfl | exact dig_size _ | (rw [arr8_size]; first | exact sha_length _ | exact shaO_length _ | assumption)) (by first | rfl | exact dig_size _ | (rw [arr8_size]; first | exact sha_length _ | exact shaO_length _ | assumption)) (by first | exact arr8_one _ | exact fun u hu => arr8_one (List.replicate 32 0) u hu | (simp; done) | (simp; exact ⟨rfl, rfl⟩))) ?_
          refine JL.nil ?_
          refine JQ.thenN ?_
          -- region 10
          refine JC.region ?_
          refine JL.val rfl rfl rfl (.none rfl) (Ev.move rfl) ?_
          refine JL.val rfl rfl rfl (.none rfl) (Ev.bin rfl rfl (add_i64 (by omega))) ?_
          refine JL.val rfl rfl rfl (.none rfl) (Ev.assign rfl) ?_
          refine JL.nil ?_
          refine JQ.thenN ?_
          refine JC.seq ?_
          -- region 11
          refine JC.region ?_
          refine JL.val rfl rfl rfl (.none rfl) (Ev.move rfl) ?_
          refine JL.val rfl rfl rfl (.none rfl) (Ev.bin rfl rfl (quo_i64 (by omega))) ?_
          refine JL.val rfl rfl rfl (.none rfl) (Ev.assign rfl) ?_
          refine JL.nil ?_
          refine JQ.thenN ?_
          -- region 12
          refine JC.region ?_
          refine JL.val rfl rfl rfl (.none rfl) (Ev.move rfl) ?_
          refine JL.val rfl rfl rfl (.none rfl) (Ev.bin rfl rfl (add_i64 (by omega))) ?_
          refine JL.val rfl rfl rfl (.none rfl) (Ev.bin rfl rfl (quo_i64 (by omega))) ?_
          refine JL.val rfl rfl rfl (.none rfl) (Ev.assign rfl) ?_
          refine JL.nil ?_
          refine JQ.blockN ?_
          refine JQ.reH (b := b4) (o' := Obj.cells (arr8 (stepD j y e).1) 22 (0, 0)) (by repeat (first | exact .here | apply Upd.there | apply Upd.left)) (congrArg (fun x : Dig => Obj.cells (arr8 x.1) 22 (0, 0)) hsd) ?_
          refine JQ.re (d := 9) (v' := Row.v (out ++ [pairD j y e]).length (some r39)) rfl (by rw [List.length_append]; rfl) ?_
          refine JQ.re (d := 1) (v' := .int .i64 ((j / 2 : Nat) : Int)) rfl (congrArg (Value.int .i64) (by omega)) ?_
          refine JQ.re (d := 2) (v' := .int .i64 (((m + 1) / 2 : Nat) : Int)) rfl (congrArg (Value.int .i64) (by omega)) ?_
          refine JQ.loopN (k + 1, j / 2, (m + 1) / 2, stepD j y e, out ++ [pairD j y e], some r39) ?_ ?_ ?_ ?_
          · exact Keeps.get (by repeat (first | exact Keeps.nil | refine Keeps.cons rfl ?_))
          · first | exact Sub.all | exact Sub.of_cnt (fun a => by (try dsimp only); simp only [cntA]; omega) | repeat (first | exact Sub.nil | refine Sub.cons (by first | exact .here | exact .there .here | exact .there (.there .here) | exact .there (.there (.there .here)) | exact .there (.there (.there (.there .here)))) ?_ | exact Sub.all)
          · exact ⟨by omega, by omega, hwy.1, hwy.2, by rw [List.length_append, fp_append, ← hpd]; exact hr39, by rw [List.length_append, hlen]; rfl, hkl⟩
          · show (m + 1) / 2 < m; omega
        · -- t31 False
          replace hc2 := of_decide_eq_false hc2
          have ho1 : ¬ j % 2 = 1 := by omega
          have hsd : nodeD y e = stepD j y e := (if_neg ho1).symm
          have hpd : [(y, e)] = [pairD j y e] := by rw [pairD, if_neg ho1]
          refine JC.skip ?_
          refine JQ.thenN ?_
          refine JC.seq ?_
          -- region 8
          refine JC.region ?_
          refine JL.val rfl rfl rfl (.none rfl) (Ev.move rfl) ?_
          refine JL.val rfl rfl rfl (.none rfl) (Ev.loadB rfl (by repeat (first | exact List.Mem.head _ | refine List.Mem.tail _ ?_ | refine List.mem_append_right _ ?_ | assumption)) Tryd.underlying22 rfl Tryd.sizeOf22 (by first | rfl | exact dig_size _ | (rw [arr8_size]; first | exact sha_length _ | exact shaO_length _ | assumption))) ?_
          refine JL.val rfl rfl rfl (.none rfl) (Ev.loadB rfl (by repeat (first | exact List.Mem.head _ | refine List.Mem.tail _ ?_ | refine List.mem_append_right _ ?_ | assumption)) Tryd.underlying22 rfl Tryd.sizeOf22 (by first | rfl | exact dig_size _ | (rw [arr8_size]; first | exact sha_length _ | exact shaO_length _ | assumption))) ?_
          refine JL.val rfl rfl rfl (.none rfl) (Ev.buP rfl rfl Tryd.underlying53 Tryd.sizeOf22 Tryd.zeroValue53 rfl) ?_
          refine JL.new rfl rfl rfl (.none rfl) (En.bs1P rfl Tryd.underlying50 Tryd.sizeOf53 Tryd.zeroValue53) (fun b38 hb38 => ?_)
          refine JL.gen rfl rfl rfl (.none rfl) (Eg.append1 (z := (.agg (arr8 (List.replicate 64 0)))) (s := 64) (bytes := 64) rfl rfl rfl (by repeat (first | exact .last | exact .here | apply Cut.past | apply Cut.there)) Tryd.underlying50 (by kernel_rfl) rfl (by decide) (by decide) (by assumption) (Rds.all (by repeat (first | exact List.Mem.head _ | refine List.Mem.tail _ ?_ | refine List.mem_append_right _ ?_ | assumption))) (fp_length _) (by decide) (fp_one _) (by omega)) ?_
          rintro _ _ ⟨r39, rfl, rfl, hr39⟩
          refine JL.val rfl rfl rfl (.none rfl) (Ev.assign rfl) ?_
          refine JL.nil ?_
          refine JQ.thenN ?_
          refine JC.seq ?_
          -- region 9
          refine JC.region ?_
          refine JL.val rfl rfl rfl (.none rfl) (Ev.loadB rfl (by repeat (first | exact List.Mem.head _ | refine List.Mem.tail _ ?_ | refine List.mem_append_right _ ?_ | assumption)) Tryd.underlying22 rfl Tryd.sizeOf22 (by first | rfl | exact dig_size _ | (rw [arr8_size]; first | exact sha_length _ | exact shaO_length _ | assumption))) ?_
          refine JL.val rfl rfl rfl (.none rfl) (Ev.loadB rfl (by repeat (first | exact List.Mem.head _ | refine List.Mem.tail _ ?_ | refine List.mem_append_right _ ?_ | assumption)) Tryd.underlying22 rfl Tryd.sizeOf22 (by first | rfl | exact dig_size _ | (rw [arr8_size]; first | exact sha_length _ | exact shaO_length _ | assumption))) ?_
          refine JL.callV rfl (.none rfl) rfl Tryd.call23 (fun w1 hw1 => nodeG_any _ _ w1 (hk.old hw1) (hf.old hw1)) ?_
          refine JL.sto rfl rfl (.none rfl) (Es.storeA rfl rfl Tryd.sizeOf22 (by repeat (first | exact .here | apply Upd.there | apply Upd.left)) (by first | rfl | exact dig_size _ | (rw [arr8_size]; first | exact sha_length _ | exact shaO_length _ | assumption)) (by first | rfl | exact dig_size _ | (rw [arr8_size]; first | exact sha_length _ | exact shaO_length _ | assumption)) (by first | exact arr8_one _ | exact fun u hu => arr8_one (List.replicate 32 0) u hu | (simp; done) | (simp; exact ⟨rfl, rfl⟩))) ?_
          refine JL.nil ?_
          refine JQ.thenN ?_
          -- region 10
          refine JC.region ?_
          refine JL.val rfl rfl rfl (.none rfl) (Ev.move rfl) ?_
          refine JL.val rfl rfl rfl (.none rfl) (Ev.bin rfl rfl (add_i64 (by omega))) ?_
          refine JL.val rfl rfl rfl (.none rfl) (Ev.assign rfl) ?_
          refine JL.nil ?_
          refine JQ.thenN ?_
          refine JC.seq ?_
          -- region 11
          refine JC.region ?_
          refine JL.val rfl rfl rfl (.none rfl) (Ev.move rfl) ?_
          refine JL.val rfl rfl rfl (.none rfl) (Ev.bin rfl rfl (quo_i64 (by omega))) ?_
          refine JL.val rfl rfl rfl (.none rfl) (Ev.assign rfl) ?_
          refine JL.nil ?_
          refine JQ.thenN ?_
          -- region 12
          refine JC.region ?_
          refine JL.val rfl rfl rfl (.none rfl) (Ev.move rfl) ?_
          refine JL.val rfl rfl rfl (.none rfl) (Ev.bin rfl rfl (add_i64 (by omega))) ?_
          refine JL.val rfl rfl rfl (.none rfl) (Ev.bin rfl rfl (quo_i64 (by omega))) ?_
          refine JL.val rfl rfl rfl (.none rfl) (Ev.assign rfl) ?_
          refine JL.nil ?_
          refine JQ.blockN ?_
          refine JQ.reH (b := b4) (o' := Obj.cells (arr8 (stepD j y e).1) 22 (0, 0)) (by repeat (first | exact .here | apply Upd.there | apply Upd.left)) (congrArg (fun x : Dig => Obj.cells (arr8 x.1) 22 (0, 0)) hsd) ?_
          refine JQ.re (d := 9) (v' := Row.v (out ++ [pairD j y e]).length (some r39)) rfl (by rw [List.length_append]; rfl) ?_
          refine JQ.re (d := 1) (v' := .int .i64 ((j / 2 : Nat) : Int)) rfl (congrArg (Value.int .i64) (by omega)) ?_
          refine JQ.re (d := 2) (v' := .int .i64 (((m + 1) / 2 : Nat) : Int)) rfl (congrArg (Value.int .i64) (by omega)) ?_
          refine JQ.loopN (k + 1, j / 2, (m + 1) / 2, stepD j y e, out ++ [pairD j y e], some r39) ?_ ?_ ?_ ?_
          · exact Keeps.get (by repeat (first | exact Keeps.nil | refine Keeps.cons rfl ?_))
          · first | exact Sub.all | exact Sub.of_cnt (fun a => by (try dsimp only); simp only [cntA]; omega) | repeat (first | exact Sub.nil | refine Sub.cons (by first | exact .here | exact .there .here | exact .there (.there .here) | exact .there (.there (.there .here)) | exact .there (.there (.there (.there .here)))) ?_ | exact Sub.all)
          · exact ⟨by omega, by omega, hwy.1, hwy.2, by rw [List.length_append, fp_append, ← hpd]; exact hr39, by rw [List.length_append, hlen]; rfl, hkl⟩
          · show (m + 1) / 2 < m; omega
      refine JA.mid (X := Nat × Nat) (fun _ => True) (fun ⟨b11, b12⟩ => [(1, .int .i64 (j : Int)), (2, .int .i64 (m : Int)), (3, .slice (some a) p.length cap), (4, .pointer (some ⟨b4, 0, none⟩)), (8, .slice none 0 0), (9, Row.v out.length q), (10, .int .i64 (k : Int)), (27, .pointer (some (a.add (k * 32)))), (24, .agg (arr8 y.1)), (28, .agg (arr8 e.1)), (11, .pointer (some ⟨b11, 0, none⟩)), (12, .pointer (some ⟨b12, 0, none⟩))]) (fun ⟨b11, b12⟩ => (b12, Obj.cells (arr8 (List.replicate 32 0)) 22 (0, 0)) :: (b11, Obj.cells (arr8 y.1) 22 (0, 0)) :: (b4, Obj.cells (arr8 y.1) 22 (0, 0)) :: Row.b 53 q) 1 #[true, true, true, true, true, true, true, true, false] ?_ (fun hmid1 => ?_)
      · -- state [0, 1, 2, 3, 4, 5, 6, 7]
        rintro ⟨b11, b12⟩ hq
        refine JA.branch [8] (by kernel_rfl) rfl ?_
        refine JAll.cons rfl ?_ JAll.nil
        refine JO.sto rfl rfl (.none rfl) (Es.storeA rfl rfl Tryd.sizeOf22 (by repeat (first | exact .here | apply Upd.there | apply Upd.left)) (by first | rfl | exact dig_size _ | (rw [arr8_size]; first | exact sha_length _ | exact shaO_length _ | assumption)) (by first | rfl | exact dig_size _ | (rw [arr8_size]; first | exact sha_length _ | exact shaO_length _ | assumption)) (by first | exact arr8_one _ | exact fun u hu => arr8_one (List.replicate 32 0) u hu | (simp; done) | (simp; exact ⟨rfl, rfl⟩))) ?_
        exact JA.weak rfl (by kernel_rfl) (by exact Keeps.get (by repeat (first | exact Keeps.nil | refine Keeps.cons rfl ?_))) (by first | exact Sub.all | exact Sub.of_cnt (fun a => by (try dsimp only); simp only [cntA]; omega) | repeat (first | exact Sub.nil | refine Sub.cons (by first | exact .here | exact .there .here | exact .there (.there .here) | exact .there (.there (.there .here)) | exact .there (.there (.there (.there .here)))) ?_ | exact Sub.all)) (hmid0 (b11, b12) (by trivial))
      refine JA.mid (X := Nat × Nat) (fun _ => True) (fun ⟨b11, b12⟩ => [(1, .int .i64 (j : Int)), (2, .int .i64 (m : Int)), (3, .slice (some a) p.length cap), (4, .pointer (some ⟨b4, 0, none⟩)), (8, .slice none 0 0), (9, Row.v out.length q), (10, .int .i64 (k : Int)), (27, .pointer (some (a.add (k * 32)))), (24, .agg (arr8 y.1)), (11, .pointer (some ⟨b11, 0, none⟩)), (12, .pointer (some ⟨b12, 0, none⟩))]) (fun ⟨b11, b12⟩ => (b12, Obj.cells (arr8 (List.replicate 32 0)) 22 (0, 0)) :: (b11, Obj.cells (arr8 y.1) 22 (0, 0)) :: (b4, Obj.cells (arr8 y.1) 22 (0, 0)) :: Row.b 53 q) 2 #[true, true, true, true, false, true, true, true, false] ?_ (fun hmid2 => ?_)
      · -- state [0, 1, 2, 3, 5, 6, 7]
        rintro ⟨b11, b12⟩ hq
        refine JA.branch [4] (by kernel_rfl) rfl ?_
        refine JAll.cons rfl ?_ JAll.nil
        refine JO.val rfl rfl rfl (.none rfl) (Ev.loadD rfl Tryd.underlying22 rfl Tryd.sizeOf22 (Rds.old ((hd.mem a rfl).atD hek))) ?_
        exact JA.weak rfl (by kernel_rfl) (by exact Keeps.get (by repeat (first | exact Keeps.nil | refine Keeps.cons rfl ?_))) (by first | exact Sub.all | exact Sub.of_cnt (fun a => by (try dsimp only); simp only [cntA]; omega) | repeat (first | exact Sub.nil | refine Sub.cons (by first | exact .here | exact .there .here | exact .there (.there .here) | exact .there (.there (.there .here)) | exact .there (.there (.there (.there .here)))) ?_ | exact Sub.all)) (hmid1 (b11, b12) (by trivial))
      refine JA.mid (X := Nat × Nat) (fun _ => True) (fun ⟨b11, b12⟩ => [(1, .int .i64 (j : Int)), (2, .int .i64 (m : Int)), (3, .slice (some a) p.length cap), (4, .pointer (some ⟨b4, 0, none⟩)), (8, .slice none 0 0), (9, Row.v out.length q), (10, .int .i64 (k : Int)), (27, .pointer (some (a.add (k * 32)))), (24, .agg (arr8 y.1)), (28, .agg (arr8 e.1)), (11, .pointer (some ⟨b11, 0, none⟩)), (12, .pointer (some ⟨b12, 0, none⟩))]) (fun ⟨b11, b12⟩ => (b12, Obj.cells (arr8 (List.replicate 32 0)) 22 (0, 0)) :: (b11, Obj.cells (arr8 (List.replicate 32 0)) 22 (0, 0)) :: (b4, Obj.cells (arr8 y.1) 22 (0, 0)) :: Row.b 53 q) 2 #[true, true, true, true, true, true, true, false, false] ?_ (fun hmid3 => ?_)
      · -- state [0, 1, 2, 3, 4, 5, 6]
        rintro ⟨b11, b12⟩ hq
        refine JA.branch [7] (by kernel_rfl) rfl ?_
        refine JAll.cons rfl ?_ JAll.nil
        refine JO.sto rfl rfl (.none rfl) (Es.storeA rfl rfl Tryd.sizeOf22 (by repeat (first | exact .here | apply Upd.there | apply Upd.left)) (by first | rfl | exact dig_size _ | (rw [arr8_size]; first | exact sha_length _ | exact shaO_length _ | assumption)) (by first | rfl | exact dig_size _ | (rw [arr8_size]; first | exact sha_length _ | exact shaO_length _ | assumption)) (by first | exact arr8_one _ | exact fun u hu => arr8_one (List.replicate 32 0) u hu | (simp; done) | (simp; exact ⟨rfl, rfl⟩))) ?_
        exact JA.weak rfl (by kernel_rfl) (by exact Keeps.get (by repeat (first | exact Keeps.nil | refine Keeps.cons rfl ?_))) (by first | exact Sub.all | exact Sub.of_cnt (fun a => by (try dsimp only); simp only [cntA]; omega) | repeat (first | exact Sub.nil | refine Sub.cons (by first | exact .here | exact .there .here | exact .there (.there .here) | exact .there (.there (.there .here)) | exact .there (.there (.there (.there .here)))) ?_ | exact Sub.all)) (hmid1 (b11, b12) (by trivial))
      refine JA.mid (X := Nat × Nat) (fun _ => True) (fun ⟨b11, b12⟩ => [(1, .int .i64 (j : Int)), (2, .int .i64 (m : Int)), (3, .slice (some a) p.length cap), (4, .pointer (some ⟨b4, 0, none⟩)), (8, .slice none 0 0), (9, Row.v out.length q), (10, .int .i64 (k : Int)), (27, .pointer (some (a.add (k * 32)))), (24, .agg (arr8 y.1)), (28, .agg (arr8 e.1)), (11, .pointer (some ⟨b11, 0, none⟩))]) (fun ⟨b11, b12⟩ => (b11, Obj.cells (arr8 (List.replicate 32 0)) 22 (0, 0)) :: (b4, Obj.cells (arr8 y.1) 22 (0, 0)) :: Row.b 53 q) 3 #[true, true, true, true, true, true, false, false, false] ?_ (fun hmid4 => ?_)
      · -- state [0, 1, 2, 3, 4, 5]
        rintro ⟨b11, b12⟩ hq
        refine JA.branch [6] (by kernel_rfl) rfl ?_
        refine JAll.cons rfl ?_ JAll.nil
        refine JO.new rfl rfl rfl (.none rfl) (En.allocZ (cs := arr8 (List.replicate 32 0)) Tryd.zeroValue22 rfl) (fun b12 hb12 => ?_)
        exact JA.weak rfl (by kernel_rfl) (by exact Keeps.get (by repeat (first | exact Keeps.nil | refine Keeps.cons rfl ?_))) (by first | exact Sub.all | exact Sub.of_cnt (fun a => by (try dsimp only); simp only [cntA]; omega) | repeat (first | exact Sub.nil | refine Sub.cons (by first | exact .here | exact .there .here | exact .there (.there .here) | exact .there (.there (.there .here)) | exact .there (.there (.there (.there .here)))) ?_ | exact Sub.all)) (hmid3 (b11, b12) (by trivial))
      refine JA.mid (X := Nat × Nat) (fun _ => True) (fun ⟨b11, b12⟩ => [(1, .int .i64 (j : Int)), (2, .int .i64 (m : Int)), (3, .slice (some a) p.length cap), (4, .pointer (some ⟨b4, 0, none⟩)), (8, .slice none 0 0), (9, Row.v out.length q), (10, .int .i64 (k : Int)), (27, .pointer (some (a.add (k * 32)))), (24, .agg (arr8 y.1)), (28, .agg (arr8 e.1)), (12, .pointer (some ⟨b12, 0, none⟩))]) (fun ⟨b11, b12⟩ => (b12, Obj.cells (arr8 (List.replicate 32 0)) 22 (0, 0)) :: (b4, Obj.cells (arr8 y.1) 22 (0, 0)) :: Row.b 53 q) 3 #[true, true, true, true, true, false, true, false, false] ?_ (fun hmid5 => ?_)
      · -- state [0, 1, 2, 3, 4, 6]
        rintro ⟨b11, b12⟩ hq
        refine JA.branch [5] (by kernel_rfl) rfl ?_
        refine JAll.cons rfl ?_ JAll.nil
        refine JO.new rfl rfl rfl (.none rfl) (En.allocZ (cs := arr8 (List.replicate 32 0)) Tryd.zeroValue22 rfl) (fun b11 hb11 => ?_)
        exact JA.weak rfl (by kernel_rfl) (by exact Keeps.get (by repeat (first | exact Keeps.nil | refine Keeps.cons rfl ?_))) (by first | exact Sub.all | exact Sub.of_cnt (fun a => by (try dsimp only); simp only [cntA]; omega) | repeat (first | exact Sub.nil | refine Sub.cons (by first | exact .here | exact .there .here | exact .there (.there .here) | exact .there (.there (.there .here)) | exact .there (.there (.there (.there .here)))) ?_ | exact Sub.all)) (hmid3 (b11, b12) (by trivial))
      refine JA.mid (X := Nat × Nat) (fun _ => True) (fun ⟨b11, b12⟩ => [(1, .int .i64 (j : Int)), (2, .int .i64 (m : Int)), (3, .slice (some a) p.length cap), (4, .pointer (some ⟨b4, 0, none⟩)), (8, .slice none 0 0), (9, Row.v out.length q), (10, .int .i64 (k : Int)), (27, .pointer (some (a.add (k * 32)))), (24, .agg (arr8 y.1)), (11, .pointer (some ⟨b11, 0, none⟩)), (12, .pointer (some ⟨b12, 0, none⟩))]) (fun ⟨b11, b12⟩ => (b12, Obj.cells (arr8 (List.replicate 32 0)) 22 (0, 0)) :: (b11, Obj.cells (arr8 (List.replicate 32 0)) 22 (0, 0)) :: (b4, Obj.cells (arr8 y.1) 22 (0, 0)) :: Row.b 53 q) 3 #[true, true, true, true, false, true, true, false, false] ?_ (fun hmid6 => ?_)
      · -- state [0, 1, 2, 3, 5, 6]
        rintro ⟨b11, b12⟩ hq
        refine JA.branch [4, 7] (by kernel_rfl) rfl ?_
        refine JAll.cons rfl ?_ ?_
        · -- 4
          refine JO.val rfl rfl rfl (.none rfl) (Ev.loadD rfl Tryd.underlying22 rfl Tryd.sizeOf22 (Rds.old ((hd.mem a rfl).atD hek))) ?_
          exact JA.weak rfl (by kernel_rfl) (by exact Keeps.get (by repeat (first | exact Keeps.nil | refine Keeps.cons rfl ?_))) (by first | exact Sub.all | exact Sub.of_cnt (fun a => by (try dsimp only); simp only [cntA]; omega) | repeat (first | exact Sub.nil | refine Sub.cons (by first | exact .here | exact .there .here | exact .there (.there .here) | exact .there (.there (.there .here)) | exact .there (.there (.there (.there .here)))) ?_ | exact Sub.all)) (hmid3 (b11, b12) (by trivial))
        refine JAll.cons rfl ?_ JAll.nil
        refine JO.sto rfl rfl (.none rfl) (Es.storeA rfl rfl Tryd.sizeOf22 (by repeat (first | exact .here | apply Upd.there | apply Upd.left)) (by first | rfl | exact dig_size _ | (rw [arr8_size]; first | exact sha_length _ | exact shaO_length _ | assumption)) (by first | rfl | exact dig_size _ | (rw [arr8_size]; first | exact sha_length _ | exact shaO_length _ | assumption)) (by first | exact arr8_one _ | exact fun u hu => arr8_one (List.replicate 32 0) u hu | (simp; done) | (simp; exact ⟨rfl, rfl⟩))) ?_
        exact JA.weak rfl (by kernel_rfl) (by exact Keeps.get (by repeat (first | exact Keeps.nil | refine Keeps.cons rfl ?_))) (by first | exact Sub.all | exact Sub.of_cnt (fun a => by (try dsimp only); simp only [cntA]; omega) | repeat (first | exact Sub.nil | refine Sub.cons (by first | exact .here | exact .there .here | exact .there (.there .here) | exact .there (.there (.there .here)) | exact .there (.there (.there (.there .here)))) ?_ | exact Sub.all)) (hmid2 (b11, b12) (by trivial))
      refine JA.mid (X := Nat × Nat) (fun _ => True) (fun ⟨b11, b12⟩ => [(1, .int .i64 (j : Int)), (2, .int .i64 (m : Int)), (3, .slice (some a) p.length cap), (4, .pointer (some ⟨b4, 0, none⟩)), (8, .slice none 0 0), (9, Row.v out.length q), (10, .int .i64 (k : Int)), (27, .pointer (some (a.add (k * 32)))), (28, .agg (arr8 e.1)), (11, .pointer (some ⟨b11, 0, none⟩)), (12, .pointer (some ⟨b12, 0, none⟩))]) (fun ⟨b11, b12⟩ => (b12, Obj.cells (arr8 (List.replicate 32 0)) 22 (0, 0)) :: (b11, Obj.cells (arr8 (List.replicate 32 0)) 22 (0, 0)) :: (b4, Obj.cells (arr8 y.1) 22 (0, 0)) :: Row.b 53 q) 3 #[false, true, true, true, true, true, true, false, false] ?_ (fun hmid7 => ?_)
      · -- state [1, 2, 3, 4, 5, 6]
        rintro ⟨b11, b12⟩ hq
        refine JA.branch [0] (by kernel_rfl) rfl ?_
        refine JAll.cons rfl ?_ JAll.nil
        refine JO.val rfl rfl rfl (.none rfl) (Ev.loadB rfl (by repeat (first | exact List.Mem.head _ | refine List.Mem.tail _ ?_ | refine List.mem_append_right _ ?_ | assumption)) Tryd.underlying22 rfl Tryd.sizeOf22 (by first | rfl | exact dig_size _ | (rw [arr8_size]; first | exact sha_length _ | exact shaO_length _ | assumption))) ?_
        exact JA.weak rfl (by kernel_rfl) (by exact Keeps.get (by repeat (first | exact Keeps.nil | refine Keeps.cons rfl ?_))) (by first | exact Sub.all | exact Sub.of_cnt (fun a => by (try dsimp only); simp only [cntA]; omega) | repeat (first | exact Sub.nil | refine Sub.cons (by first | exact .here | exact .there .here | exact .there (.there .here) | exact .there (.there (.there .here)) | exact .there (.there (.there (.there .here)))) ?_ | exact Sub.all)) (hmid3 (b11, b12) (by trivial))
      refine JA.mid (X := Nat × Nat) (fun _ => True) (fun ⟨b11, b12⟩ => [(1, .int .i64 (j : Int)), (2, .int .i64 (m : Int)), (3, .slice (some a) p.length cap), (4, .pointer (some ⟨b4, 0, none⟩)), (8, .slice none 0 0), (9, Row.v out.length q), (10, .int .i64 (k : Int)), (27, .pointer (some (a.add (k * 32)))), (24, .agg (arr8 y.1)), (28, .agg (arr8 e.1))]) (fun ⟨b11, b12⟩ => (b4, Obj.cells (arr8 y.1) 22 (0, 0)) :: Row.b 53 q) 4 #[true, true, true, true, true, false, false, false, false] ?_ (fun hmid8 => ?_)
      · -- state [0, 1, 2, 3, 4]
        rintro ⟨b11, b12⟩ hq
        refine JA.branch [5, 6] (by kernel_rfl) rfl ?_
        refine JAll.cons rfl ?_ ?_
        · -- 5
          refine JO.new rfl rfl rfl (.none rfl) (En.allocZ (cs := arr8 (List.replicate 32 0)) Tryd.zeroValue22 rfl) (fun b11 hb11 => ?_)
          exact JA.weak rfl (by kernel_rfl) (by exact Keeps.get (by repeat (first | exact Keeps.nil | refine Keeps.cons rfl ?_))) (by first | exact Sub.all | exact Sub.of_cnt (fun a => by (try dsimp only); simp only [cntA]; omega) | repeat (first | exact Sub.nil | refine Sub.cons (by first | exact .here | exact .there .here | exact .there (.there .here) | exact .there (.there (.there .here)) | exact .there (.there (.there (.there .here)))) ?_ | exact Sub.all)) (hmid4 (b11, 0) (by trivial))
        refine JAll.cons rfl ?_ JAll.nil
        refine JO.new rfl rfl rfl (.none rfl) (En.allocZ (cs := arr8 (List.replicate 32 0)) Tryd.zeroValue22 rfl) (fun b12 hb12 => ?_)
        exact JA.weak rfl (by kernel_rfl) (by exact Keeps.get (by repeat (first | exact Keeps.nil | refine Keeps.cons rfl ?_))) (by first | exact Sub.all | exact Sub.of_cnt (fun a => by (try dsimp only); simp only [cntA]; omega) | repeat (first | exact Sub.nil | refine Sub.cons (by first | exact .here | exact .there .here | exact .there (.there .here) | exact .there (.there (.there .here)) | exact .there (.there (.there (.there .here)))) ?_ | exact Sub.all)) (hmid5 (0, b12) (by trivial))
      refine JA.mid (X := Nat × Nat) (fun _ => True) (fun ⟨b11, b12⟩ => [(1, .int .i64 (j : Int)), (2, .int .i64 (m : Int)), (3, .slice (some a) p.length cap), (4, .pointer (some ⟨b4, 0, none⟩)), (8, .slice none 0 0), (9, Row.v out.length q), (10, .int .i64 (k : Int)), (27, .pointer (some (a.add (k * 32)))), (24, .agg (arr8 y.1)), (11, .pointer (some ⟨b11, 0, none⟩))]) (fun ⟨b11, b12⟩ => (b11, Obj.cells (arr8 (List.replicate 32 0)) 22 (0, 0)) :: (b4, Obj.cells (arr8 y.1) 22 (0, 0)) :: Row.b 53 q) 4 #[true, true, true, true, false, true, false, false, false] ?_ (fun hmid9 => ?_)
      · -- state [0, 1, 2, 3, 5]
        rintro ⟨b11, b12⟩ hq
        refine JA.branch [4, 6] (by kernel_rfl) rfl ?_
        refine JAll.cons rfl ?_ ?_
        · -- 4
          refine JO.val rfl rfl rfl (.none rfl) (Ev.loadD rfl Tryd.underlying22 rfl Tryd.sizeOf22 (Rds.old ((hd.mem a rfl).atD hek))) ?_
          exact JA.weak rfl (by kernel_rfl) (by exact Keeps.get (by repeat (first | exact Keeps.nil | refine Keeps.cons rfl ?_))) (by first | exact Sub.all | exact Sub.of_cnt (fun a => by (try dsimp only); simp only [cntA]; omega) | repeat (first | exact Sub.nil | refine Sub.cons (by first | exact .here | exact .there .here | exact .there (.there .here) | exact .there (.there (.there .here)) | exact .there (.there (.there (.there .here)))) ?_ | exact Sub.all)) (hmid4 (b11, 0) (by trivial))
        refine JAll.cons rfl ?_ JAll.nil
        refine JO.new rfl rfl rfl (.none rfl) (En.allocZ (cs := arr8 (List.replicate 32 0)) Tryd.zeroValue22 rfl) (fun b12 hb12 => ?_)
        exact JA.weak rfl (by kernel_rfl) (by exact Keeps.get (by repeat (first | exact Keeps.nil | refine Keeps.cons rfl ?_))) (by first | exact Sub.all | exact Sub.of_cnt (fun a => by (try dsimp only); simp only [cntA]; omega) | repeat (first | exact Sub.nil | refine Sub.cons (by first | exact .here | exact .there .here | exact .there (.there .here) | exact .there (.there (.there .here)) | exact .there (.there (.there (.there .here)))) ?_ | exact Sub.all)) (hmid6 (b11, b12) (by trivial))
      refine JA.mid (X := Nat × Nat) (fun _ => True) (fun ⟨b11, b12⟩ => [(1, .int .i64 (j : Int)), (2, .int .i64 (m : Int)), (3, .slice (some a) p.length cap), (4, .pointer (some ⟨b4, 0, none⟩)), (8, .slice none 0 0), (9, Row.v out.length q), (10, .int .i64 (k : Int)), (27, .pointer (some (a.add (k * 32)))), (24, .agg (arr8 y.1)), (12, .pointer (some ⟨b12, 0, none⟩))]) (fun ⟨b11, b12⟩ => (b12, Obj.cells (arr8 (List.replicate 32 0)) 22 (0, 0)) :: (b4, Obj.cells (arr8 y.1) 22 (0, 0)) :: Row.b 53 q) 4 #[true, true, true, true, false, false, true, false, false] ?_ (fun hmid10 => ?_)
      · -- state [0, 1, 2, 3, 6]
        rintro ⟨b11, b12⟩ hq
        refine JA.branch [4, 5] (by kernel_rfl) rfl ?_
        refine JAll.cons rfl ?_ ?_
        · -- 4
          refine JO.val rfl rfl rfl (.none rfl) (Ev.loadD rfl Tryd.underlying22 rfl Tryd.sizeOf22 (Rds.old ((hd.mem a rfl).atD hek))) ?_
          exact JA.weak rfl (by kernel_rfl) (by exact Keeps.get (by repeat (first | exact Keeps.nil | refine Keeps.cons rfl ?_))) (by first | exact Sub.all | exact Sub.of_cnt (fun a => by (try dsimp only); simp only [cntA]; omega) | repeat (first | exact Sub.nil | refine Sub.cons (by first | exact .here | exact .there .here | exact .there (.there .here) | exact .there (.there (.there .here)) | exact .there (.there (.there (.there .here)))) ?_ | exact Sub.all)) (hmid5 (0, b12) (by trivial))
        refine JAll.cons rfl ?_ JAll.nil
        refine JO.new rfl rfl rfl (.none rfl) (En.allocZ (cs := arr8 (List.replicate 32 0)) Tryd.zeroValue22 rfl) (fun b11 hb11 => ?_)
        exact JA.weak rfl (by kernel_rfl) (by exact Keeps.get (by repeat (first | exact Keeps.nil | refine Keeps.cons rfl ?_))) (by first | exact Sub.all | exact Sub.of_cnt (fun a => by (try dsimp only); simp only [cntA]; omega) | repeat (first | exact Sub.nil | refine Sub.cons (by first | exact .here | exact .there .here | exact .there (.there .here) | exact .there (.there (.there .here)) | exact .there (.there (.there (.there .here)))) ?_ | exact Sub.all)) (hmid6 (b11, b12) (by trivial))
      refine JA.mid (X := Nat × Nat) (fun _ => True) (fun ⟨b11, b12⟩ => [(1, .int .i64 (j : Int)), (2, .int .i64 (m : Int)), (3, .slice (some a) p.length cap), (4, .pointer (some ⟨b4, 0, none⟩)), (8, .slice none 0 0), (9, Row.v out.length q), (10, .int .i64 (k : Int)), (27, .pointer (some (a.add (k * 32)))), (28, .agg (arr8 e.1)), (11, .pointer (some ⟨b11, 0, none⟩))]) (fun ⟨b11, b12⟩ => (b11, Obj.cells (arr8 (List.replicate 32 0)) 22 (0, 0)) :: (b4, Obj.cells (arr8 y.1) 22 (0, 0)) :: Row.b 53 q) 4 #[false, true, true, true, true, true, false, false, false] ?_ (fun hmid11 => ?_)
      · -- state [1, 2, 3, 4, 5]
        rintro ⟨b11, b12⟩ hq
        refine JA.branch [0, 6] (by kernel_rfl) rfl ?_
        refine JAll.cons rfl ?_ ?_
        · -- 0
          refine JO.val rfl rfl rfl (.none rfl) (Ev.loadB rfl (by repeat (first | exact List.Mem.head _ | refine List.Mem.tail _ ?_ | refine List.mem_append_right _ ?_ | assumption)) Tryd.underlying22 rfl Tryd.sizeOf22 (by first | rfl | exact dig_size _ | (rw [arr8_size]; first | exact sha_length _ | exact shaO_length _ | assumption))) ?_
          exact JA.weak rfl (by kernel_rfl) (by exact Keeps.get (by repeat (first | exact Keeps.nil | refine Keeps.cons rfl ?_))) (by first | exact Sub.all | exact Sub.of_cnt (fun a => by (try dsimp only); simp only [cntA]; omega) | repeat (first | exact Sub.nil | refine Sub.cons (by first | exact .here | exact .there .here | exact .there (.there .here) | exact .there (.there (.there .here)) | exact .there (.there (.there (.there .here)))) ?_ | exact Sub.all)) (hmid4 (b11, 0) (by trivial))
        refine JAll.cons rfl ?_ JAll.nil
        refine JO.new rfl rfl rfl (.none rfl) (En.allocZ (cs := arr8 (List.replicate 32 0)) Tryd.zeroValue22 rfl) (fun b12 hb12 => ?_)
        exact JA.weak rfl (by kernel_rfl) (by exact Keeps.get (by repeat (first | exact Keeps.nil | refine Keeps.cons rfl ?_))) (by first | exact Sub.all | exact Sub.of_cnt (fun a => by (try dsimp only); simp only [cntA]; omega) | repeat (first | exact Sub.nil | refine Sub.cons (by first | exact .here | exact .there .here | exact .there (.there .here) | exact .there (.there (.there .here)) | exact .there (.there (.there (.there .here)))) ?_ | exact Sub.all)) (hmid7 (b11, b12) (by trivial))
      refine JA.mid (X := Nat × Nat) (fun _ => True) (fun ⟨b11, b12⟩ => [(1, .int .i64 (j : Int)), (2, .int .i64 (m : Int)), (3, .slice (some a) p.length cap), (4, .pointer (some ⟨b4, 0, none⟩)), (8, .slice none 0 0), (9, Row.v out.length q), (10, .int .i64 (k : Int)), (27, .pointer (some (a.add (k * 32)))), (28, .agg (arr8 e.1)), (12, .pointer (some ⟨b12, 0, none⟩))]) (fun ⟨b11, b12⟩ => (b12, Obj.cells (arr8 (List.replicate 32 0)) 22 (0, 0)) :: (b4, Obj.cells (arr8 y.1) 22 (0, 0)) :: Row.b 53 q) 4 #[false, true, true, true, true, false, true, false, false] ?_ (fun hmid12 => ?_)
      · -- state [1, 2, 3, 4, 6]
        rintro ⟨b11, b12⟩ hq
        refine JA.branch [0, 5] (by kernel_rfl) rfl ?_
        refine JAll.cons rfl ?_ ?_
        · -- 0
          refine JO.val rfl rfl rfl (.none rfl) (Ev.loadB rfl (by repeat (first | exact List.Mem.head _ | refine List.Mem.tail _ ?_ | refine List.mem_append_right _ ?_ | assumption)) Tryd.underlying22 rfl Tryd.sizeOf22 (by first | rfl | exact dig_size _ | (rw [arr8_size]; first | exact sha_length _ | exact shaO_length _ | assumption))) ?_
          exact JA.weak rfl (by kernel_rfl) (by exact Keeps.get (by repeat (first | exact Keeps.nil | refine Keeps.cons rfl ?_))) (by first | exact Sub.all | exact Sub.of_cnt (fun a => by (try dsimp only); simp only [cntA]; omega) | repeat (first | exact Sub.nil | refine Sub.cons (by first | exact .here | exact .there .here | exact .there (.there .here) | exact .there (.there (.there .here)) | exact .there (.there (.there (.there .here)))) ?_ | exact Sub.all)) (hmid5 (0, b12) (by trivial))
        refine JAll.cons rfl ?_ JAll.nil
        refine JO.new rfl rfl rfl (.none rfl) (En.allocZ (cs := arr8 (List.replicate 32 0)) Tryd.zeroValue22 rfl) (fun b11 hb11 => ?_)
        exact JA.weak rfl (by kernel_rfl) (by exact Keeps.get (by repeat (first | exact Keeps.nil | refine Keeps.cons rfl ?_))) (by first | exact Sub.all | exact Sub.of_cnt (fun a => by (try dsimp only); simp only [cntA]; omega) | repeat (first | exact Sub.nil | refine Sub.cons (by first | exact .here | exact .there .here | exact .there (.there .here) | exact .there (.there (.there .here)) | exact .there (.there (.there (.there .here)))) ?_ | exact Sub.all)) (hmid7 (b11, b12) (by trivial))
      refine JA.mid (X := Nat × Nat) (fun _ => True) (fun ⟨b11, b12⟩ => [(1, .int .i64 (j : Int)), (2, .int .i64 (m : Int)), (3, .slice (some a) p.length cap), (4, .pointer (some ⟨b4, 0, none⟩)), (8, .slice none 0 0), (9, Row.v out.length q), (10, .int .i64 (k : Int)), (27, .pointer (some (a.add (k * 32)))), (11, .pointer (some ⟨b11, 0, none⟩)), (12, .pointer (some ⟨b12, 0, none⟩))]) (fun ⟨b11, b12⟩ => (b12, Obj.cells (arr8 (List.replicate 32 0)) 22 (0, 0)) :: (b11, Obj.cells (arr8 (List.replicate 32 0)) 22 (0, 0)) :: (b4, Obj.cells (arr8 y.1) 22 (0, 0)) :: Row.b 53 q) 4 #[false, true, true, true, false, true, true, false, false] ?_ (fun hmid13 => ?_)
      · -- state [1, 2, 3, 5, 6]
        rintro ⟨b11, b12⟩ hq
        refine JA.branch [0, 4] (by kernel_rfl) rfl ?_
        refine JAll.cons rfl ?_ ?_
        · -- 0
          refine JO.val rfl rfl rfl (.none rfl) (Ev.loadB rfl (by repeat (first | exact List.Mem.head _ | refine List.Mem.tail _ ?_ | refine List.mem_append_right _ ?_ | assumption)) Tryd.underlying22 rfl Tryd.sizeOf22 (by first | rfl | exact dig_size _ | (rw [arr8_size]; first | exact sha_length _ | exact shaO_length _ | assumption))) ?_
          exact JA.weak rfl (by kernel_rfl) (by exact Keeps.get (by repeat (first | exact Keeps.nil | refine Keeps.cons rfl ?_))) (by first | exact Sub.all | exact Sub.of_cnt (fun a => by (try dsimp only); simp only [cntA]; omega) | repeat (first | exact Sub.nil | refine Sub.cons (by first | exact .here | exact .there .here | exact .there (.there .here) | exact .there (.there (.there .here)) | exact .there (.there (.there (.there .here)))) ?_ | exact Sub.all)) (hmid6 (b11, b12) (by trivial))
        refine JAll.cons rfl ?_ JAll.nil
        refine JO.val rfl rfl rfl (.none rfl) (Ev.loadD rfl Tryd.underlying22 rfl Tryd.sizeOf22 (Rds.old ((hd.mem a rfl).atD hek))) ?_
        exact JA.weak rfl (by kernel_rfl) (by exact Keeps.get (by repeat (first | exact Keeps.nil | refine Keeps.cons rfl ?_))) (by first | exact Sub.all | exact Sub.of_cnt (fun a => by (try dsimp only); simp only [cntA]; omega) | repeat (first | exact Sub.nil | refine Sub.cons (by first | exact .here | exact .there .here | exact .there (.there .here) | exact .there (.there (.there .here)) | exact .there (.there (.there (.there .here)))) ?_ | exact Sub.all)) (hmid7 (b11, b12) (by trivial))
      refine JA.mid (X := Nat × Nat) (fun _ => True) (fun ⟨b11, b12⟩ => [(1, .int .i64 (j : Int)), (2, .int .i64 (m : Int)), (3, .slice (some a) p.length cap), (4, .pointer (some ⟨b4, 0, none⟩)), (8, .slice none 0 0), (9, Row.v out.length q), (10, .int .i64 (k : Int)), (27, .pointer (some (a.add (k * 32)))), (24, .agg (arr8 y.1))]) (fun ⟨b11, b12⟩ => (b4, Obj.cells (arr8 y.1) 22 (0, 0)) :: Row.b 53 q) 5 #[true, true, true, true, false, false, false, false, false] ?_ (fun hmid14 => ?_)
      · -- state [0, 1, 2, 3]
        rintro ⟨b11, b12⟩ hq
        refine JA.branch [4, 5, 6] (by kernel_rfl) rfl ?_
        refine JAll.cons rfl ?_ ?_
        · -- 4
          refine JO.val rfl rfl rfl (.none rfl) (Ev.loadD rfl Tryd.underlying22 rfl Tryd.sizeOf22 (Rds.old ((hd.mem a rfl).atD hek))) ?_
          exact JA.weak rfl (by kernel_rfl) (by exact Keeps.get (by repeat (first | exact Keeps.nil | refine Keeps.cons rfl ?_))) (by first | exact Sub.all | exact Sub.of_cnt (fun a => by (try dsimp only); simp only [cntA]; omega) | repeat (first | exact Sub.nil | refine Sub.cons (by first | exact .here | exact .there .here | exact .there (.there .here) | exact .there (.there (.there .here)) | exact .there (.there (.there (.there .here)))) ?_ | exact Sub.all)) (hmid8 (0, 0) (by trivial))
        refine JAll.cons rfl ?_ ?_
        · -- 5
          refine JO.new rfl rfl rfl (.none rfl) (En.allocZ (cs := arr8 (List.replicate 32 0)) Tryd.zeroValue22 rfl) (fun b11 hb11 => ?_)
          exact JA.weak rfl (by kernel_rfl) (by exact Keeps.get (by repeat (first | exact Keeps.nil | refine Keeps.cons rfl ?_))) (by first | exact Sub.all | exact Sub.of_cnt (fun a => by (try dsimp only); simp only [cntA]; omega) | repeat (first | exact Sub.nil | refine Sub.cons (by first | exact .here | exact .there .here | exact .there (.there .here) | exact .there (.there (.there .here)) | exact .there (.there (.there (.there .here)))) ?_ | exact Sub.all)) (hmid9 (b11, 0) (by trivial))
        refine JAll.cons rfl ?_ JAll.nil
        refine JO.new rfl rfl rfl (.none rfl) (En.allocZ (cs := arr8 (List.replicate 32 0)) Tryd.zeroValue22 rfl) (fun b12 hb12 => ?_)
        exact JA.weak rfl (by kernel_rfl) (by exact Keeps.get (by repeat (first | exact Keeps.nil | refine Keeps.cons rfl ?_))) (by first | exact Sub.all | exact Sub.of_cnt (fun a => by (try dsimp only); simp only [cntA]; omega) | repeat (first | exact Sub.nil | refine Sub.cons (by first | exact .here | exact .there .here | exact .there (.there .here) | exact .there (.there (.there .here)) | exact .there (.there (.there (.there .here)))) ?_ | exact Sub.all)) (hmid10 (0, b12) (by trivial))
      refine JA.mid (X := Nat × Nat) (fun _ => True) (fun ⟨b11, b12⟩ => [(1, .int .i64 (j : Int)), (2, .int .i64 (m : Int)), (3, .slice (some a) p.length cap), (4, .pointer (some ⟨b4, 0, none⟩)), (8, .slice none 0 0), (9, Row.v out.length q), (10, .int .i64 (k : Int)), (27, .pointer (some (a.add (k * 32)))), (28, .agg (arr8 e.1))]) (fun ⟨b11, b12⟩ => (b4, Obj.cells (arr8 y.1) 22 (0, 0)) :: Row.b 53 q) 5 #[false, true, true, true, true, false, false, false, false] ?_ (fun hmid15 => ?_)
      · -- state [1, 2, 3, 4]
        rintro ⟨b11, b12⟩ hq
        refine JA.branch [0, 5, 6] (by kernel_rfl) rfl ?_
        refine JAll.cons rfl ?_ ?_
        · -- 0
          refine JO.val rfl rfl rfl (.none rfl) (Ev.loadB rfl (by repeat (first | exact List.Mem.head _ | refine List.Mem.tail _ ?_ | refine List.mem_append_right _ ?_ | assumption)) Tryd.underlying22 rfl Tryd.sizeOf22 (by first | rfl | exact dig_size _ | (rw [arr8_size]; first | exact sha_length _ | exact shaO_length _ | assumption))) ?_
          exact JA.weak rfl (by kernel_rfl) (by exact Keeps.get (by repeat (first | exact Keeps.nil | refine Keeps.cons rfl ?_))) (by first | exact Sub.all | exact Sub.of_cnt (fun a => by (try dsimp only); simp only [cntA]; omega) | repeat (first | exact Sub.nil | refine Sub.cons (by first | exact .here | exact .there .here | exact .there (.there .here) | exact .there (.there (.there .here)) | exact .there (.there (.there (.there .here)))) ?_ | exact Sub.all)) (hmid8 (0, 0) (by trivial))
        refine JAll.cons rfl ?_ ?_
        · -- 5
          refine JO.new rfl rfl rfl (.none rfl) (En.allocZ (cs := arr8 (List.replicate 32 0)) Tryd.zeroValue22 rfl) (fun b11 hb11 => ?_)
          exact JA.weak rfl (by kernel_rfl) (by exact Keeps.get (by repeat (first | exact Keeps.nil | refine Keeps.cons rfl ?_))) (by first | exact Sub.all | exact Sub.of_cnt (fun a => by (try dsimp only); simp only [cntA]; omega) | repeat (first | exact Sub.nil | refine Sub.cons (by first | exact .here | exact .there .here | exact .there (.there .here) | exact .there (.there (.there .here)) | exact .there (.there (.there (.there .here)))) ?_ | exact Sub.all)) (hmid11 (b11, 0) (by trivial))
        refine JAll.cons rfl ?_ JAll.nil
        refine JO.new rfl rfl rfl (.none rfl) (En.allocZ (cs := arr8 (List.replicate 32 0)) Tryd.zeroValue22 rfl) (fun b12 hb12 => ?_)
        exact JA.weak rfl (by kernel_rfl) (by exact Keeps.get (by repeat (first | exact Keeps.nil | refine Keeps.cons rfl ?_))) (by first | exact Sub.all | exact Sub.of_cnt (fun a => by (try dsimp only); simp only [cntA]; omega) | repeat (first | exact Sub.nil | refine Sub.cons (by first | exact .here | exact .there .here | exact .there (.there .here) | exact .there (.there (.there .here)) | exact .there (.there (.there (.there .here)))) ?_ | exact Sub.all)) (hmid12 (0, b12) (by trivial))
      refine JA.mid (X := Nat × Nat) (fun _ => True) (fun ⟨b11, b12⟩ => [(1, .int .i64 (j : Int)), (2, .int .i64 (m : Int)), (3, .slice (some a) p.length cap), (4, .pointer (some ⟨b4, 0, none⟩)), (8, .slice none 0 0), (9, Row.v out.length q), (10, .int .i64 (k : Int)), (27, .pointer (some (a.add (k * 32)))), (11, .pointer (some ⟨b11, 0, none⟩))]) (fun ⟨b11, b12⟩ => (b11, Obj.cells (arr8 (List.replicate 32 0)) 22 (0, 0)) :: (b4, Obj.cells (arr8 y.1) 22 (0, 0)) :: Row.b 53 q) 5 #[false, true, true, true, false, true, false, false, false] ?_ (fun hmid16 => ?_)
      · -- state [1, 2, 3, 5]
        rintro ⟨b11, b12⟩ hq
        refine JA.branch [0, 4, 6] (by kernel_rfl) rfl ?_
        refine JAll.cons rfl ?_ ?_
        · -- 0
          refine JO.val rfl rfl rfl (.none rfl) (Ev.loadB rfl (by repeat (first | exact List.Mem.head _ | refine List.Mem.tail _ ?_ | refine List.mem_append_right _ ?_ | assumption)) Tryd.underlying22 rfl Tryd.sizeOf22 (by first | rfl | exact dig_size _ | (rw [arr8_size]; first | exact sha_length _ | exact shaO_length _ | assumption))) ?_
          exact JA.weak rfl (by kernel_rfl) (by exact Keeps.get (by repeat (first | exact Keeps.nil | refine Keeps.cons rfl ?_))) (by first | exact Sub.all | exact Sub.of_cnt (fun a => by (try dsimp only); simp only [cntA]; omega) | repeat (first | exact Sub.nil | refine Sub.cons (by first | exact .here | exact .there .here | exact .there (.there .here) | exact .there (.there (.there .here)) | exact .there (.there (.there (.there .here)))) ?_ | exact Sub.all)) (hmid9 (b11, 0) (by trivial))
        refine JAll.cons rfl ?_ ?_
        · -- 4
          refine JO.val rfl rfl rfl (.none rfl) (Ev.loadD rfl Tryd.underlying22 rfl Tryd.sizeOf22 (Rds.old ((hd.mem a rfl).atD hek))) ?_
          exact JA.weak rfl (by kernel_rfl) (by exact Keeps.get (by repeat (first | exact Keeps.nil | refine Keeps.cons rfl ?_))) (by first | exact Sub.all | exact Sub.of_cnt (fun a => by (try dsimp only); simp only [cntA]; omega) | repeat (first | exact Sub.nil | refine Sub.cons (by first | exact .here | exact .there .here | exact .there (.there .here) | exact .there (.there (.there .here)) | exact .there (.there (.there (.there .here)))) ?_ | exact Sub.all)) (hmid11 (b11, 0) (by trivial))
        refine JAll.cons rfl ?_ JAll.nil
        refine JO.new rfl rfl rfl (.none rfl) (En.allocZ (cs := arr8 (List.replicate 32 0)) Tryd.zeroValue22 rfl) (fun b12 hb12 => ?_)
        exact JA.weak rfl (by kernel_rfl) (by exact Keeps.get (by repeat (first | exact Keeps.nil | refine Keeps.cons rfl ?_))) (by first | exact Sub.all | exact Sub.of_cnt (fun a => by (try dsimp only); simp only [cntA]; omega) | repeat (first | exact Sub.nil | refine Sub.cons (by first | exact .here | exact .there .here | exact .there (.there .here) | exact .there (.there (.there .here)) | exact .there (.there (.there (.there .here)))) ?_ | exact Sub.all)) (hmid13 (b11, b12) (by trivial))
      refine JA.mid (X := Nat × Nat) (fun _ => True) (fun ⟨b11, b12⟩ => [(1, .int .i64 (j : Int)), (2, .int .i64 (m : Int)), (3, .slice (some a) p.length cap), (4, .pointer (some ⟨b4, 0, none⟩)), (8, .slice none 0 0), (9, Row.v out.length q), (10, .int .i64 (k : Int)), (27, .pointer (some (a.add (k * 32)))), (12, .pointer (some ⟨b12, 0, none⟩))]) (fun ⟨b11, b12⟩ => (b12, Obj.cells (arr8 (List.replicate 32 0)) 22 (0, 0)) :: (b4, Obj.cells (arr8 y.1) 22 (0, 0)) :: Row.b 53 q) 5 #[false, true, true, true, false, false, true, false, false] ?_ (fun hmid17 => ?_)
      · -- state [1, 2, 3, 6]
        rintro ⟨b11, b12⟩ hq
        refine JA.branch [0, 4, 5] (by kernel_rfl) rfl ?_
        refine JAll.cons rfl ?_ ?_
        · -- 0
          refine JO.val rfl rfl rfl (.none rfl) (Ev.loadB rfl (by repeat (first | exact List.Mem.head _ | refine List.Mem.tail _ ?_ | refine List.mem_append_right _ ?_ | assumption)) Tryd.underlying22 rfl Tryd.sizeOf22 (by first | rfl | exact dig_size _ | (rw [arr8_size]; first | exact sha_length _ | exact shaO_length _ | assumption))) ?_
          exact JA.weak rfl (by kernel_rfl) (by exact Keeps.get (by repeat (first | exact Keeps.nil | refine Keeps.cons rfl ?_))) (by first | exact Sub.all | exact Sub.of_cnt (fun a => by (try dsimp only); simp only [cntA]; omega) | repeat (first | exact Sub.nil | refine Sub.cons (by first | exact .here | exact .there .here | exact .there (.there .here) | exact .there (.there (.there .here)) | exact .there (.there (.there (.there .here)))) ?_ | exact Sub.all)) (hmid10 (0, b12) (by trivial))
        refine JAll.cons rfl ?_ ?_
        · -- 4
          refine JO.val rfl rfl rfl (.none rfl) (Ev.loadD rfl Tryd.underlying22 rfl Tryd.sizeOf22 (Rds.old ((hd.mem a rfl).atD hek))) ?_
          exact JA.weak rfl (by kernel_rfl) (by exact Keeps.get (by repeat (first | exact Keeps.nil | refine Keeps.cons rfl ?_))) (by first | exact Sub.all | exact Sub.of_cnt (fun a => by (try dsimp only); simp only [cntA]; omega) | repeat (first | exact Sub.nil | refine Sub.cons (by first | exact .here | exact .there .here | exact .there (.there .here) | exact .there (.there (.there .here)) | exact .there (.there (.there (.there .here)))) ?_ | exact Sub.all)) (hmid12 (0, b12) (by trivial))
        refine JAll.cons rfl ?_ JAll.nil
        refine JO.new rfl rfl rfl (.none rfl) (En.allocZ (cs := arr8 (List.replicate 32 0)) Tryd.zeroValue22 rfl) (fun b11 hb11 => ?_)
        exact JA.weak rfl (by kernel_rfl) (by exact Keeps.get (by repeat (first | exact Keeps.nil | refine Keeps.cons rfl ?_))) (by first | exact Sub.all | exact Sub.of_cnt (fun a => by (try dsimp only); simp only [cntA]; omega) | repeat (first | exact Sub.nil | refine Sub.cons (by first | exact .here | exact .there .here | exact .there (.there .here) | exact .there (.there (.there .here)) | exact .there (.there (.there (.there .here)))) ?_ | exact Sub.all)) (hmid13 (b11, b12) (by trivial))
      refine JA.takeR 1 (by kernel_rfl) rfl rfl rfl (by kernel_rfl) (by kernel_rfl) (by kernel_rfl) (fun _ _ _ h => h) (fun _ _ => rfl) (.none rfl) (fun _ => (Ev.move rfl)) ?_
      refine JA.takeR 2 (by kernel_rfl) rfl rfl rfl (by kernel_rfl) (by kernel_rfl) (by kernel_rfl) (fun _ _ _ h => h) (fun _ _ => rfl) (.none rfl) (fun _ => (Ev.move rfl)) ?_
      refine JA.takeR 3 (by kernel_rfl) rfl rfl rfl (by kernel_rfl) (by kernel_rfl) (by kernel_rfl) (fun _ _ _ h => h) (fun _ _ => rfl) (.none rfl) (fun _ => (Ev.idxS rfl rfl Tryd.underlying23 Tryd.sizeOf22 (k := k) rfl hkl)) ?_
      refine JA.branch [0, 4, 5, 6] (by kernel_rfl) rfl ?_
      refine JAll.cons rfl ?_ ?_
      · -- 0
        refine JO.val rfl rfl rfl (.none rfl) (Ev.loadB rfl (by repeat (first | exact List.Mem.head _ | refine List.Mem.tail _ ?_ | refine List.mem_append_right _ ?_ | assumption)) Tryd.underlying22 rfl Tryd.sizeOf22 (by first | rfl | exact dig_size _ | (rw [arr8_size]; first | exact sha_length _ | exact shaO_length _ | assumption))) ?_
        exact JA.weak rfl (by kernel_rfl) (by exact Keeps.get (by repeat (first | exact Keeps.nil | refine Keeps.cons rfl ?_))) (by first | exact Sub.all | exact Sub.of_cnt (fun a => by (try dsimp only); simp only [cntA]; omega) | repeat (first | exact Sub.nil | refine Sub.cons (by first | exact .here | exact .there .here | exact .there (.there .here) | exact .there (.there (.there .here)) | exact .there (.there (.there (.there .here)))) ?_ | exact Sub.all)) (hmid14 (0, 0) (by trivial))
      refine JAll.cons rfl ?_ ?_
      · -- 4
        refine JO.val rfl rfl rfl (.none rfl) (Ev.loadD rfl Tryd.underlying22 rfl Tryd.sizeOf22 (Rds.old ((hd.mem a rfl).atD hek))) ?_
        exact JA.weak rfl (by kernel_rfl) (by exact Keeps.get (by repeat (first | exact Keeps.nil | refine Keeps.cons rfl ?_))) (by first | exact Sub.all | exact Sub.of_cnt (fun a => by (try dsimp only); simp only [cntA]; omega) | repeat (first | exact Sub.nil | refine Sub.cons (by first | exact .here | exact .there .here | exact .there (.there .here) | exact .there (.there (.there .here)) | exact .there (.there (.there (.there .here)))) ?_ | exact Sub.all)) (hmid15 (0, 0) (by trivial))
      refine JAll.cons rfl ?_ ?_
      · -- 5
        refine JO.new rfl rfl rfl (.none rfl) (En.allocZ (cs := arr8 (List.replicate 32 0)) Tryd.zeroValue22 rfl) (fun b11 hb11 => ?_)
        exact JA.weak rfl (by kernel_rfl) (by exact Keeps.get (by repeat (first | exact Keeps.nil | refine Keeps.cons rfl ?_))) (by first | exact Sub.all | exact Sub.of_cnt (fun a => by (try dsimp only); simp only [cntA]; omega) | repeat (first | exact Sub.nil | refine Sub.cons (by first | exact .here | exact .there .here | exact .there (.there .here) | exact .there (.there (.there .here)) | exact .there (.there (.there (.there .here)))) ?_ | exact Sub.all)) (hmid16 (b11, 0) (by trivial))
      refine JAll.cons rfl ?_ JAll.nil
      refine JO.new rfl rfl rfl (.none rfl) (En.allocZ (cs := arr8 (List.replicate 32 0)) Tryd.zeroValue22 rfl) (fun b12 hb12 => ?_)
      exact JA.weak rfl (by kernel_rfl) (by exact Keeps.get (by repeat (first | exact Keeps.nil | refine Keeps.cons rfl ?_))) (by first | exact Sub.all | exact Sub.of_cnt (fun a => by (try dsimp only); simp only [cntA]; omega) | repeat (first | exact Sub.nil | refine Sub.cons (by first | exact .here | exact .there .here | exact .there (.there .here) | exact .there (.there (.there .here)) | exact .there (.there (.there (.there .here)))) ?_ | exact Sub.all)) (hmid17 (0, b12) (by trivial))
    · -- guard 18 false
      have hodd : ¬ j % 2 = 1 := by have := of_decide_eq_false hgO; omega
      refine JL.val rfl rfl rfl (.yes rfl rfl rfl) (Ev.move rfl) ?_
      refine JL.val rfl rfl rfl (.yes rfl rfl rfl) (Ev.bin rfl rfl (add_i64 (by omega))) ?_
      refine JL.val rfl rfl rfl (.yes rfl rfl rfl) (Ev.move rfl) ?_
      refine JL.val rfl rfl rfl (.yes rfl rfl rfl) (Ev.bin rfl rfl lss_int) ?_
      refine JL.val rfl rfl rfl (.none rfl) (Ev.pickF rfl rfl) ?_
      refine JL.nil ?_
      refine JQ.thenN ?_
      refine JC.cond rfl (fun hcT => ?_) (fun hcT => ?_)
      · -- t23 True
        replace hcT := of_decide_eq_true hcT
        refine JC.seq ?_
        have hT : isT j m = true := decide_eq_true (by omega)
        rw [hT, if_pos rfl] at hsu
        have hkl : k < p.length := by have := List.length_drop (i := k) (l := p); omega
        obtain ⟨e, hek⟩ := get_some hkl
        obtain ⟨a, rfl⟩ := Cs.get_some hd (by omega)
        have hwy := way_yes hm2 hjm hT hek hst2 hw2
        -- region 5
        refine JC.regionA (by kernel_rfl) ?_
        refine JA.mid (X := Nat × Nat) (fun _ => True) (fun ⟨b11, b12⟩ => [(1, .int .i64 (j : Int)), (2, .int .i64 (m : Int)), (3, .slice (some a) p.length cap), (4, .pointer (some ⟨b4, 0, none⟩)), (8, .slice none 0 0), (9, Row.v out.length q), (10, .int .i64 (k : Int)), (27, .pointer (some (a.add (k * 32)))), (24, .agg (arr8 y.1)), (28, .agg (arr8 e.1)), (11, .pointer (some ⟨b11, 0, none⟩)), (12, .pointer (some ⟨b12, 0, none⟩))]) (fun ⟨b11, b12⟩ => (b12, Obj.cells (arr8 e.1) 22 (0, 0)) :: (b11, Obj.cells (arr8 y.1) 22 (0, 0)) :: (b4, Obj.cells (arr8 y.1) 22 (0, 0)) :: Row.b 53 q) 0 #[true, true, true, true, true, true, true, true, true] ?_ (fun hmid0 => ?_)
        · -- state [0, 1, 2, 3, 4, 5, 6, 7, 8]
          rintro ⟨b11, b12⟩ hq
          refine JA.done (by kernel_rfl) ?_
          refine JQ.thenN ?_
          refine JC.seq ?_
          refine JC.seq ?_
          -- region 6
          refine JC.region ?_
          refine JL.val rfl rfl rfl (.none rfl) (Ev.move rfl) ?_
          refine JL.val rfl rfl rfl (.none rfl) (Ev.bin rfl rfl (rem_i64 (by omega))) ?_
          refine JL.val rfl rfl rfl (.none rfl) (Ev.bin rfl rfl eql_int) ?_
          refine JL.nil ?_
          refine JQ.thenN ?_
          refine JC.cond rfl (fun hc3 => ?_) (fun hc3 => ?_)
          · -- t31 True
            replace hc3 := of_decide_eq_true hc3
            have ho1 : j % 2 = 1 := by omega
            have hsd : nodeD e y = stepD j y e := (if_pos ho1).symm
            have hpd : [(e, y)] = [pairD j y e] := by rw [pairD, if_pos ho1]
            -- region 7
            refine JC.region ?_
            refine JL.val rfl rfl rfl (.none rfl) (Ev.loadB rfl (by repeat (first | exact List.Mem.head _ | refine List.Mem.tail _ ?_ | refine List.mem_append_right _ ?_ | assumption)) Tryd.underlying22 rfl Tryd.sizeOf22 (by first | rfl | exact dig_size _ | (rw [arr8_size]; first | exact sha_length _ | exact shaO_length _ | assumption))) ?_
            refine JL.val rfl rfl rfl (.none rfl) (Ev.loadB rfl (by repeat (first | exact List.Mem.head _ | refine List.Mem.tail _ ?_ | refine List.mem_append_right _ ?_ | assumption)) Tryd.underlying22 rfl Tryd.sizeOf22 (by first | rfl | exact dig_size _ | (rw [arr8_size]; first | exact sha_length _ | exact shaO_length _ | assumption))) ?_
            refine JL.sto rfl rfl (.none rfl) (Es.storeA rfl rfl Tryd.sizeOf22 (by repeat (first | exact .here | apply Upd.there | apply Upd.left)) (by first | rfl | exact dig_size _ | (rw [arr8_size]; first | exact sha_length _ | exact shaO_length _ | assumption)) (by first | rfl | exact dig_size _ | (rw [arr8_size]; first | exact sha_length _ | exact shaO_length _ | assumption)) (by first | exact arr8_one _ | exact fun u hu => arr8_one (List.replicate 32 0) u hu | (simp; done) | (simp; exact ⟨rfl, rfl⟩))) ?_
            refine JL.sto rfl rfl (.none rfl) (Es.storeA rfl rfl Tryd.sizeOf22 (by repeat (first | exact .here | apply Upd.there | apply Upd.left)) (by first | rfl | exact dig_size _ | (rw [arr8_size]; first | exact sha_length _ | exact shaO_length _ | assumption)) (by first | rfl | exact dig_size _ | (rw [arr8_size]; first | exact sha_length _ | exact shaO_length _ | assumption)) (by first | exact arr8_one _ | exact fun u hu => arr8_one (List.replicate 32 0) u hu | (simp; done) | (simp; exact ⟨rfl, rfl⟩))) ?_
            refine JL.nil ?_
            refine JQ.thenN ?_
            refine JC.seq ?_
            -- region 8
            refine JC.region ?_
            refine JL.val rfl rfl rfl (.none rfl) (Ev.move rfl) ?_
            refine JL.val rfl rfl rfl (.none rfl) (Ev.loadB rfl (by repeat (first | exact List.Mem.head _ | refine List.Mem.tail _ ?_ | refine List.mem_append_right _ ?_ | assumption)) Tryd.underlying22 rfl Tryd.sizeOf22 (by first | rfl | exact dig_size _ | (rw [arr8_size]; first | exact sha_length _ | exact shaO_length _ | assumption))) ?_
            refine JL.val rfl rfl rfl (.none rfl) (Ev.loadB rfl (by repeat (first | exact List.Mem.head _ | refine List.Mem.tail _ ?_ | refine List.mem_append_right _ ?_ | assumption)) Tryd.underlying22 rfl Tryd.sizeOf22 (by first | rfl | exact dig_size _ | (rw [arr8_size]; first | exact sha_length _ | exact shaO_length _ | assumption))) ?_
            refine JL.val rfl rfl rfl (.none rfl) (Ev.buP rfl rfl Tryd.underlying53 Tryd.sizeOf22 Tryd.zeroValue53 rfl) ?_
            refine JL.new rfl rfl rfl (.none rfl) (En.bs1P rfl Tryd.underlying50 Tryd.sizeOf53 Tryd.zeroValue53) (fun b38 hb38 => ?_)
            refine JL.gen rfl rfl rfl (.none rfl) (Eg.append1 (z := (.agg (arr8 (List.replicate 64 0)))) (s := 64) (bytes := 64) rfl rfl rfl (by repeat (first | exact .last | exact .here | apply Cut.past | apply Cut.there)) Tryd.underlying50 (by kernel_rfl) rfl (by decide) (by decide) (by assumption) (Rds.all (by repeat (first | exact List.Mem.head _ | refine List.Mem.tail _ ?_ | refine List.mem_append_right _ ?_ | assumption))) (fp_length _) (by decide) (fp_one _) (by omega)) ?_
            rintro _ _ ⟨r39, rfl, rfl, hr39⟩
            refine JL.val rfl rfl rfl (.none rfl) (Ev.assign rfl) ?_
            refine JL.nil ?_
            refine JQ.thenN ?_
            refine JC.seq ?_
            -- region 9
            refine JC.region ?_
            refine JL.val rfl rfl rfl (.none rfl) (Ev.loadB rfl (by repeat (first | exact List.Mem.head _ | refine List.Mem.tail _ ?_ | refine List.mem_append_right _ ?_ | assumption)) Tryd.underlying22 rfl Tryd.sizeOf22 (by first | rfl | exact dig_size _ | (rw [arr8_size]; first | exact sha_length _ | exact shaO_length _ | assumption))) ?_
            refine JL.val rfl rfl rfl (.none rfl) (Ev.loadB rfl (by repeat (first | exact List.Mem.head _ | refine List.Mem.tail _ ?_ | refine List.mem_append_right _ ?_ | assumption)) Tryd.underlying22 rfl Tryd.sizeOf22 (by first | rfl | exact dig_size _ | (rw [arr8_size]; first | exact sha_length _ | exact shaO_length _ | assumption))) ?_
            refine JL.callV rfl (.none rfl) rfl Tryd.call23 (fun w1 hw1 => nodeG_any _ _ w1 (hk.old hw1) (hf.old hw1)) ?_
            refine JL.sto rfl rfl (.none rfl) (Es.storeA rfl rfl Tryd.sizeOf22 (by repeat (first | exact .here | apply Upd.there | apply Upd.left)) (by first | rfl | exact dig_size _ | (rw [arr8_size]; first | exact sha_length _ | exact shaO_length _ | assumption)) (by first | rfl | exact dig_size _ | (rw [arr8_size]; first | exact sha_length _ | exact shaO_length _ | assumption)) (by first | exact arr8_one _ | exact fun u hu => arr8_one (List.replicate 32 0) u hu | (simp; done) | (simp; exact ⟨rfl, rfl⟩))) ?_
            refine JL.nil ?_
            refine JQ.thenN ?_
            -- region 10
            refine JC.region ?_
            refine JL.val rfl rfl rfl (.none rfl) (Ev.move rfl) ?_
            refine JL.val rfl rfl rfl (.none rfl) (Ev.bin rfl rfl (add_i64 (by omega))) ?_
            refine JL.val rfl rfl rfl (.none rfl) (Ev.assign rfl) ?_
            refine JL.nil ?_
            refine JQ.thenN ?_
            refine JC.seq ?_
            -- region 11
            refine JC.region ?_
            refine JL.val rfl rfl rfl (.none rfl) (Ev.move rfl) ?_
            refine JL.val rfl rfl rfl (.none rfl) (Ev.bin rfl rfl (quo_i64 (by omega))) ?_
            refine JL.val rfl rfl rfl (.none rfl) (Ev.assign rfl) ?_
            refine JL.nil ?_
            refine JQ.thenN ?_
            -- region 12
            refine JC.region ?_
            refine JL.val rfl rfl rfl (.none rfl) (Ev.move rfl) ?_
            refine JL.val rfl rfl rfl (.none rfl) (Ev.bin rfl rfl (add_i64 (by omega))) ?_
            refine JL.val rfl rfl rfl (.none rfl) (Ev.bin rfl rfl (quo_i64 (by omega))) ?_
            refine JL.val rfl rfl rfl (.none rfl) (Ev.assign rfl) ?_
            refine JL.nil ?_
            refine JQ.blockN ?_
            refine JQ.reH (b := b4) (o' := Obj.cells (arr8 (stepD j y e).1) 22 (0, 0)) (by repeat (first | exact .here | apply Upd.there | apply Upd.left)) (congrArg (fun x : Dig => Obj.cells (arr8 x.1) 22 (0, 0)) hsd) ?_
            refine JQ.re (d := 9) (v' := Row.v (out ++ [pairD j y e]).length (some r39)) rfl (by rw [List.length_append]; rfl) ?_
            refine JQ.re (d := 1) (v' := .int .i64 ((j / 2 : Nat) : Int)) rfl (congrArg (Value.int .i64) (by omega)) ?_
            refine JQ.re (d := 2) (v' := .int .i64 (((m + 1) / 2 : Nat) : Int)) rfl (congrArg (Value.int .i64) (by omega)) ?_
            refine JQ.loopN (k + 1, j / 2, (m + 1) / 2, stepD j y e, out ++ [pairD j y e], some r39) ?_ ?_ ?_ ?_
            · exact Keeps.get (by repeat (first | exact Keeps.nil | refine Keeps.cons rfl ?_))
            · first | exact Sub.all | exact Sub.of_cnt (fun a => by (try dsimp only); simp only [cntA]; omega) | repeat (first | exact Sub.nil | refine Sub.cons (by first | exact .here | exact .there .here | exact .there (.there .here) | exact .there (.there (.there .here)) | exact .there (.there (.there (.there .here)))) ?_ | exact Sub.all)
            · exact ⟨by omega, by omega, hwy.1, hwy.2, by rw [List.length_append, fp_append, ← hpd]; exact hr39, by rw [List.length_append, hlen]; rfl, hkl⟩
            · show (m + 1) / 2 < m; omega
          · -- t31 False
            replace hc3 := of_decide_eq_false hc3
            have ho1 : ¬ j % 2 = 1 := by omega
            have hsd : nodeD y e = stepD j y e := (if_neg ho1).symm
            have hpd : [(y, e)] = [pairD j y e] := by rw [pairD, if_neg ho1]
            refine JC.skip ?_
            refine JQ.thenN ?_
            refine JC.seq ?_
            -- region 8
            refine JC.region ?_
            refine JL.val rfl rfl rfl (.none rfl) (Ev.move rfl) ?_
            refine JL.val rfl rfl rfl (.none rfl) (Ev.loadB rfl (by repeat (first | exact List.Mem.head _ | refine List.Mem.tail _ ?_ | refine List.mem_append_right _ ?_ | assumption)) Tryd.underlying22 rfl Tryd.sizeOf22 (by first | rfl | exact dig_size _ | (rw [arr8_size]; first | exact sha_length _ | exact shaO_length _ | assumption))) ?_
            refine JL.val rfl rfl rfl (.none rfl) (Ev.loadB rfl (by repeat (first | exact List.Mem.head _ | refine List.Mem.tail _ ?_ | refine List.mem_append_right _ ?_ | assumption)) Tryd.underlying22 rfl Tryd.sizeOf22 (by first | rfl | exact dig_size _ | (rw [arr8_size]; first | exact sha_length _ | exact shaO_length _ | assumption))) ?_
            refine JL.val rfl rfl rfl (.none rfl) (Ev.buP rfl rfl Tryd.underlying53 Tryd.sizeOf22 Tryd.zeroValue53 rfl) ?_
            refine JL.new rfl rfl rfl (.none rfl) (En.bs1P rfl Tryd.underlying50 Tryd.sizeOf53 Tryd.zeroValue53) (fun b38 hb38 => ?_)
            refine JL.gen rfl rfl rfl (.none rfl) (Eg.append1 (z := (.agg (arr8 (List.replicate 64 0)))) (s := 64) (bytes := 64) rfl rfl rfl (by repeat (first | exact .last | exact .here | apply Cut.past | apply Cut.there)) Tryd.underlying50 (by kernel_rfl) rfl (by decide) (by decide) (by assumption) (Rds.all (by repeat (first | exact List.Mem.head _ | refine List.Mem.tail _ ?_ | refine List.mem_append_right _ ?_ | assumption))) (fp_length _) (by decide) (fp_one _) (by omega)) ?_
            rintro _ _ ⟨r39, rfl, rfl, hr39⟩
            refine JL.val rfl rfl rfl (.none rfl) (Ev.assign rfl) ?_
            refine JL.nil ?_
            refine JQ.thenN ?_
            refine JC.seq ?_
            -- region 9
            refine JC.region ?_
            refine JL.val rfl rfl rfl (.none rfl) (Ev.loadB rfl (by repeat (first | exact List.Mem.head _ | refine List.Mem.tail _ ?_ | refine List.mem_append_right _ ?_ | assumption)) Tryd.underlying22 rfl Tryd.sizeOf22 (by first | rfl | exact dig_size _ | (rw [arr8_size]; first | exact sha_length _ | exact shaO_length _ | assumption))) ?_
            refine JL.val rfl rfl rfl (.none rfl) (Ev.loadB rfl (by repeat (first | exact List.Mem.head _ | refine List.Mem.tail _ ?_ | refine List.mem_append_right _ ?_ | assumption)) Tryd.underlying22 rfl Tryd.sizeOf22 (by first | rfl | exact dig_size _ | (rw [arr8_size]; first | exact sha_length _ | exact shaO_length _ | assumption))) ?_
            refine JL.callV rfl (.none rfl) rfl Tryd.call23 (fun w1 hw1 => nodeG_any _ _ w1 (hk.old hw1) (hf.old hw1)) ?_
            refine JL.sto rfl rfl (.none rfl) (Es.storeA rfl rfl Tryd.sizeOf22 (by repeat (first | exact .here | apply Upd.there | apply Upd.left)) (by first | rfl | exact dig_size _ | (rw [arr8_size]; first | exact sha_length _ | exact shaO_length _ | assumption)) (by first | rfl | exact dig_size _ | (rw [arr8_size]; first | exact sha_length _ | exact shaO_length _ | assumption)) (by first | exact arr8_one _ | exact fun u hu => arr8_one (List.replicate 32 0) u hu | (simp; done) | (simp; exact ⟨rfl, rfl⟩))) ?_
            refine JL.nil ?_
            refine JQ.thenN ?_
            -- region 10
            refine JC.region ?_
            refine JL.val rfl rfl rfl (.none rfl) (Ev.move rfl) ?_
            refine JL.val rfl rfl rfl (.none rfl) (Ev.bin rfl rfl (add_i64 (by omega))) ?_
            refine JL.val rfl rfl rfl (.none rfl) (Ev.assign rfl) ?_
            refine JL.nil ?_
            refine JQ.thenN ?_
            refine JC.seq ?_
            -- region 11
            refine JC.region ?_
            refine JL.val rfl rfl rfl (.none rfl) (Ev.move rfl) ?_
            refine JL.val rfl rfl rfl (.none rfl) (Ev.bin rfl rfl (quo_i64 (by omega))) ?_
            refine JL.val rfl rfl rfl (.none rfl) (Ev.assign rfl) ?_
            refine JL.nil ?_
            refine JQ.thenN ?_
            -- region 12
            refine JC.region ?_
            refine JL.val rfl rfl rfl (.none rfl) (Ev.move rfl) ?_
            refine JL.val rfl rfl rfl (.none rfl) (Ev.bin rfl rfl (add_i64 (by omega))) ?_
            refine JL.val rfl rfl rfl (.none rfl) (Ev.bin rfl rfl (quo_i64 (by omega))) ?_
            refine JL.val rfl rfl rfl (.none rfl) (Ev.assign rfl) ?_
            refine JL.nil ?_
            refine JQ.blockN ?_
            refine JQ.reH (b := b4) (o' := Obj.cells (arr8 (stepD j y e).1) 22 (0, 0)) (by repeat (first | exact .here | apply Upd.there | apply Upd.left)) (congrArg (fun x : Dig => Obj.cells (arr8 x.1) 22 (0, 0)) hsd) ?_
            refine JQ.re (d := 9) (v' := Row.v (out ++ [pairD j y e]).length (some r39)) rfl (by rw [List.length_append]; rfl) ?_
            refine JQ.re (d := 1) (v' := .int .i64 ((j / 2 : Nat) : Int)) rfl (congrArg (Value.int .i64) (by omega)) ?_
            refine JQ.re (d := 2) (v' := .int .i64 (((m + 1) / 2 : Nat) : Int)) rfl (congrArg (Value.int .i64) (by omega)) ?_
            refine JQ.loopN (k + 1, j / 2, (m + 1) / 2, stepD j y e, out ++ [pairD j y e], some r39) ?_ ?_ ?_ ?_
            · exact Keeps.get (by repeat (first | exact Keeps.nil | refine Keeps.cons rfl ?_))
            · first | exact Sub.all | exact Sub.of_cnt (fun a => by (try dsimp only); simp only [cntA]; omega) | repeat (first | exact Sub.nil | refine Sub.cons (by first | exact .here | exact .there .here | exact .there (.there .here) | exact .there (.there (.there .here)) | exact .there (.there (.there (.there .here)))) ?_ | exact Sub.all)
            · exact ⟨by omega, by omega, hwy.1, hwy.2, by rw [List.length_append, fp_append, ← hpd]; exact hr39, by rw [List.length_append, hlen]; rfl, hkl⟩
            · show (m + 1) / 2 < m; omega
        refine JA.mid (X := Nat × Nat) (fun _ => True) (fun ⟨b11, b12⟩ => [(1, .int .i64 (j : Int)), (2, .int .i64 (m : Int)), (3, .slice (some a) p.length cap), (4, .pointer (some ⟨b4, 0, none⟩)), (8, .slice none 0 0), (9, Row.v out.length q), (10, .int .i64 (k : Int)), (27, .pointer (some (a.add (k * 32)))), (24, .agg (arr8 y.1)), (28, .agg (arr8 e.1)), (11, .pointer (some ⟨b11, 0, none⟩)), (12, .pointer (some ⟨b12, 0, none⟩))]) (fun ⟨b11, b12⟩ => (b12, Obj.cells (arr8 (List.replicate 32 0)) 22 (0, 0)) :: (b11, Obj.cells (arr8 y.1) 22 (0, 0)) :: (b4, Obj.cells (arr8 y.1) 22 (0, 0)) :: Row.b 53 q) 1 #[true, true, true, true, true, true, true, true, false] ?_ (fun hmid1 => ?_)
        · -- state [0, 1, 2, 3, 4, 5, 6, 7]
          rintro ⟨b11, b12⟩ hq
          refine JA.branch [8] (by kernel_rfl) rfl ?_
          refine JAll.cons rfl ?_ JAll.nil
          refine JO.sto rfl rfl (.none rfl) (Es.storeA rfl rfl Tryd.sizeOf22 (by repeat (first | exact .here | apply Upd.there | apply Upd.left)) (by first | rfl | exact dig_size _ | (rw [arr8_size]; first | exact sha_length _ | exact shaO_length _ | assumption)) (by first | rfl | exact dig_size _ | (rw [arr8_size]; first | exact sha_length _ | exact shaO_length _ | assumption)) (by first | exact arr8_one _ | exact fun u hu => arr8_one (List.replicate 32 0) u hu | (simp; done) | (simp; exact ⟨rfl, rfl⟩))) ?_
          exact JA.weak rfl (by kernel_rfl) (by exact Keeps.get (by repeat (first | exact Keeps.nil | refine Keeps.cons rfl ?_))) (by first | exact Sub.all | exact Sub.of_cnt (fun a => by (try dsimp only); simp only [cntA]; omega) | repeat (first | exact Sub.nil | refine Sub.cons (by first | exact .here | exact .there .here | exact .there (.there .here) | exact .there (.there (.there .here)) | exact .there (.there (.there (.there .here)))) ?_ | exact Sub.all)) (hmid0 (b11, b12) (by trivial))
        refine JA.mid (X := Nat × Nat) (fun _ => True) (fun ⟨b11, b12⟩ => [(1, .int .i64 (j : Int)), (2, .int .i64 (m : Int)), (3, .slice (some a) p.length cap), (4, .pointer (some ⟨b4, 0, none⟩)), (8, .slice none 0 0), (9, Row.v out.length q), (10, .int .i64 (k : Int)), (27, .pointer (some (a.add (k * 32)))), (24, .agg (arr8 y.1)), (11, .pointer (some ⟨b11, 0, none⟩)), (12, .pointer (some ⟨b12, 0, none⟩))]) (fun ⟨b11, b12⟩ => (b12, Obj.cells (arr8 (List.replicate 32 0)) 22 (0, 0)) :: (b11, Obj.cells (arr8 y.1) 22 (0, 0)) :: (b4, Obj.cells (arr8 y.1) 22 (0, 0)) :: Row.b 53 q) 2 #[true, true, true, true, false, true, true, true, false] ?_ (fun hmid2 => ?_)
        · -- state [0, 1, 2, 3, 5, 6, 7]
          rintro ⟨b11, b12⟩ hq
          refine JA.branch [4] (by kernel_rfl) rfl ?_
          refine JAll.cons rfl ?_ JAll.nil
          refine JO.val rfl rfl rfl (.none rfl) (Ev.loadD rfl Tryd.underlying22 rfl Tryd.sizeOf22 (Rds.old ((hd.mem a rfl).atD hek))) ?_
          exact JA.weak rfl (by kernel_rfl) (by exact Keeps.get (by repeat (first | exact Keeps.nil | refine Keeps.cons rfl ?_))) (by first | exact Sub.all | exact Sub.of_cnt (fun a => by (try dsimp only); simp only [cntA]; omega) | repeat (first | exact Sub.nil | refine Sub.cons (by first | exact .here | exact .there .here | exact .there (.there .here) | exact .there (.there (.there .here)) | exact .there (.there (.there (.there .here)))) ?_ | exact Sub.all)) (hmid1 (b11, b12) (by trivial))
        refine JA.mid (X := Nat × Nat) (fun _ => True) (fun ⟨b11, b12⟩ => [(1, .int .i64 (j : Int)), (2, .int .i64 (m : Int)), (3, .slice (some a) p.length cap), (4, .pointer (some ⟨b4, 0, none⟩)), (8, .slice none 0 0), (9, Row.v out.length q), (10, .int .i64 (k : Int)), (27, .pointer (some (a.add (k * 32)))), (24, .agg (arr8 y.1)), (28, .agg (arr8 e.1)), (11, .pointer (some ⟨b11, 0, none⟩)), (12, .pointer (some ⟨b12, 0, none⟩))]) (fun ⟨b11, b12⟩ => (b12, Obj.cells (arr8 (List.replicate 32 0)) 22 (0, 0)) :: (b11, Obj.cells (arr8 (List.replicate 32 0)) 22 (0, 0)) :: (b4, Obj.cells (arr8 y.1) 22 (0, 0)) :: Row.b 53 q) 2 #[true, true, true, true, true, true, true, false, false] ?_ (fun hmid3 => ?_)
        · -- state [0, 1, 2, 3, 4, 5, 6]
          rintro ⟨b11, b12⟩ hq
          refine JA.branch [7] (by kernel_rfl) rfl ?_
          refine JAll.cons rfl ?_ JAll.nil
          refine JO.sto rfl rfl (.none rfl) (Es.storeA rfl rfl Tryd.sizeOf22 (by repeat (first | exact .here | apply Upd.there | apply Upd.left)) (by first | rfl | exact dig_size _ | (rw [arr8_size]; first | exact sha_length _ | exact shaO_length _ | assumption)) (by first | rfl | exact dig_size _ | (rw [arr8_size]; first | exact sha_length _ | exact shaO_length _ | assumption)) (by first | exact arr8_one _ | exact fun u hu => arr8_one (List.replicate 32 0) u hu | (simp; done) | (simp; exact ⟨rfl, rfl⟩))) ?_
          exact JA.weak rfl (by kernel_rfl) (by exact Keeps.get (by repeat (first | exact Keeps.nil | refine Keeps.cons rfl ?_))) (by first | exact Sub.all | exact Sub.of_cnt (fun a => by (try dsimp only); simp only [cntA]; omega) | repeat (first | exact Sub.nil | refine Sub.cons (by first | exact .here | exact .there .here | exact .there (.there .here) | exact .there (.there (.there .here)) | exact .there (.there (.there (.there .here)))) ?_ | exact Sub.all)) (hmid1 (b11, b12) (by trivial))
        refine JA.mid (X := Nat × Nat) (fun _ => True) (fun ⟨b11, b12⟩ => [(1, .int .i64 (j : Int)), (2, .int .i64 (m : Int)), (3, .slice (some a) p.length cap), (4, .pointer (some ⟨b4, 0, none⟩)), (8, .slice none 0 0), (9, Row.v out.length q), (10, .int .i64 (k : Int)), (27, .pointer (some (a.add (k * 32)))), (24, .agg (arr8 y.1)), (28, .agg (arr8 e.1)), (11, .pointer (some ⟨b11, 0, none⟩))]) (fun ⟨b11, b12⟩ => (b11, Obj.cells (arr8 (List.replicate 32 0)) 22 (0, 0)) :: (b4, Obj.cells (arr8 y.1) 22 (0, 0)) :: Row.b 53 q) 3 #[true, true, true, true, true, true, false, false, false] ?_ (fun hmid4 => ?_)
        · -- state [0, 1, 2, 3, 4, 5]
          rintro ⟨b11, b12⟩ hq
          refine JA.branch [6] (by kernel_rfl) rfl ?_
          refine JAll.cons rfl ?_ JAll.nil
          refine JO.new rfl rfl rfl (.none rfl) (En.allocZ (cs := arr8 (List.replicate 32 0)) Tryd.zeroValue22 rfl) (fun b12 hb12 => ?_)
          exact JA.weak rfl (by kernel_rfl) (by exact Keeps.get (by repeat (first | exact Keeps.nil | refine Keeps.cons rfl ?_))) (by first | exact Sub.all | exact Sub.of_cnt (fun a => by (try dsimp only); simp only [cntA]; omega) | repeat (first | exact Sub.nil | refine Sub.cons (by first | exact .here | exact .there .here | exact .there (.there .here) | exact .there (.there (.there .here)) | exact .there (.there (.there (.there .here)))) ?_ | exact Sub.all)) (hmid3 (b11, b12) (by trivial))
        refine JA.mid (X := Nat × Nat) (fun _ => True) (fun ⟨b11, b12⟩ => [(1, .int .i64 (j : Int)), (2, .int .i64 (m : Int)), (3, .slice (some a) p.length cap), (4, .pointer (some ⟨b4, 0, none⟩)), (8, .slice none 0 0), (9, Row.v out.length q), (10, .int .i64 (k : Int)), (27, .pointer (some (a.add (k * 32)))), (24, .agg (arr8 y.1)), (28, .agg (arr8 e.1)), (12, .pointer (some ⟨b12, 0, none⟩))]) (fun ⟨b11, b12⟩ => (b12, Obj.cells (arr8 (List.replicate 32 0)) 22 (0, 0)) :: (b4, Obj.cells (arr8 y.1) 22 (0, 0)) :: Row.b 53 q) 3 #[true, true, true, true, true, false, true, false, false] ?_ (fun hmid5 => ?_)
        · -- state [0, 1, 2, 3, 4, 6]
          rintro ⟨b11, b12⟩ hq
          refine JA.branch [5] (by kernel_rfl) rfl ?_
          refine JAll.cons rfl ?_ JAll.nil
          refine JO.new rfl rfl rfl (.none rfl) (En.allocZ (cs := arr8 (List.replicate 32 0)) Tryd.zeroValue22 rfl) (fun b11 hb11 => ?_)
          exact JA.weak rfl (by kernel_rfl) (by exact Keeps.get (by repeat (first | exact Keeps.nil | refine Keeps.cons rfl ?_))) (by first | exact Sub.all | exact Sub.of_cnt (fun a => by (try dsimp only); simp only [cntA]; omega) | repeat (first | exact Sub.nil | refine Sub.cons (by first | exact .here | exact .there .here | exact .there (.there .here) | exact .there (.there (.there .here)) | exact .there (.there (.there (.there .here)))) ?_ | exact Sub.all)) (hmid3 (b11, b12) (by trivial))
        refine JA.mid (X := Nat × Nat) (fun _ => True) (fun ⟨b11, b12⟩ => [(1, .int .i64 (j : Int)), (2, .int .i64 (m : Int)), (3, .slice (some a) p.length cap), (4, .pointer (some ⟨b4, 0, none⟩)), (8, .slice none 0 0), (9, Row.v out.length q), (10, .int .i64 (k : Int)), (27, .pointer (some (a.add (k * 32)))), (24, .agg (arr8 y.1)), (11, .pointer (some ⟨b11, 0, none⟩)), (12, .pointer (some ⟨b12, 0, none⟩))]) (fun ⟨b11, b12⟩ => (b12, Obj.cells (arr8 (List.replicate 32 0)) 22 (0, 0)) :: (b11, Obj.cells (arr8 (List.replicate 32 0)) 22 (0, 0)) :: (b4, Obj.cells (arr8 y.1) 22 (0, 0)) :: Row.b 53 q) 3 #[true, true, true, true, false, true, true, false, false] ?_ (fun hmid6 => ?_)
        · -- state [0, 1, 2, 3, 5, 6]
          rintro ⟨b11, b12⟩ hq
          refine JA.branch [4, 7] (by kernel_rfl) rfl ?_
          refine JAll.cons rfl ?_ ?_
          · -- 4
            refine JO.val rfl rfl rfl (.none rfl) (Ev.loadD rfl Tryd.underlying22 rfl Tryd.sizeOf22 (Rds.old ((hd.mem a rfl).atD hek))) ?_
            exact JA.weak rfl (by kernel_rfl) (by exact Keeps.get (by repeat (first | exact Keeps.nil | refine Keeps.cons rfl ?_))) (by first | exact Sub.all | exact Sub.of_cnt (fun a => by (try dsimp only); simp only [cntA]; omega) | repeat (first | exact Sub.nil | refine Sub.cons (by first | exact .here | exact .there .here | exact .there (.there .here) | exact .there (.there (.there .here)) | exact .there (.there (.there (.there .here)))) ?_ | exact Sub.all)) (hmid3 (b11, b12) (by trivial))
          refine JAll.cons rfl ?_ JAll.nil
          refine JO.sto rfl rfl (.none rfl) (Es.storeA rfl rfl Tryd.sizeOf22 (by repeat (first | exact .here | apply Upd.there | apply Upd.left)) (by first | rfl | exact dig_size _ | (rw [arr8_size]; first | exact sha_length _ | exact shaO_length _ | assumption)) (by first | rfl | exact dig_size _ | (rw [arr8_size]; first | exact sha_length _ | exact shaO_length _ | assumption)) (by first | exact arr8_one _ | exact fun u hu => arr8_one (List.replicate 32 0) u hu | (simp; done) | (simp; exact ⟨rfl, rfl⟩))) ?_
          exact JA.weak rfl (by kernel_rfl) (by exact Keeps.get (by repeat (first | exact Keeps.nil | refine Keeps.cons rfl ?_))) (by first | exact Sub.all | exact Sub.of_cnt (fun a => by (try dsimp only); simp only [cntA]; omega) | repeat (first | exact Sub.nil | refine Sub.cons (by first | exact .here | exact .there .here | exact .there (.there .here) | exact .there (.there (.there .here)) | exact .there (.there (.there (.there .here)))) ?_ | exact Sub.all)) (hmid2 (b11, b12) (by trivial))
        refine JA.mid (X := Nat × Nat) (fun _ => True) (fun ⟨b11, b12⟩ => [(1, .int .i64 (j : Int)), (2, .int .i64 (m : Int)), (3, .slice (some a) p.length cap), (4, .pointer (some ⟨b4, 0, none⟩)), (8, .slice none 0 0), (9, Row.v out.length q), (10, .int .i64 (k : Int)), (27, .pointer (some (a.add (k * 32)))), (28, .agg (arr8 e.1)), (11, .pointer (some ⟨b11, 0, none⟩)), (12, .pointer (some ⟨b12, 0, none⟩))]) (fun ⟨b11, b12⟩ => (b12, Obj.cells (arr8 (List.replicate 32 0)) 22 (0, 0)) :: (b11, Obj.cells (arr8 (List.replicate 32 0)) 22 (0, 0)) :: (b4, Obj.cells (arr8 y.1) 22 (0, 0)) :: Row.b 53 q) 3 #[false, true, true, true, true, true, true, false, false] ?_ (fun hmid7 => ?_)
        · -- state [1, 2, 3, 4, 5, 6]
          rintro ⟨b11, b12⟩ hq
          refine JA.branch [0] (by kernel_rfl) rfl ?_
          refine JAll.cons rfl ?_ JAll.nil
          refine JO.val rfl rfl rfl (.none rfl) (Ev.loadB rfl (by repeat (first | exact List.Mem.head _ | refine List.Mem.tail _ ?_ | refine List.mem_append_right _ ?_ | assumption)) Tryd.underlying22 rfl Tryd.sizeOf22 (by first | rfl | exact dig_size _ | (rw [arr8_size]; first | exact sha_length _ | exact shaO_length _ | assumption))) ?_
          exact JA.weak rfl (by kernel_rfl) (by exact Keeps.get (by repeat (first | exact Keeps.nil | refine Keeps.cons rfl ?_))) (by first | exact Sub.all | exact Sub.of_cnt (fun a => by (try dsimp only); simp only [cntA]; omega) | repeat (first | exact Sub.nil | refine Sub.cons (by first | exact .here | exact .there .here | exact .there (.there .here) | exact .there (.there (.there .here)) | exact .there (.there (.there (.there .here)))) ?_ | exact Sub.all)) (hmid3 (b11, b12) (by trivial))
        refine JA.mid (X := Nat × Nat) (fun _ => True) (fun ⟨b11, b12⟩ => [(1, .int .i64 (j : Int)), (2, .int .i64 (m : Int)), (3, .slice (some a) p.length cap), (4, .pointer (some ⟨b4, 0, none⟩)), (8, .slice none 0 0), (9, Row.v out.length q), (10, .int .i64 (k : Int)), (27, .pointer (some (a.add (k * 32)))), (24, .agg (arr8 y.1)), (28, .agg (arr8 e.1))]) (fun ⟨b11, b12⟩ => (b4, Obj.cells (arr8 y.1) 22 (0, 0)) :: Row.b 53 q) 4 #[true, true, true, true, true, false, false, false, false] ?_ (fun hmid8 => ?_)
        · -- state [0, 1, 2, 3, 4]
          rintro ⟨b11, b12⟩ hq
          refine JA.branch [5, 6] (by kernel_rfl) rfl ?_
          refine JAll.cons rfl ?_ ?_
          · -- 5
            refine JO.new rfl rfl rfl (.none rfl) (En.allocZ (cs := arr8 (List.replicate 32 0)) Tryd.zeroValue22 rfl) (fun b11 hb11 => ?_)
            exact JA.weak rfl (by kernel_rfl) (by exact Keeps.get (by repeat (first | exact Keeps.nil | refine Keeps.cons rfl ?_))) (by first | exact Sub.all | exact Sub.of_cnt (fun a => by (try dsimp only); simp only [cntA]; omega) | repeat (first | exact Sub.nil | refine Sub.cons (by first | exact .here | exact .there .here | exact .there (.there .here) | exact .there (.there (.there .here)) | exact .there (.there (.there (.there .here)))) ?_ | exact Sub.all)) (hmid4 (b11, 0) (by trivial))
          refine JAll.cons rfl ?_ JAll.nil
          refine JO.new rfl rfl rfl (.none rfl) (En.allocZ (cs := arr8 (List.replicate 32 0)) Tryd.zeroValue22 rfl) (fun b12 hb12 => ?_)
          exact JA.weak rfl (by kernel_rfl) (by exact Keeps.get (by repeat (first | exact Keeps.nil | refine Keeps.cons rfl ?_))) (by first | exact Sub.all | exact Sub.of_cnt (fun a => by (try dsimp only); simp only [cntA]; omega) | repeat (first | exact Sub.nil | refine Sub.cons (by first | exact .here | exact .there .here | exact .there (.there .here) | exact .there (.there (.there .here)) | exact .there (.there (.there (.there .here)))) ?_ | exact Sub.all)) (hmid5 (0, b12) (by trivial))
        refine JA.mid (X := Nat × Nat) (fun _ => True) (fun ⟨b11, b12⟩ => [(1, .int .i64 (j : Int)), (2, .int .i64 (m : Int)), (3, .slice (some a) p.length cap), (4, .pointer (some ⟨b4, 0, none⟩)), (8, .slice none 0 0), (9, Row.v out.length q), (10, .int .i64 (k : Int)), (27, .pointer (some (a.add (k * 32)))), (24, .agg (arr8 y.1)), (11, .pointer (some ⟨b11, 0, none⟩))]) (fun ⟨b11, b12⟩ => (b11, Obj.cells (arr8 (List.replicate 32 0)) 22 (0, 0)) :: (b4, Obj.cells (arr8 y.1) 22 (0, 0)) :: Row.b 53 q) 4 #[true, true, true, true, false, true, false, false, false] ?_ (fun hmid9 => ?_)
        · -- state [0, 1, 2, 3, 5]
          rintro ⟨b11, b12⟩ hq
          refine JA.branch [4, 6] (by kernel_rfl) rfl ?_
          refine JAll.cons rfl ?_ ?_
          · -- 4
            refine JO.val rfl rfl rfl (.none rfl) (Ev.loadD rfl Tryd.underlying22 rfl Tryd.sizeOf22 (Rds.old ((hd.mem a rfl).atD hek))) ?_
            exact JA.weak rfl (by kernel_rfl) (by exact Keeps.get (by repeat (first | exact Keeps.nil | refine Keeps.cons rfl ?_))) (by first | exact Sub.all | exact Sub.of_cnt (fun a => by (try dsimp only); simp only [cntA]; omega) | repeat (first | exact Sub.nil | refine Sub.cons (by first | exact .here | exact .there .here | exact .there (.there .here) | exact .there (.there (.there .here)) | exact .there (.there (.there (.there .here)))) ?_ | exact Sub.all)) (hmid4 (b11, 0) (by trivial))
          refine JAll.cons rfl ?_ JAll.nil
          refine JO.new rfl rfl rfl (.none rfl) (En.allocZ (cs := arr8 (List.replicate 32 0)) Tryd.zeroValue22 rfl) (fun b12 hb12 => ?_)
          exact JA.weak rfl (by kernel_rfl) (by exact Keeps.get (by repeat (first | exact Keeps.nil | refine Keeps.cons rfl ?_))) (by first | exact Sub.all | exact Sub.of_cnt (fun a => by (try dsimp only); simp only [cntA]; omega) | repeat (first | exact Sub.nil | refine Sub.cons (by first | exact .here | exact .there .here | exact .there (.there .here) | exact .there (.there (.there .here)) | exact .there (.there (.there (.there .here)))) ?_ | exact Sub.all)) (hmid6 (b11, b12) (by trivial))
        refine JA.mid (X := Nat × Nat) (fun _ => True) (fun ⟨b11, b12⟩ => [(1, .int .i64 (j : Int)), (2, .int .i64 (m : Int)), (3, .slice (some a) p.length cap), (4, .pointer (some ⟨b4, 0, none⟩)), (8, .slice none 0 0), (9, Row.v out.length q), (10, .int .i64 (k : Int)), (27, .pointer (some (a.add (k * 32)))), (24, .agg (arr8 y.1)), (12, .pointer (some ⟨b12, 0, none⟩))]) (fun ⟨b11, b12⟩ => (b12, Obj.cells (arr8 (List.replicate 32 0)) 22 (0, 0)) :: (b4, Obj.cells (arr8 y.1) 22 (0, 0)) :: Row.b 53 q) 4 #[true, true, true, true, false, false, true, false, false] ?_ (fun hmid10 => ?_)
        · -- state [0, 1, 2, 3, 6]
          rintro ⟨b11, b12⟩ hq
          refine JA.branch [4, 5] (by kernel_rfl) rfl ?_
          refine JAll.cons rfl ?_ ?_
          · -- 4
            refine JO.val rfl rfl rfl (.none rfl) (Ev.loadD rfl Tryd.underlying22 rfl Tryd.sizeOf22 (Rds.old ((hd.mem a rfl).atD hek))) ?_
            exact JA.weak rfl (by kernel_rfl) (by exact Keeps.get (by repeat (first | exact Keeps.nil | refine Keeps.cons rfl ?_))) (by first | exact Sub.all | exact Sub.of_cnt (fun a => by (try dsimp only); simp only [cntA]; omega) | repeat (first | exact Sub.nil | refine Sub.cons (by first | exact .here | exact .there .here | exact .there (.there .here) | exact .there (.there (.there .here)) | exact .there (.there (.there (.there .here)))) ?_ | exact Sub.all)) (hmid5 (0, b12) (by trivial))
          refine JAll.cons rfl ?_ JAll.nil
          refine JO.new rfl rfl rfl (.none rfl) (En.allocZ (cs := arr8 (List.replicate 32 0)) Tryd.zeroValue22 rfl) (fun b11 hb11 => ?_)
          exact JA.weak rfl (by kernel_rfl) (by exact Keeps.get (by repeat (first | exact Keeps.nil | refine Keeps.cons rfl ?_))) (by first | exact Sub.all | exact Sub.of_cnt (fun a => by (try dsimp only); simp only [cntA]; omega) | repeat (first | exact Sub.nil | refine Sub.cons (by first | exact .here | exact .there .here | exact .there (.there .here) | exact .there (.there (.there .here)) | exact .there (.there (.there (.there .here)))) ?_ | exact Sub.all)) (hmid6 (b11, b12) (by trivial))
        refine JA.mid (X := Nat × Nat) (fun _ => True) (fun ⟨b11, b12⟩ => [(1, .int .i64 (j : Int)), (2, .int .i64 (m : Int)), (3, .slice (some a) p.length cap), (4, .pointer (some ⟨b4, 0, none⟩)), (8, .slice none 0 0), (9, Row.v out.length q), (10, .int .i64 (k : Int)), (27, .pointer (some (a.add (k * 32)))), (28, .agg (arr8 e.1)), (11, .pointer (some ⟨b11, 0, none⟩))]) (fun ⟨b11, b12⟩ => (b11, Obj.cells (arr8 (List.replicate 32 0)) 22 (0, 0)) :: (b4, Obj.cells (arr8 y.1) 22 (0, 0)) :: Row.b 53 q) 4 #[false, true, true, true, true, true, false, false, false] ?_ (fun hmid11 => ?_)
        · -- state [1, 2, 3, 4, 5]
          rintro ⟨b11, b12⟩ hq
          refine JA.branch [0, 6] (by kernel_rfl) rfl ?_
          refine JAll.cons rfl ?_ ?_
          · -- 0
            refine JO.val rfl rfl rfl (.none rfl) (Ev.loadB rfl (by repeat (first | exact List.Mem.head _ | refine List.Mem.tail _ ?_ | refine List.mem_append_right _ ?_ | assumption)) Tryd.underlying22 rfl Tryd.sizeOf22 (by first | rfl | exact dig_size _ | (rw [arr8_size]; first | exact sha_length _ | exact shaO_length _ | assumption))) ?_
            exact JA.weak rfl (by kernel_rfl) (by exact Keeps.get (by repeat (first | exact Keeps.nil | refine Keeps.cons rfl ?_))) (by first | exact Sub.all | exact Sub.of_cnt (fun a => by (try dsimp only); simp only [cntA]; omega) | repeat (first | exact Sub.nil | refine Sub.cons (by first | exact .here | exact .there .here | exact .there (.there .here) | exact .there (.there (.there .here)) | exact .there (.there (.there (.there .here)))) ?_ | exact Sub.all)) (hmid4 (b11, 0) (by trivial))
          refine JAll.cons rfl ?_ JAll.nil
          refine JO.new rfl rfl rfl (.none rfl) (En.allocZ (cs := arr8 (List.replicate 32 0)) Tryd.zeroValue22 rfl) (fun b12 hb12 => ?_)
          exact JA.weak rfl (by kernel_rfl) (by exact Keeps.get (by repeat (first | exact Keeps.nil | refine Keeps.cons rfl ?_))) (by first | exact Sub.all | exact Sub.of_cnt (fun a => by (try dsimp only); simp only [cntA]; omega) | repeat (first | exact Sub.nil | refine Sub.cons (by first | exact .here | exact .there .here | exact .there (.there .here) | exact .there (.there (.there .here)) | exact .there (.there (.there (.there .here)))) ?_ | exact Sub.all)) (hmid7 (b11, b12) (by trivial))
        refine JA.mid (X := Nat × Nat) (fun _ => True) (fun ⟨b11, b12⟩ => [(1, .int .i64 (j : Int)), (2, .int .i64 (m : Int)), (3, .slice (some a) p.length cap), (4, .pointer (some ⟨b4, 0, none⟩)), (8, .slice none 0 0), (9, Row.v out.length q), (10, .int .i64 (k : Int)), (27, .pointer (some (a.add (k * 32)))), (28, .agg (arr8 e.1)), (12, .pointer (some ⟨b12, 0, none⟩))]) (fun ⟨b11, b12⟩ => (b12, Obj.cells (arr8 (List.replicate 32 0)) 22 (0, 0)) :: (b4, Obj.cells (arr8 y.1) 22 (0, 0)) :: Row.b 53 q) 4 #[false, true, true, true, true, false, true, false, false] ?_ (fun hmid12 => ?_)
        · -- state [1, 2, 3, 4, 6]
          rintro ⟨b11, b12⟩ hq
          refine JA.branch [0, 5] (by kernel_rfl) rfl ?_
          refine JAll.cons rfl ?_ ?_
          · -- 0
            refine JO.val rfl rfl rfl (.none rfl) (Ev.loadB rfl (by repeat (first | exact List.Mem.head _ | refine List.Mem.tail _ ?_ | refine List.mem_append_right _ ?_ | assumption)) Tryd.underlying22 rfl Tryd.sizeOf22 (by first | rfl | exact dig_size _ | (rw [arr8_size]; first | exact sha_length _ | exact shaO_length _ | assumption))) ?_
            exact JA.weak rfl (by kernel_rfl) (by exact Keeps.get (by repeat (first | exact Keeps.nil | refine Keeps.cons rfl ?_))) (by first | exact Sub.all | exact Sub.of_cnt (fun a => by (try dsimp only); simp only [cntA]; omega) | repeat (first | exact Sub.nil | refine Sub.cons (by first | exact .here | exact .there .here | exact .there (.there .here) | exact .there (.there (.there .here)) | exact .there (.there (.there (.there .here)))) ?_ | exact Sub.all)) (hmid5 (0, b12) (by trivial))
          refine JAll.cons rfl ?_ JAll.nil
          refine JO.new rfl rfl rfl (.none rfl) (En.allocZ (cs := arr8 (List.replicate 32 0)) Tryd.zeroValue22 rfl) (fun b11 hb11 => ?_)
          exact JA.weak rfl (by kernel_rfl) (by exact Keeps.get (by repeat (first | exact Keeps.nil | refine Keeps.cons rfl ?_))) (by first | exact Sub.all | exact Sub.of_cnt (fun a => by (try dsimp only); simp only [cntA]; omega) | repeat (first | exact Sub.nil | refine Sub.cons (by first | exact .here | exact .there .here | exact .there (.there .here) | exact .there (.there (.there .here)) | exact .there (.there (.there (.there .here)))) ?_ | exact Sub.all)) (hmid7 (b11, b12) (by trivial))
        refine JA.mid (X := Nat × Nat) (fun _ => True) (fun ⟨b11, b12⟩ => [(1, .int .i64 (j : Int)), (2, .int .i64 (m : Int)), (3, .slice (some a) p.length cap), (4, .pointer (some ⟨b4, 0, none⟩)), (8, .slice none 0 0), (9, Row.v out.length q), (10, .int .i64 (k : Int)), (27, .pointer (some (a.add (k * 32)))), (11, .pointer (some ⟨b11, 0, none⟩)), (12, .pointer (some ⟨b12, 0, none⟩))]) (fun ⟨b11, b12⟩ => (b12, Obj.cells (arr8 (List.replicate 32 0)) 22 (0, 0)) :: (b11, Obj.cells (arr8 (List.replicate 32 0)) 22 (0, 0)) :: (b4, Obj.cells (arr8 y.1) 22 (0, 0)) :: Row.b 53 q) 4 #[false, true, true, true, false, true, true, false, false] ?_ (fun hmid13 => ?_)
        · -- state [1, 2, 3, 5, 6]
          rintro ⟨b11, b12⟩ hq
          refine JA.branch [0, 4] (by kernel_rfl) rfl ?_
          refine JAll.cons rfl ?_ ?_
          · -- 0
            refine JO.val rfl rfl rfl (.none rfl) (Ev.loadB rfl (by repeat (first | exact List.Mem.head _ | refine List.Mem.tail _ ?_ | refine List.mem_append_right _ ?_ | assumption)) Tryd.underlying22 rfl Tryd.sizeOf22 (by first | rfl | exact dig_size _ | (rw [arr8_size]; first | exact sha_length _ | exact shaO_length _ | assumption))) ?_
            exact JA.weak rfl (by kernel_rfl) (by exact Keeps.get (by repeat (first | exact Keeps.nil | refine Keeps.cons rfl ?_))) (by first | exact Sub.all | exact Sub.of_cnt (fun a => by (try dsimp only); simp only [cntA]; omega) | repeat (first | exact Sub.nil | refine Sub.cons (by first | exact .here | exact .there .here | exact .there (.there .here) | exact .there (.there (.there .here)) | exact .there (.there (.there (.there .here)))) ?_ | exact Sub.all)) (hmid6 (b11, b12) (by trivial))
          refine JAll.cons rfl ?_ JAll.nil
          refine JO.val rfl rfl rfl (.none rfl) (Ev.loadD rfl Tryd.underlying22 rfl Tryd.sizeOf22 (Rds.old ((hd.mem a rfl).atD hek))) ?_
          exact JA.weak rfl (by kernel_rfl) (by exact Keeps.get (by repeat (first | exact Keeps.nil | refine Keeps.cons rfl ?_))) (by first | exact Sub.all | exact Sub.of_cnt (fun a => by (try dsimp only); simp only [cntA]; omega) | repeat (first | exact Sub.nil | refine Sub.cons (by first | exact .here | exact .there .here | exact .there (.there .here) | exact .there (.there (.there .here)) | exact .there (.there (.there (.there .here)))) ?_ | exact Sub.all)) (hmid7 (b11, b12) (by trivial))
        refine JA.mid (X := Nat × Nat) (fun _ => True) (fun ⟨b11, b12⟩ => [(1, .int .i64 (j : Int)), (2, .int .i64 (m : Int)), (3, .slice (some a) p.length cap), (4, .pointer (some ⟨b4, 0, none⟩)), (8, .slice none 0 0), (9, Row.v out.length q), (10, .int .i64 (k : Int)), (27, .pointer (some (a.add (k * 32)))), (24, .agg (arr8 y.1))]) (fun ⟨b11, b12⟩ => (b4, Obj.cells (arr8 y.1) 22 (0, 0)) :: Row.b 53 q) 5 #[true, true, true, true, false, false, false, false, false] ?_ (fun hmid14 => ?_)
        · -- state [0, 1, 2, 3]
          rintro ⟨b11, b12⟩ hq
          refine JA.branch [4, 5, 6] (by kernel_rfl) rfl ?_
          refine JAll.cons rfl ?_ ?_
          · -- 4
            refine JO.val rfl rfl rfl (.none rfl) (Ev.loadD rfl Tryd.underlying22 rfl Tryd.sizeOf22 (Rds.old ((hd.mem a rfl).atD hek))) ?_
            exact JA.weak rfl (by kernel_rfl) (by exact Keeps.get (by repeat (first | exact Keeps.nil | refine Keeps.cons rfl ?_))) (by first | exact Sub.all | exact Sub.of_cnt (fun a => by (try dsimp only); simp only [cntA]; omega) | repeat (first | exact Sub.nil | refine Sub.cons (by first | exact .here | exact .there .here | exact .there (.there .here) | exact .there (.there (.there .here)) | exact .there (.there (.there (.there .here)))) ?_ | exact Sub.all)) (hmid8 (0, 0) (by trivial))
          refine JAll.cons rfl ?_ ?_
          · -- 5
            refine JO.new rfl rfl rfl (.none rfl) (En.allocZ (cs := arr8 (List.replicate 32 0)) Tryd.zeroValue22 rfl) (fun b11 hb11 => ?_)
            exact JA.weak rfl (by kernel_rfl) (by exact Keeps.get (by repeat (first | exact Keeps.nil | refine Keeps.cons rfl ?_))) (by first | exact Sub.all | exact Sub.of_cnt (fun a => by (try dsimp only); simp only [cntA]; omega) | repeat (first | exact Sub.nil | refine Sub.cons (by first | exact .here | exact .there .here | exact .there (.there .here) | exact .there (.there (.there .here)) | exact .there (.there (.there (.there .here)))) ?_ | exact Sub.all)) (hmid9 (b11, 0) (by trivial))
          refine JAll.cons rfl ?_ JAll.nil
          refine JO.new rfl rfl rfl (.none rfl) (En.allocZ (cs := arr8 (List.replicate 32 0)) Tryd.zeroValue22 rfl) (fun b12 hb12 => ?_)
          exact JA.weak rfl (by kernel_rfl) (by exact Keeps.get (by repeat (first | exact Keeps.nil | refine Keeps.cons rfl ?_))) (by first | exact Sub.all | exact Sub.of_cnt (fun a => by (try dsimp only); simp only [cntA]; omega) | repeat (first | exact Sub.nil | refine Sub.cons (by first | exact .here | exact .there .here | exact .there (.there .here) | exact .there (.there (.there .here)) | exact .there (.there (.there (.there .here)))) ?_ | exact Sub.all)) (hmid10 (0, b12) (by trivial))
        refine JA.mid (X := Nat × Nat) (fun _ => True) (fun ⟨b11, b12⟩ => [(1, .int .i64 (j : Int)), (2, .int .i64 (m : Int)), (3, .slice (some a) p.length cap), (4, .pointer (some ⟨b4, 0, none⟩)), (8, .slice none 0 0), (9, Row.v out.length q), (10, .int .i64 (k : Int)), (27, .pointer (some (a.add (k * 32)))), (28, .agg (arr8 e.1))]) (fun ⟨b11, b12⟩ => (b4, Obj.cells (arr8 y.1) 22 (0, 0)) :: Row.b 53 q) 5 #[false, true, true, true, true, false, false, false, false] ?_ (fun hmid15 => ?_)
        · -- state [1, 2, 3, 4]
          rintro ⟨b11, b12⟩ hq
          refine JA.branch [0, 5, 6] (by kernel_rfl) rfl ?_
          refine JAll.cons rfl ?_ ?_
          · -- 0
            refine JO.val rfl rfl rfl (.none rfl) (Ev.loadB rfl (by repeat (first | exact List.Mem.head _ | refine List.Mem.tail _ ?_ | refine List.mem_append_right _ ?_ | assumption)) Tryd.underlying22 rfl Tryd.sizeOf22 (by first | rfl | exact dig_size _ | (rw [arr8_size]; first | exact sha_length _ | exact shaO_length _ | assumption))) ?_
            exact JA.weak rfl (by kernel_rfl) (by exact Keeps.get (by repeat (first | exact Keeps.nil | refine Keeps.cons rfl ?_))) (by first | exact Sub.all | exact Sub.of_cnt (fun a => by (try dsimp only); simp only [cntA]; omega) | repeat (first | exact Sub.nil | refine Sub.cons (by first | exact .here | exact .there .here | exact .there (.there .here) | exact .there (.there (.there .here)) | exact .there (.there (.there (.there .here)))) ?_ | exact Sub.all)) (hmid8 (0, 0) (by trivial))
          refine JAll.cons rfl ?_ ?_
          · -- 5
            refine JO.new rfl rfl rfl (.none rfl) (En.allocZ (cs := arr8 (List.replicate 32 0)) Tryd.zeroValue22 rfl) (fun b11 hb11 => ?_)
            exact JA.weak rfl (by kernel_rfl) (by exact Keeps.get (by repeat (first | exact Keeps.nil | refine Keeps.cons rfl ?_))) (by first | exact Sub.all | exact Sub.of_cnt (fun a => by (try dsimp only); simp only [cntA]; omega) | repeat (first | exact Sub.nil | refine Sub.cons (by first | exact .here | exact .there .here | exact .there (.there .here) | exact .there (.there (.there .here)) | exact .there (.there (.there (.there .here)))) ?_ | exact Sub.all)) (hmid11 (b11, 0) (by trivial))
          refine JAll.cons rfl ?_ JAll.nil
          refine JO.new rfl rfl rfl (.none rfl) (En.allocZ (cs := arr8 (List.replicate 32 0)) Tryd.zeroValue22 rfl) (fun b12 hb12 => ?_)
          exact JA.weak rfl (by kernel_rfl) (by exact Keeps.get (by repeat (first | exact Keeps.nil | refine Keeps.cons rfl ?_))) (by first | exact Sub.all | exact Sub.of_cnt (fun a => by (try dsimp only); simp only [cntA]; omega) | repeat (first | exact Sub.nil | refine Sub.cons (by first | exact .here | exact .there .here | exact .there (.there .here) | exact .there (.there (.there .here)) | exact .there (.there (.there (.there .here)))) ?_ | exact Sub.all)) (hmid12 (0, b12) (by trivial))
        refine JA.mid (X := Nat × Nat) (fun _ => True) (fun ⟨b11, b12⟩ => [(1, .int .i64 (j : Int)), (2, .int .i64 (m : Int)), (3, .slice (some a) p.length cap), (4, .pointer (some ⟨b4, 0, none⟩)), (8, .slice none 0 0), (9, Row.v out.length q), (10, .int .i64 (k : Int)), (27, .pointer (some (a.add (k * 32)))), (11, .pointer (some ⟨b11, 0, none⟩))]) (fun ⟨b11, b12⟩ => (b11, Obj.cells (arr8 (List.replicate 32 0)) 22 (0, 0)) :: (b4, Obj.cells (arr8 y.1) 22 (0, 0)) :: Row.b 53 q) 5 #[false, true, true, true, false, true, false, false, false] ?_ (fun hmid16 => ?_)
        · -- state [1, 2, 3, 5]
          rintro ⟨b11, b12⟩ hq
          refine JA.branch [0, 4, 6] (by kernel_rfl) rfl ?_
          refine JAll.cons rfl ?_ ?_
          · -- 0
            refine JO.val rfl rfl rfl (.none rfl) (Ev.loadB rfl (by repeat (first | exact List.Mem.head _ | refine List.Mem.tail _ ?_ | refine List.mem_append_right _ ?_ | assumption)) Tryd.underlying22 rfl Tryd.sizeOf22 (by first | rfl | exact dig_size _ | (rw [arr8_size]; first | exact sha_length _ | exact shaO_length _ | assumption))) ?_
            exact JA.weak rfl (by kernel_rfl) (by exact Keeps.get (by repeat (first | exact Keeps.nil | refine Keeps.cons rfl ?_))) (by first | exact Sub.all | exact Sub.of_cnt (fun a => by (try dsimp only); simp only [cntA]; omega) | repeat (first | exact Sub.nil | refine Sub.cons (by first | exact .here | exact .there .here | exact .there (.there .here) | exact .there (.there (.there .here)) | exact .there (.there (.there (.there .here)))) ?_ | exact Sub.all)) (hmid9 (b11, 0) (by trivial))
          refine JAll.cons rfl ?_ ?_
          · -- 4
            refine JO.val rfl rfl rfl (.none rfl) (Ev.loadD rfl Tryd.underlying22 rfl Tryd.sizeOf22 (Rds.old ((hd.mem a rfl).atD hek))) ?_
            exact JA.weak rfl (by kernel_rfl) (by exact Keeps.get (by repeat (first | exact Keeps.nil | refine Keeps.cons rfl ?_))) (by first | exact Sub.all | exact Sub.of_cnt (fun a => by (try dsimp only); simp only [cntA]; omega) | repeat (first | exact Sub.nil | refine Sub.cons (by first | exact .here | exact .there .here | exact .there (.there .here) | exact .there (.there (.there .here)) | exact .there (.there (.there (.there .here)))) ?_ | exact Sub.all)) (hmid11 (b11, 0) (by trivial))
          refine JAll.cons rfl ?_ JAll.nil
          refine JO.new rfl rfl rfl (.none rfl) (En.allocZ (cs := arr8 (List.replicate 32 0)) Tryd.zeroValue22 rfl) (fun b12 hb12 => ?_)
          exact JA.weak rfl (by kernel_rfl) (by exact Keeps.get (by repeat (first | exact Keeps.nil | refine Keeps.cons rfl ?_))) (by first | exact Sub.all | exact Sub.of_cnt (fun a => by (try dsimp only); simp only [cntA]; omega) | repeat (first | exact Sub.nil | refine Sub.cons (by first | exact .here | exact .there .here | exact .there (.there .here) | exact .there (.there (.there .here)) | exact .there (.there (.there (.there .here)))) ?_ | exact Sub.all)) (hmid13 (b11, b12) (by trivial))
        refine JA.mid (X := Nat × Nat) (fun _ => True) (fun ⟨b11, b12⟩ => [(1, .int .i64 (j : Int)), (2, .int .i64 (m : Int)), (3, .slice (some a) p.length cap), (4, .pointer (some ⟨b4, 0, none⟩)), (8, .slice none 0 0), (9, Row.v out.length q), (10, .int .i64 (k : Int)), (27, .pointer (some (a.add (k * 32)))), (12, .pointer (some ⟨b12, 0, none⟩))]) (fun ⟨b11, b12⟩ => (b12, Obj.cells (arr8 (List.replicate 32 0)) 22 (0, 0)) :: (b4, Obj.cells (arr8 y.1) 22 (0, 0)) :: Row.b 53 q) 5 #[false, true, true, true, false, false, true, false, false] ?_ (fun hmid17 => ?_)
        · -- state [1, 2, 3, 6]
          rintro ⟨b11, b12⟩ hq
          refine JA.branch [0, 4, 5] (by kernel_rfl) rfl ?_
          refine JAll.cons rfl ?_ ?_
          · -- 0
            refine JO.val rfl rfl rfl (.none rfl) (Ev.loadB rfl (by repeat (first | exact List.Mem.head _ | refine List.Mem.tail _ ?_ | refine List.mem_append_right _ ?_ | assumption)) Tryd.underlying22 rfl Tryd.sizeOf22 (by first | rfl | exact dig_size _ | (rw [arr8_size]; first | exact sha_length _ | exact shaO_length _ | assumption))) ?_
            exact JA.weak rfl (by kernel_rfl) (by exact Keeps.get (by repeat (first | exact Keeps.nil | refine Keeps.cons rfl ?_))) (by first | exact Sub.all | exact Sub.of_cnt (fun a => by (try dsimp only); simp only [cntA]; omega) | repeat (first | exact Sub.nil | refine Sub.cons (by first | exact .here | exact .there .here | exact .there (.there .here) | exact .there (.there (.there .here)) | exact .there (.there (.there (.there .here)))) ?_ | exact Sub.all)) (hmid10 (0, b12) (by trivial))
          refine JAll.cons rfl ?_ ?_
          · -- 4
            refine JO.val rfl rfl rfl (.none rfl) (Ev.loadD rfl Tryd.underlying22 rfl Tryd.sizeOf22 (Rds.old ((hd.mem a rfl).atD hek))) ?_
            exact JA.weak rfl (by kernel_rfl) (by exact Keeps.get (by repeat (first | exact Keeps.nil | refine Keeps.cons rfl ?_))) (by first | exact Sub.all | exact Sub.of_cnt (fun a => by (try dsimp only); simp only [cntA]; omega) | repeat (first | exact Sub.nil | refine Sub.cons (by first | exact .here | exact .there .here | exact .there (.there .here) | exact .there (.there (.there .here)) | exact .there (.there (.there (.there .here)))) ?_ | exact Sub.all)) (hmid12 (0, b12) (by trivial))
          refine JAll.cons rfl ?_ JAll.nil
          refine JO.new rfl rfl rfl (.none rfl) (En.allocZ (cs := arr8 (List.replicate 32 0)) Tryd.zeroValue22 rfl) (fun b11 hb11 => ?_)
          exact JA.weak rfl (by kernel_rfl) (by exact Keeps.get (by repeat (first | exact Keeps.nil | refine Keeps.cons rfl ?_))) (by first | exact Sub.all | exact Sub.of_cnt (fun a => by (try dsimp only); simp only [cntA]; omega) | repeat (first | exact Sub.nil | refine Sub.cons (by first | exact .here | exact .there .here | exact .there (.there .here) | exact .there (.there (.there .here)) | exact .there (.there (.there (.there .here)))) ?_ | exact Sub.all)) (hmid13 (b11, b12) (by trivial))
        refine JA.takeR 1 (by kernel_rfl) rfl rfl rfl (by kernel_rfl) (by kernel_rfl) (by kernel_rfl) (fun _ _ _ h => h) (fun _ _ => rfl) (.none rfl) (fun _ => (Ev.move rfl)) ?_
        refine JA.takeR 2 (by kernel_rfl) rfl rfl rfl (by kernel_rfl) (by kernel_rfl) (by kernel_rfl) (fun _ _ _ h => h) (fun _ _ => rfl) (.none rfl) (fun _ => (Ev.move rfl)) ?_
        refine JA.takeR 3 (by kernel_rfl) rfl rfl rfl (by kernel_rfl) (by kernel_rfl) (by kernel_rfl) (fun _ _ _ h => h) (fun _ _ => rfl) (.none rfl) (fun _ => (Ev.idxS rfl rfl Tryd.underlying23 Tryd.sizeOf22 (k := k) rfl hkl)) ?_
        refine JA.branch [0, 4, 5, 6] (by kernel_rfl) rfl ?_
        refine JAll.cons rfl ?_ ?_
        · -- 0
          refine JO.val rfl rfl rfl (.none rfl) (Ev.loadB rfl (by repeat (first | exact List.Mem.head _ | refine List.Mem.tail _ ?_ | refine List.mem_append_right _ ?_ | assumption)) Tryd.underlying22 rfl Tryd.sizeOf22 (by first | rfl | exact dig_size _ | (rw [arr8_size]; first | exact sha_length _ | exact shaO_length _ | assumption))) ?_
          exact JA.weak rfl (by kernel_rfl) (by exact Keeps.get (by repeat (first | exact Keeps.nil | refine Keeps.cons rfl ?_))) (by first | exact Sub.all | exact Sub.of_cnt (fun a => by (try dsimp only); simp only [cntA]; omega) | repeat (first | exact Sub.nil | refine Sub.cons (by first | exact .here | exact .there .here | exact .there (.there .here) | exact .there (.there (.there .here)) | exact .there (.there (.there (.there .here)))) ?_ | exact Sub.all)) (hmid14 (0, 0) (by trivial))
        refine JAll.cons rfl ?_ ?_
        · -- 4
          refine JO.val rfl rfl rfl (.none rfl) (Ev.loadD rfl Tryd.underlying22 rfl Tryd.sizeOf22 (Rds.old ((hd.mem a rfl).atD hek))) ?_
          exact JA.weak rfl (by kernel_rfl) (by exact Keeps.get (by repeat (first | exact Keeps.nil | refine Keeps.cons rfl ?_))) (by first | exact Sub.all | exact Sub.of_cnt (fun a => by (try dsimp only); simp only [cntA]; omega) | repeat (first | exact Sub.nil | refine Sub.cons (by first | exact .here | exact .there .here | exact .there (.there .here) | exact .there (.there (.there .here)) | exact .there (.there (.there (.there .here)))) ?_ | exact Sub.all)) (hmid15 (0, 0) (by trivial))
        refine JAll.cons rfl ?_ ?_
        · -- 5
          refine JO.new rfl rfl rfl (.none rfl) (En.allocZ (cs := arr8 (List.replicate 32 0)) Tryd.zeroValue22 rfl) (fun b11 hb11 => ?_)
          exact JA.weak rfl (by kernel_rfl) (by exact Keeps.get (by repeat (first | exact Keeps.nil | refine Keeps.cons rfl ?_))) (by first | exact Sub.all | exact Sub.of_cnt (fun a => by (try dsimp only); simp only [cntA]; omega) | repeat (first | exact Sub.nil | refine Sub.cons (by first | exact .here | exact .there .here | exact .there (.there .here) | exact .there (.there (.there .here)) | exact .there (.there (.there (.there .here)))) ?_ | exact Sub.all)) (hmid16 (b11, 0) (by trivial))
        refine JAll.cons rfl ?_ JAll.nil
        refine JO.new rfl rfl rfl (.none rfl) (En.allocZ (cs := arr8 (List.replicate 32 0)) Tryd.zeroValue22 rfl) (fun b12 hb12 => ?_)
        exact JA.weak rfl (by kernel_rfl) (by exact Keeps.get (by repeat (first | exact Keeps.nil | refine Keeps.cons rfl ?_))) (by first | exact Sub.all | exact Sub.of_cnt (fun a => by (try dsimp only); simp only [cntA]; omega) | repeat (first | exact Sub.nil | refine Sub.cons (by first | exact .here | exact .there .here | exact .there (.there .here) | exact .there (.there (.there .here)) | exact .there (.there (.there (.there .here)))) ?_ | exact Sub.all)) (hmid17 (0, b12) (by trivial))
      · -- t23 False
        replace hcT := of_decide_eq_false hcT
        have hT : isT j m = false := decide_eq_false (by omega)
        have hwn := way_no hm2 hjm hT hst2 hw2
        refine JC.skip ?_
        refine JQ.thenN ?_
        refine JC.seq ?_
        -- region 11
        refine JC.region ?_
        refine JL.val rfl rfl rfl (.none rfl) (Ev.move rfl) ?_
        refine JL.val rfl rfl rfl (.none rfl) (Ev.bin rfl rfl (quo_i64 (by omega))) ?_
        refine JL.val rfl rfl rfl (.none rfl) (Ev.assign rfl) ?_
        refine JL.nil ?_
        refine JQ.thenN ?_
        -- region 12
        refine JC.region ?_
        refine JL.val rfl rfl rfl (.none rfl) (Ev.move rfl) ?_
        refine JL.val rfl rfl rfl (.none rfl) (Ev.bin rfl rfl (add_i64 (by omega))) ?_
        refine JL.val rfl rfl rfl (.none rfl) (Ev.bin rfl rfl (quo_i64 (by omega))) ?_
        refine JL.val rfl rfl rfl (.none rfl) (Ev.assign rfl) ?_
        refine JL.nil ?_
        refine JQ.blockN ?_
        refine JQ.re (d := 1) (v' := .int .i64 ((j / 2 : Nat) : Int)) rfl (congrArg (Value.int .i64) (by omega)) ?_
        refine JQ.re (d := 2) (v' := .int .i64 (((m + 1) / 2 : Nat) : Int)) rfl (congrArg (Value.int .i64) (by omega)) ?_
        refine JQ.loopN (k, j / 2, (m + 1) / 2, y, out, q) ?_ ?_ ?_ ?_
        · exact Keeps.get (by repeat (first | exact Keeps.nil | refine Keeps.cons rfl ?_))
        · first | exact Sub.all | exact Sub.of_cnt (fun a => by (try dsimp only); simp only [cntA]; omega) | repeat (first | exact Sub.nil | refine Sub.cons (by first | exact .here | exact .there .here | exact .there (.there .here) | exact .there (.there (.there .here)) | exact .there (.there (.there (.there .here)))) ?_ | exact Sub.all)
        · exact ⟨by omega, by omega, hwn.1, hwn.2, hq, hlen, hkp⟩
        · show (m + 1) / 2 < m; omega
  · -- t14 False
    replace hc1 := of_decide_eq_false hc1
    rw [wayR_small (by omega), List.append_nil] at hw2
    subst hw2
    refine JC.exit ?_
    refine JQ.thenE ?_
    refine JQ.thenE ?_
    refine JQ.blockE ?_
    refine JQ.thenN ?_
    refine JC.seq ?_
    -- region 13
    refine JC.region ?_
    refine JL.val rfl rfl rfl (.none rfl) (Ev.move rfl) ?_
    refine JL.val rfl rfl rfl (.none rfl) (Ev.assign rfl) ?_
    refine JL.nil ?_
    refine JQ.thenN ?_
    refine JC.ret ?_
    refine JQ.end1 (H' := (Row.b 53 q)) (.inl rfl) rfl (.tmp rfl) ?_ ?_
    · first | exact Sub.all | exact Sub.of_cnt (fun a => by (try dsimp only); simp only [cntA]; omega) | repeat (first | exact Sub.nil | refine Sub.cons (by first | exact .here | exact .there .here | exact .there (.there .here) | exact .there (.there (.there .here)) | exact .there (.there (.there (.there .here)))) ?_ | exact Sub.all)
    · exact ⟨q, rfl, rfl, hq⟩

theorem lawBinds_any (x y : Dig) (i n : Int) (hib : -9223372036854775808 ≤ i ∧ i ≤ 9223372036854775807) (hnb : -9223372036854775808 ≤ n ∧ n ≤ 9223372036854775807) (oa : Option Addr) (ca : Nat) (p : List Dig) (ob : Option Addr) (cb : Nat) (q : List Dig) (w : World) (hp : Dl w oa ca p) (hq : Dl w ob cb q) (hk : KMem 1 w) (hf : FMem 0 w) :
    Calls Tryd.prog 10 #[.agg (arr8 x.1), .agg (arr8 y.1), .int .i64 i, .int .i64 n, .slice oa p.length ca, .slice ob q.length cb] w (Ret w (fun v _ => v = .bool true)) := by
  refine enter (vs := [.agg (arr8 x.1), .agg (arr8 y.1), .int .i64 i, .int .i64 n, .slice oa p.length ca, .slice ob q.length cb]) Tryd.func10 rfl Tryd.ntmps10 rfl ?_
  refine JC.seq ?_
  -- region 0
  refine JC.region ?_
  refine JL.new rfl rfl rfl (.none rfl) (En.boxA rfl) (fun b6 hb6 => ?_)
  refine JL.new rfl rfl rfl (.none rfl) (En.boxA rfl) (fun b7 hb7 => ?_)
  refine JL.val rfl rfl rfl (.none rfl) (Ev.assign rfl) ?_
  refine JL.nil ?_
  refine JQ.thenN ?_
  refine JC.seq ?_
  -- region 1
  refine JC.region ?_
  refine JL.callV rfl (.none rfl) rfl Tryd.call22 (fun w1 hw1 => alive_any w1 (hk.old hw1) (hf.old hw1)) ?_
  refine JL.val rfl rfl rfl (.none rfl) (Ev.assign rfl) ?_
  refine JL.nil ?_
  refine JQ.thenN ?_
  refine JC.seq ?_
  -- region 2
  refine JC.region ?_
  refine JL.val rfl rfl rfl (.none rfl) (Ev.loadB rfl (by repeat (first | exact List.Mem.head _ | refine List.Mem.tail _ ?_ | refine List.mem_append_right _ ?_ | assumption)) Tryd.underlying22 rfl Tryd.sizeOf22 (by first | rfl | exact dig_size _ | (rw [arr8_size]; first | exact sha_length _ | exact shaO_length _ | assumption))) ?_
  refine JL.val rfl rfl rfl (.none rfl) (Ev.move rfl) ?_
  refine JL.val rfl rfl rfl (.none rfl) (Ev.move rfl) ?_
  refine JL.val rfl rfl rfl (.none rfl) (Ev.move rfl) ?_
  refine JL.callV rfl (.none rfl) rfl Tryd.call14 (fun w1 hw1 => Follow_any x i n hib hnb oa ca p w1 (hp.old hw1) (hk.old hw1) (hf.old hw1)) ?_
  refine JL.val rfl rfl rfl (.none rfl) (Ev.move rfl) ?_
  refine JL.val rfl rfl rfl (.none rfl) (Ev.ex0 rfl) ?_
  refine JL.val rfl rfl rfl (.none rfl) (Ev.ex1 rfl) ?_
  refine JL.new rfl rfl rfl (.none rfl) (En.allocZ (cs := arr8 (List.replicate 32 0)) Tryd.zeroValue22 rfl) (fun b14 hb14 => ?_)
  refine JL.sto rfl rfl (.none rfl) (Es.storeA rfl rfl Tryd.sizeOf22 (by repeat (first | exact .here | apply Upd.there | apply Upd.left)) (by first | rfl | exact dig_size _ | (rw [arr8_size]; first | exact sha_length _ | exact shaO_length _ | assumption)) (by first | rfl | exact dig_size _ | (rw [arr8_size]; first | exact sha_length _ | exact shaO_length _ | assumption)) (by first | exact arr8_one _ | exact fun u hu => arr8_one (List.replicate 32 0) u hu | (simp; done) | (simp; exact ⟨rfl, rfl⟩))) ?_
  refine JL.val rfl rfl rfl (.none rfl) (Ev.assign rfl) ?_
  refine JL.nil ?_
  refine JQ.thenN ?_
  refine JC.seq ?_
  -- region 3
  refine JC.region ?_
  refine JL.val rfl rfl rfl (.none rfl) (Ev.loadB rfl (by repeat (first | exact List.Mem.head _ | refine List.Mem.tail _ ?_ | refine List.mem_append_right _ ?_ | assumption)) Tryd.underlying22 rfl Tryd.sizeOf22 (by first | rfl | exact dig_size _ | (rw [arr8_size]; first | exact sha_length _ | exact shaO_length _ | assumption))) ?_
  refine JL.val rfl rfl rfl (.none rfl) (Ev.move rfl) ?_
  refine JL.val rfl rfl rfl (.none rfl) (Ev.move rfl) ?_
  refine JL.val rfl rfl rfl (.none rfl) (Ev.move rfl) ?_
  refine JL.callV rfl (.none rfl) rfl Tryd.call14 (fun w1 hw1 => Follow_any y i n hib hnb ob cb q w1 (hq.old hw1) (hk.old hw1) (hf.old hw1)) ?_
  refine JL.val rfl rfl rfl (.none rfl) (Ev.move rfl) ?_
  refine JL.val rfl rfl rfl (.none rfl) (Ev.ex0 rfl) ?_
  refine JL.val rfl rfl rfl (.none rfl) (Ev.ex1 rfl) ?_
  refine JL.new rfl rfl rfl (.none rfl) (En.allocZ (cs := arr8 (List.replicate 32 0)) Tryd.zeroValue22 rfl) (fun b16 hb16 => ?_)
  refine JL.sto rfl rfl (.none rfl) (Es.storeA rfl rfl Tryd.sizeOf22 (by repeat (first | exact .here | apply Upd.there | apply Upd.left)) (by first | rfl | exact dig_size _ | (rw [arr8_size]; first | exact sha_length _ | exact shaO_length _ | assumption)) (by first | rfl | exact dig_size _ | (rw [arr8_size]; first | exact sha_length _ | exact shaO_length _ | assumption)) (by first | exact arr8_one _ | exact fun u hu => arr8_one (List.replicate 32 0) u hu | (simp; done) | (simp; exact ⟨rfl, rfl⟩))) ?_
  refine JL.val rfl rfl rfl (.none rfl) (Ev.assign rfl) ?_
  refine JL.nil ?_
  refine JQ.thenN ?_
  refine JC.seq ?_
  refine JC.seq ?_
  -- region 4
  refine JC.region ?_
  refine JL.val rfl rfl rfl (.none rfl) (Ev.move rfl) ?_
  refine JL.val rfl rfl rfl (.none rfl) (Ev.bin rfl rfl neq_int) ?_
  refine JL.val rfl rfl rfl (.none rfl) (Ev.move rfl) ?_
  refine JL.split (d := 40) rfl (fun hgA => ?_) (fun hgA => ?_)
  · -- guard 40 true
    refine JL.skip rfl rfl (.noF rfl rfl rfl) ?_
    refine JL.skip rfl rfl (.noF rfl rfl rfl) ?_
    refine JL.val rfl rfl rfl (.none rfl) (Ev.pickT rfl rfl) ?_
    refine JL.val rfl rfl rfl (.none rfl) (Ev.move rfl) ?_
    refine JL.skip rfl rfl (.noF rfl rfl rfl) ?_
    refine JL.skip rfl rfl (.noF rfl rfl rfl) ?_
    refine JL.skip rfl rfl (.noF rfl rfl rfl) ?_
    refine JL.val rfl rfl rfl (.none rfl) (Ev.pickT rfl rfl) ?_
    refine JL.val rfl rfl rfl (.none rfl) (Ev.move rfl) ?_
    refine JL.skip rfl rfl (.noF rfl rfl rfl) ?_
    refine JL.skip rfl rfl (.noF rfl rfl rfl) ?_
    refine JL.val rfl rfl rfl (.none rfl) (Ev.pickT rfl rfl) ?_
    refine JL.nil ?_
    refine JQ.thenN ?_
    refine JC.condT rfl ?_
    refine JC.seq ?_
    -- region 5
    refine JC.region ?_
    refine JL.val rfl rfl rfl (.none rfl) (Ev.move rfl) ?_
    refine JL.val rfl rfl rfl (.none rfl) (Ev.assign rfl) ?_
    refine JL.nil ?_
    refine JQ.thenN ?_
    refine JC.ret ?_
    refine JQ.thenR ?_
    refine JQ.end1 (H' := []) (.inl rfl) rfl (.tmp rfl) ?_ ?_
    · first | exact Sub.all | exact Sub.of_cnt (fun a => by (try dsimp only); simp only [cntA]; omega) | repeat (first | exact Sub.nil | refine Sub.cons (by first | exact .here | exact .there .here | exact .there (.there .here) | exact .there (.there (.there .here)) | exact .there (.there (.there (.there .here)))) ?_ | exact Sub.all)
    · first | rfl | exact congrArg Value.bool (decide_eq_true rfl)
  · -- guard 40 false
    have hE1 : foE i n p = 0 := by have := of_decide_eq_false hgA; omega
    refine JL.val rfl rfl rfl (.yes rfl rfl rfl) (Ev.move rfl) ?_
    refine JL.val rfl rfl rfl (.yes rfl rfl rfl) (Ev.bin rfl rfl neq_int) ?_
    refine JL.val rfl rfl rfl (.none rfl) (Ev.pickF rfl rfl) ?_
    refine JL.val rfl rfl rfl (.none rfl) (Ev.move rfl) ?_
    refine JL.split (d := 44) rfl (fun hgB => ?_) (fun hgB => ?_)
    · -- guard 44 true
      refine JL.skip rfl rfl (.noF rfl rfl rfl) ?_
      refine JL.skip rfl rfl (.noF rfl rfl rfl) ?_
      refine JL.skip rfl rfl (.noF rfl rfl rfl) ?_
      refine JL.val rfl rfl rfl (.none rfl) (Ev.pickT rfl rfl) ?_
      refine JL.val rfl rfl rfl (.none rfl) (Ev.move rfl) ?_
      refine JL.skip rfl rfl (.noF rfl rfl rfl) ?_
      refine JL.skip rfl rfl (.noF rfl rfl rfl) ?_
      refine JL.val rfl rfl rfl (.none rfl) (Ev.pickT rfl rfl) ?_
      refine JL.nil ?_
      refine JQ.thenN ?_
      refine JC.condT rfl ?_
      refine JC.seq ?_
      -- region 5
      refine JC.region ?_
      refine JL.val rfl rfl rfl (.none rfl) (Ev.move rfl) ?_
      refine JL.val rfl rfl rfl (.none rfl) (Ev.assign rfl) ?_
      refine JL.nil ?_
      refine JQ.thenN ?_
      refine JC.ret ?_
      refine JQ.thenR ?_
      refine JQ.end1 (H' := []) (.inl rfl) rfl (.tmp rfl) ?_ ?_
      · first | exact Sub.all | exact Sub.of_cnt (fun a => by (try dsimp only); simp only [cntA]; omega) | repeat (first | exact Sub.nil | refine Sub.cons (by first | exact .here | exact .there .here | exact .there (.there .here) | exact .there (.there (.there .here)) | exact .there (.there (.there (.there .here)))) ?_ | exact Sub.all)
      · first | rfl | exact congrArg Value.bool (decide_eq_true rfl)
    · -- guard 44 false
      have hE2 : foE i n q = 0 := by have := of_decide_eq_false hgB; omega
      refine JL.val rfl rfl rfl (.yes rfl rfl rfl) (Ev.loadB rfl (by repeat (first | exact List.Mem.head _ | refine List.Mem.tail _ ?_ | refine List.mem_append_right _ ?_ | assumption)) Tryd.underlying22 rfl Tryd.sizeOf22 (by first | rfl | exact dig_size _ | (rw [arr8_size]; first | exact sha_length _ | exact shaO_length _ | assumption))) ?_
      refine JL.val rfl rfl rfl (.yes rfl rfl rfl) (Ev.loadB rfl (by repeat (first | exact List.Mem.head _ | refine List.Mem.tail _ ?_ | refine List.mem_append_right _ ?_ | assumption)) Tryd.underlying22 rfl Tryd.sizeOf22 (by first | rfl | exact dig_size _ | (rw [arr8_size]; first | exact sha_length _ | exact shaO_length _ | assumption))) ?_
      refine JL.val rfl rfl rfl (.yes rfl rfl rfl) (Ev.bin rfl rfl (neq_arr8 (n := 32) Tryd.underlying22 Tryd.underlying5 (by kernel_rfl) (by kernel_rfl) (by first | rfl | exact dig_len _ | assumption | exact sha_length _ | exact shaO_length _) (by first | rfl | exact dig_len _ | assumption | exact sha_length _ | exact shaO_length _))) ?_
      refine JL.val rfl rfl rfl (.none rfl) (Ev.pickF rfl rfl) ?_
      refine JL.val rfl rfl rfl (.none rfl) (Ev.move rfl) ?_
      refine JL.split (d := 49) rfl (fun hgC => ?_) (fun hgC => ?_)
      · -- guard 49 true
        refine JL.skip rfl rfl (.noF rfl rfl rfl) ?_
        refine JL.skip rfl rfl (.noF rfl rfl rfl) ?_
        refine JL.val rfl rfl rfl (.none rfl) (Ev.pickT rfl rfl) ?_
        refine JL.nil ?_
        refine JQ.thenN ?_
        refine JC.condT rfl ?_
        refine JC.seq ?_
        -- region 5
        refine JC.region ?_
        refine JL.val rfl rfl rfl (.none rfl) (Ev.move rfl) ?_
        refine JL.val rfl rfl rfl (.none rfl) (Ev.assign rfl) ?_
        refine JL.nil ?_
        refine JQ.thenN ?_
        refine JC.ret ?_
        refine JQ.thenR ?_
        refine JQ.end1 (H' := []) (.inl rfl) rfl (.tmp rfl) ?_ ?_
        · first | exact Sub.all | exact Sub.of_cnt (fun a => by (try dsimp only); simp only [cntA]; omega) | repeat (first | exact Sub.nil | refine Sub.cons (by first | exact .here | exact .there .here | exact .there (.there .here) | exact .there (.there (.there .here)) | exact .there (.there (.there (.there .here)))) ?_ | exact Sub.all)
        · first | rfl | exact congrArg Value.bool (decide_eq_true rfl)
      · -- guard 49 false
        have hrv : foV x i n p = foV y i n q := Subtype.ext (by simpa using hgC)
        obtain ⟨hok, hs1⟩ := fo_zero hE1
        have hs2 := (fo_zero hE2).2
        have hbd := hok
        unfold badT at hbd
        obtain ⟨I, rfl⟩ : ∃ m : Nat, i = (m : Int) := ⟨i.toNat, by omega⟩
        obtain ⟨N, rfl⟩ : ∃ m : Nat, n = (m : Int) := ⟨n.toNat, by omega⟩
        have hin : I < N := by omega
        have hN : N ≤ 1024 := by omega
        simp only [Int.toNat_natCast] at hs1 hs2
        rw [foV_ok hok hs1, foV_ok hok hs2] at hrv
        have hpl : p.length ≤ 1024 := by have := stepsR_le N I N (Nat.le_refl _); omega
        refine JL.val rfl rfl rfl (.yes rfl rfl rfl) (Ev.move rfl) ?_
        refine JL.val rfl rfl rfl (.yes rfl rfl rfl) (Ev.not rfl) ?_
        refine JL.val rfl rfl rfl (.none rfl) (Ev.pickF rfl rfl) ?_
        refine JL.nil ?_
        refine JQ.thenN ?_
        refine JC.knowF rfl ?_ ?_
        · rfl
        refine JC.skip ?_
        refine JQ.thenN ?_
        refine JC.seq ?_
        refine JC.seq ?_
        -- region 6
        refine JC.region ?_
        refine JL.val rfl rfl rfl (.none rfl) (Ev.loadB rfl (by repeat (first | exact List.Mem.head _ | refine List.Mem.tail _ ?_ | refine List.mem_append_right _ ?_ | assumption)) Tryd.underlying22 rfl Tryd.sizeOf22 (by first | rfl | exact dig_size _ | (rw [arr8_size]; first | exact sha_length _ | exact shaO_length _ | assumption))) ?_
        refine JL.val rfl rfl rfl (.none rfl) (Ev.loadB rfl (by repeat (first | exact List.Mem.head _ | refine List.Mem.tail _ ?_ | refine List.mem_append_right _ ?_ | assumption)) Tryd.underlying22 rfl Tryd.sizeOf22 (by first | rfl | exact dig_size _ | (rw [arr8_size]; first | exact sha_length _ | exact shaO_length _ | assumption))) ?_
        refine JL.val rfl rfl rfl (.none rfl) (Ev.bin rfl rfl (eql_arr8 (n := 32) Tryd.underlying22 Tryd.underlying5 (by kernel_rfl) (by kernel_rfl) (by first | rfl | exact dig_len _ | assumption | exact sha_length _ | exact shaO_length _) (by first | rfl | exact dig_len _ | assumption | exact sha_length _ | exact shaO_length _))) ?_
        refine JL.val rfl rfl rfl (.none rfl) (Ev.move rfl) ?_
        refine JL.split (d := 57) rfl (fun hgD => ?_) (fun hgD => ?_)
        · -- guard 57 true
          refine JL.val rfl rfl rfl (.yes rfl rfl rfl) (Ev.move rfl) ?_
          refine JL.val rfl rfl rfl (.yes rfl rfl rfl) (Ev.move rfl) ?_
          refine JL.callV rfl (.yes rfl rfl rfl) rfl Tryd.call21 (fun w1 hw1 => dSame_any oa ob ca cb p q w1 (hp.old hw1) (hq.old hw1) (by omega)) ?_
          refine JL.val rfl rfl rfl (.none rfl) (Ev.pickT rfl rfl) ?_
          refine JL.nil ?_
          refine JQ.thenN ?_
          refine JC.cond rfl (fun hcE => ?_) (fun hcE => ?_)
          · -- t61 True
            replace hcE := of_decide_eq_true hcE
            refine JC.seq ?_
            -- region 7
            refine JC.region ?_
            refine JL.val rfl rfl rfl (.none rfl) (Ev.move rfl) ?_
            refine JL.val rfl rfl rfl (.none rfl) (Ev.assign rfl) ?_
            refine JL.nil ?_
            refine JQ.thenN ?_
            refine JC.ret ?_
            refine JQ.thenR ?_
            refine JQ.end1 (H' := []) (.inl rfl) rfl (.tmp rfl) ?_ ?_
            · first | exact Sub.all | exact Sub.of_cnt (fun a => by (try dsimp only); simp only [cntA]; omega) | repeat (first | exact Sub.nil | refine Sub.cons (by first | exact .here | exact .there .here | exact .there (.there .here) | exact .there (.there (.there .here)) | exact .there (.there (.there (.there .here)))) ?_ | exact Sub.all)
            · first | rfl | exact congrArg Value.bool (decide_eq_true rfl)
          · -- t61 False
            replace hcE := of_decide_eq_false hcE
            refine JC.skip ?_
            refine JQ.thenN ?_
            refine JC.seq ?_
            have hne : ¬ (x = y ∧ p = q) := by first | exact fun h => hcE h.2 | exact fun h => absurd (congrArg Subtype.val h.1) (of_decide_eq_false hgD)
            obtain ⟨K, A, B, hA, hB, hcl⟩ := clash_ex N N I x y p q (Nat.le_refl _) hin hs1 hs2 hrv hne
            have hKA := (List.getElem?_eq_some_iff.1 hA).1
            have hKB := (List.getElem?_eq_some_iff.1 hB).1
            have hWl := wayR_le x I N p
            -- region 8
            refine JC.cut (X := {z : Option Row × Option Row // Row.ok 64 (wayR x I N p).length (fp (wayR x I N p)) z.1 ∧ Row.ok 64 (wayR y I N q).length (fp (wayR y I N q)) z.2}) (fun ⟨⟨r1, r2⟩, hr1, hr2⟩ => [(12, .bool false), (13, .bool true), (18, Row.v (wayR x I N p).length r1), (19, Row.v (wayR y I N q).length r2)]) (fun ⟨⟨r1, r2⟩, hr1, hr2⟩ => Row.b 53 r1 ++ Row.b 53 r2) ?_ ?_
            · refine JC.regionA (by kernel_rfl) ?_
              refine JA.takeR 1 (by kernel_rfl) rfl rfl rfl (by kernel_rfl) (by kernel_rfl) (by kernel_rfl) (fun _ _ _ h => absurd h.1 (by simp)) (fun _ _ => rfl) (.none rfl) (fun _ => (Ev.move rfl)) ?_
              refine JA.takeR 2 (by kernel_rfl) rfl rfl rfl (by kernel_rfl) (by kernel_rfl) (by kernel_rfl) (fun _ _ _ h => absurd h.1 (by simp)) (fun _ _ => rfl) (.none rfl) (fun _ => (Ev.move rfl)) ?_
              refine JA.takeR 3 (by kernel_rfl) rfl rfl rfl (by kernel_rfl) (by kernel_rfl) (by kernel_rfl) (fun _ _ _ h => absurd h.1 (by simp)) (fun _ _ => rfl) (.none rfl) (fun _ => (Ev.move rfl)) ?_
              refine JA.takeR 6 (by kernel_rfl) rfl rfl rfl (by kernel_rfl) (by kernel_rfl) (by kernel_rfl) (fun _ _ _ h => absurd h.1 (by simp)) (fun _ _ => rfl) (.none rfl) (fun _ => (Ev.move rfl)) ?_
              refine JA.takeR 7 (by kernel_rfl) rfl rfl rfl (by kernel_rfl) (by kernel_rfl) (by kernel_rfl) (fun _ _ _ h => absurd h.1 (by simp)) (fun _ _ => rfl) (.none rfl) (fun _ => (Ev.move rfl)) ?_
              refine JA.takeR 8 (by kernel_rfl) rfl rfl rfl (by kernel_rfl) (by kernel_rfl) (by kernel_rfl) (fun _ _ _ h => absurd h.1 (by simp)) (fun _ _ => rfl) (.none rfl) (fun _ => (Ev.move rfl)) ?_
              refine JA.branch [0, 5] (by kernel_rfl) rfl ?_
              refine JAll.cons rfl ?_ ?_
              · -- 0
                refine JO.val rfl rfl rfl (.none rfl) (Ev.loadB rfl (by repeat (first | exact List.Mem.head _ | refine List.Mem.tail _ ?_ | refine List.mem_append_right _ ?_ | assumption)) Tryd.underlying22 rfl Tryd.sizeOf22 (by first | rfl | exact dig_size _ | (rw [arr8_size]; first | exact sha_length _ | exact shaO_length _ | assumption))) ?_
                refine JA.branch [4, 5] (by kernel_rfl) rfl ?_
                refine JAll.cons rfl ?_ ?_
                · -- 4
                  refine JO.callN rfl (.none rfl) rfl Tryd.call28 (fun w1 hw1 => ways_any x I N hin hN oa ca p w1 (hp.old hw1) hs1 (hk.old hw1) (hf.old hw1)) ?_
                  rintro _ _ ⟨r1, rfl, rfl, hr1⟩
                  refine JA.branch [5] (by kernel_rfl) rfl ?_
                  refine JAll.cons rfl ?_ JAll.nil
                  refine JO.val rfl rfl rfl (.none rfl) (Ev.loadB rfl (by repeat (first | exact List.Mem.head _ | refine List.Mem.tail _ ?_ | refine List.mem_append_right _ ?_ | assumption)) Tryd.underlying22 rfl Tryd.sizeOf22 (by first | rfl | exact dig_size _ | (rw [arr8_size]; first | exact sha_length _ | exact shaO_length _ | assumption))) ?_
                  refine JA.branch [9] (by kernel_rfl) rfl ?_
                  refine JAll.cons rfl ?_ JAll.nil
                  refine JO.callN rfl (.none rfl) rfl Tryd.call28 (fun w1 hw1 => ways_any y I N hin hN ob cb q w1 (hq.old hw1) hs2 (hk.old hw1) (hf.old hw1)) ?_
                  rintro _ _ ⟨r2, rfl, rfl, hr2⟩
                  refine JA.takeR 10 (by kernel_rfl) rfl rfl rfl (by kernel_rfl) (by kernel_rfl) (by kernel_rfl) (fun _ _ _ h => absurd h.1 (by simp)) (fun _ _ => rfl) (.none rfl) (fun _ => (Ev.assign rfl)) ?_
                  refine JA.takeR 11 (by kernel_rfl) rfl rfl rfl (by kernel_rfl) (by kernel_rfl) (by kernel_rfl) (fun _ _ _ h => absurd h.1 (by simp)) (fun _ _ => rfl) (.none rfl) (fun _ => (Ev.assign rfl)) ?_
                  refine JA.done (by kernel_rfl) ?_
                  refine JQ.cutN ⟨⟨r1, r2⟩, hr1, hr2⟩ ?_ ?_
                  · exact Keeps.get (by repeat (first | exact Keeps.nil | refine Keeps.cons rfl ?_))
                  · first | exact Sub.all | exact Sub.of_cnt (fun a => by (try dsimp only); simp only [cntA]; omega) | repeat (first | exact Sub.nil | refine Sub.cons (by first | exact .here | exact .there .here | exact .there (.there .here) | exact .there (.there (.there .here)) | exact .there (.there (.there (.there .here)))) ?_ | exact Sub.all)
                refine JAll.cons rfl ?_ JAll.nil
                refine JO.val rfl rfl rfl (.none rfl) (Ev.loadB rfl (by repeat (first | exact List.Mem.head _ | refine List.Mem.tail _ ?_ | refine List.mem_append_right _ ?_ | assumption)) Tryd.underlying22 rfl Tryd.sizeOf22 (by first | rfl | exact dig_size _ | (rw [arr8_size]; first | exact sha_length _ | exact shaO_length _ | assumption))) ?_
                refine JA.branch [4] (by kernel_rfl) rfl ?_
                refine JAll.cons rfl ?_ JAll.nil
                refine JO.callN rfl (.none rfl) rfl Tryd.call28 (fun w1 hw1 => ways_any x I N hin hN oa ca p w1 (hp.old hw1) hs1 (hk.old hw1) (hf.old hw1)) ?_
                rintro _ _ ⟨r1, rfl, rfl, hr1⟩
                refine JA.branch [9] (by kernel_rfl) rfl ?_
                refine JAll.cons rfl ?_ JAll.nil
                refine JO.callN rfl (.none rfl) rfl Tryd.call28 (fun w1 hw1 => ways_any y I N hin hN ob cb q w1 (hq.old hw1) hs2 (hk.old hw1) (hf.old hw1)) ?_
                rintro _ _ ⟨r2, rfl, rfl, hr2⟩
                refine JA.takeR 10 (by kernel_rfl) rfl rfl rfl (by kernel_rfl) (by kernel_rfl) (by kernel_rfl) (fun _ _ _ h => absurd h.1 (by simp)) (fun _ _ => rfl) (.none rfl) (fun _ => (Ev.assign rfl)) ?_
                refine JA.takeR 11 (by kernel_rfl) rfl rfl rfl (by kernel_rfl) (by kernel_rfl) (by kernel_rfl) (fun _ _ _ h => absurd h.1 (by simp)) (fun _ _ => rfl) (.none rfl) (fun _ => (Ev.assign rfl)) ?_
                refine JA.done (by kernel_rfl) ?_
                refine JQ.cutN ⟨⟨r1, r2⟩, hr1, hr2⟩ ?_ ?_
                · exact Keeps.get (by repeat (first | exact Keeps.nil | refine Keeps.cons rfl ?_))
                · first | exact Sub.all | exact Sub.of_cnt (fun a => by (try dsimp only); simp only [cntA]; omega) | repeat (first | exact Sub.nil | refine Sub.cons (by first | exact .here | exact .there .here | exact .there (.there .here) | exact .there (.there (.there .here)) | exact .there (.there (.there (.there .here)))) ?_ | exact Sub.all)
              refine JAll.cons rfl ?_ JAll.nil
              refine JO.val rfl rfl rfl (.none rfl) (Ev.loadB rfl (by repeat (first | exact List.Mem.head _ | refine List.Mem.tail _ ?_ | refine List.mem_append_right _ ?_ | assumption)) Tryd.underlying22 rfl Tryd.sizeOf22 (by first | rfl | exact dig_size _ | (rw [arr8_size]; first | exact sha_length _ | exact shaO_length _ | assumption))) ?_
              refine JA.branch [0] (by kernel_rfl) rfl ?_
              refine JAll.cons rfl ?_ JAll.nil
              refine JO.val rfl rfl rfl (.none rfl) (Ev.loadB rfl (by repeat (first | exact List.Mem.head _ | refine List.Mem.tail _ ?_ | refine List.mem_append_right _ ?_ | assumption)) Tryd.underlying22 rfl Tryd.sizeOf22 (by first | rfl | exact dig_size _ | (rw [arr8_size]; first | exact sha_length _ | exact shaO_length _ | assumption))) ?_
              refine JA.branch [4] (by kernel_rfl) rfl ?_
              refine JAll.cons rfl ?_ JAll.nil
              refine JO.callN rfl (.none rfl) rfl Tryd.call28 (fun w1 hw1 => ways_any x I N hin hN oa ca p w1 (hp.old hw1) hs1 (hk.old hw1) (hf.old hw1)) ?_
              rintro _ _ ⟨r1, rfl, rfl, hr1⟩
              refine JA.branch [9] (by kernel_rfl) rfl ?_
              refine JAll.cons rfl ?_ JAll.nil
              refine JO.callN rfl (.none rfl) rfl Tryd.call28 (fun w1 hw1 => ways_any y I N hin hN ob cb q w1 (hq.old hw1) hs2 (hk.old hw1) (hf.old hw1)) ?_
              rintro _ _ ⟨r2, rfl, rfl, hr2⟩
              refine JA.takeR 10 (by kernel_rfl) rfl rfl rfl (by kernel_rfl) (by kernel_rfl) (by kernel_rfl) (fun _ _ _ h => absurd h.1 (by simp)) (fun _ _ => rfl) (.none rfl) (fun _ => (Ev.assign rfl)) ?_
              refine JA.takeR 11 (by kernel_rfl) rfl rfl rfl (by kernel_rfl) (by kernel_rfl) (by kernel_rfl) (fun _ _ _ h => absurd h.1 (by simp)) (fun _ _ => rfl) (.none rfl) (fun _ => (Ev.assign rfl)) ?_
              refine JA.done (by kernel_rfl) ?_
              refine JQ.cutN ⟨⟨r1, r2⟩, hr1, hr2⟩ ?_ ?_
              · exact Keeps.get (by repeat (first | exact Keeps.nil | refine Keeps.cons rfl ?_))
              · first | exact Sub.all | exact Sub.of_cnt (fun a => by (try dsimp only); simp only [cntA]; omega) | repeat (first | exact Sub.nil | refine Sub.cons (by first | exact .here | exact .there .here | exact .there (.there .here) | exact .there (.there (.there .here)) | exact .there (.there (.there (.there .here)))) ?_ | exact Sub.all)
            rintro ⟨⟨r1, r2⟩, hr1, hr2⟩
            obtain ⟨o1, c1, e1, hn1, hC1⟩ := Row.vw (e := 53) hr1
            refine JQ.re (d := 18) rfl e1 ?_
            obtain ⟨a1, rfl⟩ : ∃ a, o1 = some a := by cases o1 with | none => (have := hn1 rfl; omega) | some a => exact ⟨a, rfl⟩
            obtain ⟨o2, c2, e2, hn2, hC2⟩ := Row.vw (e := 53) hr2
            refine JQ.re (d := 19) rfl e2 ?_
            obtain ⟨a2, rfl⟩ : ∃ a, o2 = some a := by cases o2 with | none => (have := hn2 rfl; omega) | some a => exact ⟨a, rfl⟩
            refine JQ.thenN ?_
            refine JC.seq ?_
            refine JC.seq ?_
            -- region 9
            refine JC.region ?_
            refine JL.val rfl rfl rfl (.none rfl) (Ev.assign rfl) ?_
            refine JL.nil ?_
            refine JQ.thenN ?_
            refine JC.block ?_
            refine JC.loop (X := Nat)
              (fun k => [(12, .bool false), (13, .bool true), (18, .slice (some a1) (wayR x I N p).length c1), (19, .slice (some a2) (wayR y I N q).length c2), (20, .int .i64 (k : Int))])
              (fun k => Row.b 53 r1 ++ Row.b 53 r2)
              (fun k => k ≤ K)
              (fun k => K - k) 0 ?_ ?_ ?_ ?_
            · exact Keeps.get (by repeat (first | exact Keeps.nil | refine Keeps.cons rfl ?_))
            · first | exact Sub.all | exact Sub.of_cnt (fun a => by (try dsimp only); simp only [cntA]; omega) | repeat (first | exact Sub.nil | refine Sub.cons (by first | exact .here | exact .there .here | exact .there (.there .here) | exact .there (.there (.there .here)) | exact .there (.there (.there (.there .here)))) ?_ | exact Sub.all)
            · exact Nat.zero_le _
            rintro k hkk
            obtain ⟨E, hE⟩ := get_some (l := (wayR x I N p)) (k := k) (by omega)
            obtain ⟨F, hF⟩ := get_some (l := (wayR y I N q)) (k := k) (by omega)
            refine JC.seq ?_
            refine JC.seq ?_
            -- region 10
            refine JC.region ?_
            refine JL.val rfl rfl rfl (.none rfl) (Ev.move rfl) ?_
            refine JL.val rfl rfl rfl (.none rfl) (Ev.move rfl) ?_
            refine JL.val rfl rfl rfl (.none rfl) (Ev.lenS rfl Tryd.underlying50) ?_
            refine JL.val rfl rfl rfl (.none rfl) (Ev.bin rfl rfl lss_int) ?_
            refine JL.val rfl rfl rfl (.none rfl) (Ev.move rfl) ?_
            refine JL.know (d := 77) (b := true) rfl ?_ ?_
            · exact decide_eq_true (by omega)
            refine JL.val rfl rfl rfl (.yes rfl rfl rfl) (Ev.move rfl) ?_
            refine JL.val rfl rfl rfl (.yes rfl rfl rfl) (Ev.move rfl) ?_
            refine JL.val rfl rfl rfl (.yes rfl rfl rfl) (Ev.lenS rfl Tryd.underlying50) ?_
            refine JL.val rfl rfl rfl (.yes rfl rfl rfl) (Ev.bin rfl rfl lss_int) ?_
            refine JL.val rfl rfl rfl (.none rfl) (Ev.pickT rfl rfl) ?_
            refine JL.nil ?_
            refine JQ.thenN ?_
            refine JC.knowT rfl ?_ ?_
            · exact decide_eq_true (by omega)
            refine JC.skip ?_
            refine JQ.thenN ?_
            refine JC.seq ?_
            refine JC.block ?_
            refine JC.seq ?_
            -- region 12
            refine JC.regionQ (by kernel_rfl) (by kernel_rfl) ?_
            refine JW.val rfl rfl (.none rfl) (Ev.move rfl) ?_
            refine JW.val rfl rfl (.none rfl) (Ev.move rfl) ?_
            refine JW.val rfl rfl (.none rfl) (Ev.idxS rfl rfl Tryd.underlying50 Tryd.sizeOf53 (k := k) rfl (by omega)) ?_
            refine JW.val rfl rfl (.none rfl) (Ev.idxA (k := 0) rfl rfl Tryd.underlying53 Tryd.sizeOf22 rfl (by omega)) ?_
            refine JW.val rfl rfl (.none rfl) (Ev.loadD rfl Tryd.underlying22 rfl Tryd.sizeOf22 (fun w1 hw1 => ((hC1 w1 hw1 (fun p hp => by simp [hp])).mem a1 rfl).pairL hE)) ?_
            refine JW.val rfl rfl (.none rfl) (Ev.move rfl) ?_
            refine JW.val rfl rfl (.none rfl) (Ev.move rfl) ?_
            refine JW.val rfl rfl (.none rfl) (Ev.idxS rfl rfl Tryd.underlying50 Tryd.sizeOf53 (k := k) rfl (by omega)) ?_
            refine JW.val rfl rfl (.none rfl) (Ev.idxA (k := 1) rfl rfl Tryd.underlying53 Tryd.sizeOf22 rfl (by omega)) ?_
            refine JW.val rfl rfl (.none rfl) (Ev.loadD rfl Tryd.underlying22 rfl Tryd.sizeOf22 (fun w1 hw1 => ((hC1 w1 hw1 (fun p hp => by simp [hp])).mem a1 rfl).pairR hE)) ?_
            refine JW.val rfl rfl (.none rfl) (Ev.move rfl) ?_
            refine JW.val rfl rfl (.none rfl) (Ev.move rfl) ?_
            refine JW.val rfl rfl (.none rfl) (Ev.idxS rfl rfl Tryd.underlying50 Tryd.sizeOf53 (k := k) rfl (by omega)) ?_
            refine JW.val rfl rfl (.none rfl) (Ev.idxA (k := 0) rfl rfl Tryd.underlying53 Tryd.sizeOf22 rfl (by omega)) ?_
            refine JW.val rfl rfl (.none rfl) (Ev.loadD rfl Tryd.underlying22 rfl Tryd.sizeOf22 (fun w1 hw1 => ((hC2 w1 hw1 (fun p hp => by simp [hp])).mem a2 rfl).pairL hF)) ?_
            refine JW.val rfl rfl (.none rfl) (Ev.move rfl) ?_
            refine JW.val rfl rfl (.none rfl) (Ev.move rfl) ?_
            refine JW.val rfl rfl (.none rfl) (Ev.idxS rfl rfl Tryd.underlying50 Tryd.sizeOf53 (k := k) rfl (by omega)) ?_
            refine JW.val rfl rfl (.none rfl) (Ev.idxA (k := 1) rfl rfl Tryd.underlying53 Tryd.sizeOf22 rfl (by omega)) ?_
            refine JW.val rfl rfl (.none rfl) (Ev.loadD rfl Tryd.underlying22 rfl Tryd.sizeOf22 (fun w1 hw1 => ((hC2 w1 hw1 (fun p hp => by simp [hp])).mem a2 rfl).pairR hF)) ?_
            refine JW.call rfl (.none rfl) rfl Tryd.call29 (fun w1 hw1 => clash_any E.1 E.2 F.1 F.2 w1 (hk.old hw1) (hf.old hw1)) ?_
            refine JW.nilQ ?_
            refine JQ.thenN ?_
            refine JC.cond rfl (fun hcc => ?_) (fun hcc => ?_)
            · -- t105 True
              refine JC.seq ?_
              -- region 13
              refine JC.region ?_
              refine JL.val rfl rfl rfl (.none rfl) (Ev.move rfl) ?_
              refine JL.val rfl rfl rfl (.none rfl) (Ev.assign rfl) ?_
              refine JL.nil ?_
              refine JQ.thenN ?_
              refine JC.ret ?_
              refine JQ.blockR ?_
              refine JQ.thenR ?_
              refine JQ.thenR ?_
              refine JQ.blockR ?_
              refine JQ.thenR ?_
              refine JQ.end1 (H' := []) (.inl rfl) rfl (.tmp rfl) ?_ ?_
              · first | exact Sub.all | exact Sub.of_cnt (fun a => by (try dsimp only); simp only [cntA]; omega) | repeat (first | exact Sub.nil | refine Sub.cons (by first | exact .here | exact .there .here | exact .there (.there .here) | exact .there (.there (.there .here)) | exact .there (.there (.there (.there .here)))) ?_ | exact Sub.all)
              · first | rfl | exact congrArg Value.bool (decide_eq_true rfl)
            · -- t105 False
              have hkK : k ≠ K := fun h => by subst h; rw [hE] at hA; rw [hF] at hB; obtain rfl := Option.some.inj hA; obtain rfl := Option.some.inj hB; rw [hcl] at hcc; cases hcc
              refine JC.skip ?_
              refine JQ.blockN ?_
              refine JQ.thenN ?_
              -- region 11
              refine JC.region ?_
              refine JL.val rfl rfl rfl (.none rfl) (Ev.move rfl) ?_
              refine JL.val rfl rfl rfl (.none rfl) (Ev.bin rfl rfl (add_i64 (by omega))) ?_
              refine JL.val rfl rfl rfl (.none rfl) (Ev.assign rfl) ?_
              refine JL.nil ?_
              refine JQ.loopN (k + 1) ?_ ?_ ?_ ?_
              · exact Keeps.get (by repeat (first | exact Keeps.nil | refine Keeps.cons rfl ?_))
              · first | exact Sub.all | exact Sub.of_cnt (fun a => by (try dsimp only); simp only [cntA]; omega) | repeat (first | exact Sub.nil | refine Sub.cons (by first | exact .here | exact .there .here | exact .there (.there .here) | exact .there (.there (.there .here)) | exact .there (.there (.there (.there .here)))) ?_ | exact Sub.all)
              · show k + 1 ≤ K; omega
              · show K - (k + 1) < K - k; omega
        · -- guard 57 false
          refine JL.skip rfl rfl (.noT rfl rfl rfl) ?_
          refine JL.skip rfl rfl (.noT rfl rfl rfl) ?_
          refine JL.skip rfl rfl (.noT rfl rfl rfl) ?_
          refine JL.val rfl rfl rfl (.none rfl) (Ev.pickF rfl rfl) ?_
          refine JL.nil ?_
          refine JQ.thenN ?_
          refine JC.condF rfl ?_
          refine JC.skip ?_
          refine JQ.thenN ?_
          refine JC.seq ?_
          have hne : ¬ (x = y ∧ p = q) := by first | exact fun h => hcE h.2 | exact fun h => absurd (congrArg Subtype.val h.1) (of_decide_eq_false hgD)
          obtain ⟨K, A, B, hA, hB, hcl⟩ := clash_ex N N I x y p q (Nat.le_refl _) hin hs1 hs2 hrv hne
          have hKA := (List.getElem?_eq_some_iff.1 hA).1
          have hKB := (List.getElem?_eq_some_iff.1 hB).1
          have hWl := wayR_le x I N p
          -- region 8
          refine JC.cut (X := {z : Option Row × Option Row // Row.ok 64 (wayR x I N p).length (fp (wayR x I N p)) z.1 ∧ Row.ok 64 (wayR y I N q).length (fp (wayR y I N q)) z.2}) (fun ⟨⟨r1, r2⟩, hr1, hr2⟩ => [(12, .bool false), (13, .bool true), (18, Row.v (wayR x I N p).length r1), (19, Row.v (wayR y I N q).length r2)]) (fun ⟨⟨r1, r2⟩, hr1, hr2⟩ => Row.b 53 r1 ++ Row.b 53 r2) ?_ ?_
          · refine JC.regionA (by kernel_rfl) ?_
            refine JA.takeR 1 (by kernel_rfl) rfl rfl rfl (by kernel_rfl) (by kernel_rfl) (by kernel_rfl) (fun _ _ _ h => absurd h.1 (by simp)) (fun _ _ => rfl) (.none rfl) (fun _ => (Ev.move rfl)) ?_
            refine JA.takeR 2 (by kernel_rfl) rfl rfl rfl (by kernel_rfl) (by kernel_rfl) (by kernel_rfl) (fun _ _ _ h => absurd h.1 (by simp)) (fun _ _ => rfl) (.none rfl) (fun _ => (Ev.move rfl)) ?_
            refine JA.takeR 3 (by kernel_rfl) rfl rfl rfl (by kernel_rfl) (by kernel_rfl) (by kernel_rfl) (fun _ _ _ h => absurd h.1 (by simp)) (fun _ _ => rfl) (.none rfl) (fun _ => (Ev.move rfl)) ?_
            refine JA.takeR 6 (by kernel_rfl) rfl rfl rfl (by kernel_rfl) (by kernel_rfl) (by kernel_rfl) (fun _ _ _ h => absurd h.1 (by simp)) (fun _ _ => rfl) (.none rfl) (fun _ => (Ev.move rfl)) ?_
            refine JA.takeR 7 (by kernel_rfl) rfl rfl rfl (by kernel_rfl) (by kernel_rfl) (by kernel_rfl) (fun _ _ _ h => absurd h.1 (by simp)) (fun _ _ => rfl) (.none rfl) (fun _ => (Ev.move rfl)) ?_
            refine JA.takeR 8 (by kernel_rfl) rfl rfl rfl (by kernel_rfl) (by kernel_rfl) (by kernel_rfl) (fun _ _ _ h => absurd h.1 (by simp)) (fun _ _ => rfl) (.none rfl) (fun _ => (Ev.move rfl)) ?_
            refine JA.branch [0, 5] (by kernel_rfl) rfl ?_
            refine JAll.cons rfl ?_ ?_
            · -- 0
              refine JO.val rfl rfl rfl (.none rfl) (Ev.loadB rfl (by repeat (first | exact List.Mem.head _ | refine List.Mem.tail _ ?_ | refine List.mem_append_right _ ?_ | assumption)) Tryd.underlying22 rfl Tryd.sizeOf22 (by first | rfl | exact dig_size _ | (rw [arr8_size]; first | exact sha_length _ | exact shaO_length _ | assumption))) ?_
              refine JA.branch [4, 5] (by kernel_rfl) rfl ?_
              refine JAll.cons rfl ?_ ?_
              · -- 4
                refine JO.callN rfl (.none rfl) rfl Tryd.call28 (fun w1 hw1 => ways_any x I N hin hN oa ca p w1 (hp.old hw1) hs1 (hk.old hw1) (hf.old hw1)) ?_
                rintro _ _ ⟨r1, rfl, rfl, hr1⟩
                refine JA.branch [5] (by kernel_rfl) rfl ?_
                refine JAll.cons rfl ?_ JAll.nil
                refine JO.val rfl rfl rfl (.none rfl) (Ev.loadB rfl (by repeat (first | exact List.Mem.head _ | refine List.Mem.tail _ ?_ | refine List.mem_append_right _ ?_ | assumption)) Tryd.underlying22 rfl Tryd.sizeOf22 (by first | rfl | exact dig_size _ | (rw [arr8_size]; first | exact sha_length _ | exact shaO_length _ | assumption))) ?_
                refine JA.branch [9] (by kernel_rfl) rfl ?_
                refine JAll.cons rfl ?_ JAll.nil
                refine JO.callN rfl (.none rfl) rfl Tryd.call28 (fun w1 hw1 => ways_any y I N hin hN ob cb q w1 (hq.old hw1) hs2 (hk.old hw1) (hf.old hw1)) ?_
                rintro _ _ ⟨r2, rfl, rfl, hr2⟩
                refine JA.takeR 10 (by kernel_rfl) rfl rfl rfl (by kernel_rfl) (by kernel_rfl) (by kernel_rfl) (fun _ _ _ h => absurd h.1 (by simp)) (fun _ _ => rfl) (.none rfl) (fun _ => (Ev.assign rfl)) ?_
                refine JA.takeR 11 (by kernel_rfl) rfl rfl rfl (by kernel_rfl) (by kernel_rfl) (by kernel_rfl) (fun _ _ _ h => absurd h.1 (by simp)) (fun _ _ => rfl) (.none rfl) (fun _ => (Ev.assign rfl)) ?_
                refine JA.done (by kernel_rfl) ?_
                refine JQ.cutN ⟨⟨r1, r2⟩, hr1, hr2⟩ ?_ ?_
                · exact Keeps.get (by repeat (first | exact Keeps.nil | refine Keeps.cons rfl ?_))
                · first | exact Sub.all | exact Sub.of_cnt (fun a => by (try dsimp only); simp only [cntA]; omega) | repeat (first | exact Sub.nil | refine Sub.cons (by first | exact .here | exact .there .here | exact .there (.there .here) | exact .there (.there (.there .here)) | exact .there (.there (.there (.there .here)))) ?_ | exact Sub.all)
              refine JAll.cons rfl ?_ JAll.nil
              refine JO.val rfl rfl rfl (.none rfl) (Ev.loadB rfl (by repeat (first | exact List.Mem.head _ | refine List.Mem.tail _ ?_ | refine List.mem_append_right _ ?_ | assumption)) Tryd.underlying22 rfl Tryd.sizeOf22 (by first | rfl | exact dig_size _ | (rw [arr8_size]; first | exact sha_length _ | exact shaO_length _ | assumption))) ?_
              refine JA.branch [4] (by kernel_rfl) rfl ?_
              refine JAll.cons rfl ?_ JAll.nil
              refine JO.callN rfl (.none rfl) rfl Tryd.call28 (fun w1 hw1 => ways_any x I N hin hN oa ca p w1 (hp.old hw1) hs1 (hk.old hw1) (hf.old hw1)) ?_
              rintro _ _ ⟨r1, rfl, rfl, hr1⟩
              refine JA.branch [9] (by kernel_rfl) rfl ?_
              refine JAll.cons rfl ?_ JAll.nil
              refine JO.callN rfl (.none rfl) rfl Tryd.call28 (fun w1 hw1 => ways_any y I N hin hN ob cb q w1 (hq.old hw1) hs2 (hk.old hw1) (hf.old hw1)) ?_
              rintro _ _ ⟨r2, rfl, rfl, hr2⟩
              refine JA.takeR 10 (by kernel_rfl) rfl rfl rfl (by kernel_rfl) (by kernel_rfl) (by kernel_rfl) (fun _ _ _ h => absurd h.1 (by simp)) (fun _ _ => rfl) (.none rfl) (fun _ => (Ev.assign rfl)) ?_
              refine JA.takeR 11 (by kernel_rfl) rfl rfl rfl (by kernel_rfl) (by kernel_rfl) (by kernel_rfl) (fun _ _ _ h => absurd h.1 (by simp)) (fun _ _ => rfl) (.none rfl) (fun _ => (Ev.assign rfl)) ?_
              refine JA.done (by kernel_rfl) ?_
              refine JQ.cutN ⟨⟨r1, r2⟩, hr1, hr2⟩ ?_ ?_
              · exact Keeps.get (by repeat (first | exact Keeps.nil | refine Keeps.cons rfl ?_))
              · first | exact Sub.all | exact Sub.of_cnt (fun a => by (try dsimp only); simp only [cntA]; omega) | repeat (first | exact Sub.nil | refine Sub.cons (by first | exact .here | exact .there .here | exact .there (.there .here) | exact .there (.there (.there .here)) | exact .there (.there (.there (.there .here)))) ?_ | exact Sub.all)
            refine JAll.cons rfl ?_ JAll.nil
            refine JO.val rfl rfl rfl (.none rfl) (Ev.loadB rfl (by repeat (first | exact List.Mem.head _ | refine List.Mem.tail _ ?_ | refine List.mem_append_right _ ?_ | assumption)) Tryd.underlying22 rfl Tryd.sizeOf22 (by first | rfl | exact dig_size _ | (rw [arr8_size]; first | exact sha_length _ | exact shaO_length _ | assumption))) ?_
            refine JA.branch [0] (by kernel_rfl) rfl ?_
            refine JAll.cons rfl ?_ JAll.nil
            refine JO.val rfl rfl rfl (.none rfl) (Ev.loadB rfl (by repeat (first | exact List.Mem.head _ | refine List.Mem.tail _ ?_ | refine List.mem_append_right _ ?_ | assumption)) Tryd.underlying22 rfl Tryd.sizeOf22 (by first | rfl | exact dig_size _ | (rw [arr8_size]; first | exact sha_length _ | exact shaO_length _ | assumption))) ?_
            refine JA.branch [4] (by kernel_rfl) rfl ?_
            refine JAll.cons rfl ?_ JAll.nil
            refine JO.callN rfl (.none rfl) rfl Tryd.call28 (fun w1 hw1 => ways_any x I N hin hN oa ca p w1 (hp.old hw1) hs1 (hk.old hw1) (hf.old hw1)) ?_
            rintro _ _ ⟨r1, rfl, rfl, hr1⟩
            refine JA.branch [9] (by kernel_rfl) rfl ?_
            refine JAll.cons rfl ?_ JAll.nil
            refine JO.callN rfl (.none rfl) rfl Tryd.call28 (fun w1 hw1 => ways_any y I N hin hN ob cb q w1 (hq.old hw1) hs2 (hk.old hw1) (hf.old hw1)) ?_
            rintro _ _ ⟨r2, rfl, rfl, hr2⟩
            refine JA.takeR 10 (by kernel_rfl) rfl rfl rfl (by kernel_rfl) (by kernel_rfl) (by kernel_rfl) (fun _ _ _ h => absurd h.1 (by simp)) (fun _ _ => rfl) (.none rfl) (fun _ => (Ev.assign rfl)) ?_
            refine JA.takeR 11 (by kernel_rfl) rfl rfl rfl (by kernel_rfl) (by kernel_rfl) (by kernel_rfl) (fun _ _ _ h => absurd h.1 (by simp)) (fun _ _ => rfl) (.none rfl) (fun _ => (Ev.assign rfl)) ?_
            refine JA.done (by kernel_rfl) ?_
            refine JQ.cutN ⟨⟨r1, r2⟩, hr1, hr2⟩ ?_ ?_
            · exact Keeps.get (by repeat (first | exact Keeps.nil | refine Keeps.cons rfl ?_))
            · first | exact Sub.all | exact Sub.of_cnt (fun a => by (try dsimp only); simp only [cntA]; omega) | repeat (first | exact Sub.nil | refine Sub.cons (by first | exact .here | exact .there .here | exact .there (.there .here) | exact .there (.there (.there .here)) | exact .there (.there (.there (.there .here)))) ?_ | exact Sub.all)
          rintro ⟨⟨r1, r2⟩, hr1, hr2⟩
          obtain ⟨o1, c1, e1, hn1, hC1⟩ := Row.vw (e := 53) hr1
          refine JQ.re (d := 18) rfl e1 ?_
          obtain ⟨a1, rfl⟩ : ∃ a, o1 = some a := by cases o1 with | none => (have := hn1 rfl; omega) | some a => exact ⟨a, rfl⟩
          obtain ⟨o2, c2, e2, hn2, hC2⟩ := Row.vw (e := 53) hr2
          refine JQ.re (d := 19) rfl e2 ?_
          obtain ⟨a2, rfl⟩ : ∃ a, o2 = some a := by cases o2 with | none => (have := hn2 rfl; omega) | some a => exact ⟨a, rfl⟩
          refine JQ.thenN ?_
          refine JC.seq ?_
          refine JC.seq ?_
          -- region 9
          refine JC.region ?_
          refine JL.val rfl rfl rfl (.none rfl) (Ev.assign rfl) ?_
          refine JL.nil ?_
          refine JQ.thenN ?_
          refine JC.block ?_
          refine JC.loop (X := Nat)
            (fun k => [(12, .bool false), (13, .bool true), (18, .slice (some a1) (wayR x I N p).length c1), (19, .slice (some a2) (wayR y I N q).length c2), (20, .int .i64 (k : Int))])
            (fun k => Row.b 53 r1 ++ Row.b 53 r2)
            (fun k => k ≤ K)
            (fun k => K - k) 0 ?_ ?_ ?_ ?_
          · exact Keeps.get (by repeat (first | exact Keeps.nil | refine Keeps.cons rfl ?_))
          · first | exact Sub.all | exact Sub.of_cnt (fun a => by (try dsimp only); simp only [cntA]; omega) | repeat (first | exact Sub.nil | refine Sub.cons (by first | exact .here | exact .there .here | exact .there (.there .here) | exact .there (.there (.there .here)) | exact .there (.there (.there (.there .here)))) ?_ | exact Sub.all)
          · exact Nat.zero_le _
          rintro k hkk
          obtain ⟨E, hE⟩ := get_some (l := (wayR x I N p)) (k := k) (by omega)
          obtain ⟨F, hF⟩ := get_some (l := (wayR y I N q)) (k := k) (by omega)
          refine JC.seq ?_
          refine JC.seq ?_
          -- region 10
          refine JC.region ?_
          refine JL.val rfl rfl rfl (.none rfl) (Ev.move rfl) ?_
          refine JL.val rfl rfl rfl (.none rfl) (Ev.move rfl) ?_
          refine JL.val rfl rfl rfl (.none rfl) (Ev.lenS rfl Tryd.underlying50) ?_
          refine JL.val rfl rfl rfl (.none rfl) (Ev.bin rfl rfl lss_int) ?_
          refine JL.val rfl rfl rfl (.none rfl) (Ev.move rfl) ?_
          refine JL.know (d := 77) (b := true) rfl ?_ ?_
          · exact decide_eq_true (by omega)
          refine JL.val rfl rfl rfl (.yes rfl rfl rfl) (Ev.move rfl) ?_
          refine JL.val rfl rfl rfl (.yes rfl rfl rfl) (Ev.move rfl) ?_
          refine JL.val rfl rfl rfl (.yes rfl rfl rfl) (Ev.lenS rfl Tryd.underlying50) ?_
          refine JL.val rfl rfl rfl (.yes rfl rfl rfl) (Ev.bin rfl rfl lss_int) ?_
          refine JL.val rfl rfl rfl (.none rfl) (Ev.pickT rfl rfl) ?_
          refine JL.nil ?_
          refine JQ.thenN ?_
          refine JC.knowT rfl ?_ ?_
          · exact decide_eq_true (by omega)
          refine JC.skip ?_
          refine JQ.thenN ?_
          refine JC.seq ?_
          refine JC.block ?_
          refine JC.seq ?_
          -- region 12
          refine JC.regionQ (by kernel_rfl) (by kernel_rfl) ?_
          refine JW.val rfl rfl (.none rfl) (Ev.move rfl) ?_
          refine JW.val rfl rfl (.none rfl) (Ev.move rfl) ?_
          refine JW.val rfl rfl (.none rfl) (Ev.idxS rfl rfl Tryd.underlying50 Tryd.sizeOf53 (k := k) rfl (by omega)) ?_
          refine JW.val rfl rfl (.none rfl) (Ev.idxA (k := 0) rfl rfl Tryd.underlying53 Tryd.sizeOf22 rfl (by omega)) ?_
          refine JW.val rfl rfl (.none rfl) (Ev.loadD rfl Tryd.underlying22 rfl Tryd.sizeOf22 (fun w1 hw1 => ((hC1 w1 hw1 (fun p hp => by simp [hp])).mem a1 rfl).pairL hE)) ?_
          refine JW.val rfl rfl (.none rfl) (Ev.move rfl) ?_
          refine JW.val rfl rfl (.none rfl) (Ev.move rfl) ?_
          refine JW.val rfl rfl (.none rfl) (Ev.idxS rfl rfl Tryd.underlying50 Tryd.sizeOf53 (k := k) rfl (by omega)) ?_
          refine JW.val rfl rfl (.none rfl) (Ev.idxA (k := 1) rfl rfl Tryd.underlying53 Tryd.sizeOf22 rfl (by omega)) ?_
          refine JW.val rfl rfl (.none rfl) (Ev.loadD rfl Tryd.underlying22 rfl Tryd.sizeOf22 (fun w1 hw1 => ((hC1 w1 hw1 (fun p hp => by simp [hp])).mem a1 rfl).pairR hE)) ?_
          refine JW.val rfl rfl (.none rfl) (Ev.move rfl) ?_
          refine JW.val rfl rfl (.none rfl) (Ev.move rfl) ?_
          refine JW.val rfl rfl (.none rfl) (Ev.idxS rfl rfl Tryd.underlying50 Tryd.sizeOf53 (k := k) rfl (by omega)) ?_
          refine JW.val rfl rfl (.none rfl) (Ev.idxA (k := 0) rfl rfl Tryd.underlying53 Tryd.sizeOf22 rfl (by omega)) ?_
          refine JW.val rfl rfl (.none rfl) (Ev.loadD rfl Tryd.underlying22 rfl Tryd.sizeOf22 (fun w1 hw1 => ((hC2 w1 hw1 (fun p hp => by simp [hp])).mem a2 rfl).pairL hF)) ?_
          refine JW.val rfl rfl (.none rfl) (Ev.move rfl) ?_
          refine JW.val rfl rfl (.none rfl) (Ev.move rfl) ?_
          refine JW.val rfl rfl (.none rfl) (Ev.idxS rfl rfl Tryd.underlying50 Tryd.sizeOf53 (k := k) rfl (by omega)) ?_
          refine JW.val rfl rfl (.none rfl) (Ev.idxA (k := 1) rfl rfl Tryd.underlying53 Tryd.sizeOf22 rfl (by omega)) ?_
          refine JW.val rfl rfl (.none rfl) (Ev.loadD rfl Tryd.underlying22 rfl Tryd.sizeOf22 (fun w1 hw1 => ((hC2 w1 hw1 (fun p hp => by simp [hp])).mem a2 rfl).pairR hF)) ?_
          refine JW.call rfl (.none rfl) rfl Tryd.call29 (fun w1 hw1 => clash_any E.1 E.2 F.1 F.2 w1 (hk.old hw1) (hf.old hw1)) ?_
          refine JW.nilQ ?_
          refine JQ.thenN ?_
          refine JC.cond rfl (fun hcc => ?_) (fun hcc => ?_)
          · -- t105 True
            refine JC.seq ?_
            -- region 13
            refine JC.region ?_
            refine JL.val rfl rfl rfl (.none rfl) (Ev.move rfl) ?_
            refine JL.val rfl rfl rfl (.none rfl) (Ev.assign rfl) ?_
            refine JL.nil ?_
            refine JQ.thenN ?_
            refine JC.ret ?_
            refine JQ.blockR ?_
            refine JQ.thenR ?_
            refine JQ.thenR ?_
            refine JQ.blockR ?_
            refine JQ.thenR ?_
            refine JQ.end1 (H' := []) (.inl rfl) rfl (.tmp rfl) ?_ ?_
            · first | exact Sub.all | exact Sub.of_cnt (fun a => by (try dsimp only); simp only [cntA]; omega) | repeat (first | exact Sub.nil | refine Sub.cons (by first | exact .here | exact .there .here | exact .there (.there .here) | exact .there (.there (.there .here)) | exact .there (.there (.there (.there .here)))) ?_ | exact Sub.all)
            · first | rfl | exact congrArg Value.bool (decide_eq_true rfl)
          · -- t105 False
            have hkK : k ≠ K := fun h => by subst h; rw [hE] at hA; rw [hF] at hB; obtain rfl := Option.some.inj hA; obtain rfl := Option.some.inj hB; rw [hcl] at hcc; cases hcc
            refine JC.skip ?_
            refine JQ.blockN ?_
            refine JQ.thenN ?_
            -- region 11
            refine JC.region ?_
            refine JL.val rfl rfl rfl (.none rfl) (Ev.move rfl) ?_
            refine JL.val rfl rfl rfl (.none rfl) (Ev.bin rfl rfl (add_i64 (by omega))) ?_
            refine JL.val rfl rfl rfl (.none rfl) (Ev.assign rfl) ?_
            refine JL.nil ?_
            refine JQ.loopN (k + 1) ?_ ?_ ?_ ?_
            · exact Keeps.get (by repeat (first | exact Keeps.nil | refine Keeps.cons rfl ?_))
            · first | exact Sub.all | exact Sub.of_cnt (fun a => by (try dsimp only); simp only [cntA]; omega) | repeat (first | exact Sub.nil | refine Sub.cons (by first | exact .here | exact .there .here | exact .there (.there .here) | exact .there (.there (.there .here)) | exact .there (.there (.there (.there .here)))) ?_ | exact Sub.all)
            · show k + 1 ≤ K; omega
            · show K - (k + 1) < K - k; omega

end Go.Proofs.YtebinlinhmohbaaDoor
