/-
  Equality of pairs of digests, as the program's `==` and `!=` compute it.
-/
import Derived.Test.YtimegpilihfghaaDoorTurn
namespace Go.Proofs.YtimegpilihfghaaDoor
open Go Go.RowKit

section
variable {P : Program}
theorem run_equalIn_arr8 (w : World) (d : Nat) {T e : TypeId} {n : Nat} (hT : P.underlying T = some (.array n e)) (he : P.underlying e = some (.int .u8)) (hc : P.cellsOf e = 1) {l m : List UInt8} (hl : l.length = n) (hm : m.length = n) :
    (Op.equalIn (d + 2) T (.agg (arr8 l)) (.agg (arr8 m))).run P w = .ok (decide (l = m)) w := by
  obtain ⟨j, hj⟩ := info_of_underlying he
  obtain ⟨r, hr, hiff⟩ := run_eqItems_ints w d he (l.map u8).toArray (m.map u8).toArray (List.range n) fun i hi => by
    have hi := List.mem_range.1 hi
    obtain ⟨z, hz⟩ : ∃ z, u8 (l[i]'(by omega)) = .int .u8 z := ⟨_, rfl⟩
    obtain ⟨z', hz'⟩ : ∃ z, u8 (m[i]'(by omega)) = .int .u8 z := ⟨_, rfl⟩
    exact ⟨z, z', by simp [hl, hi, hz], by simp [hm, hi, hz']⟩
  have hrl : r = decide (l = m) := by
    have : r = true ↔ l = m := by
      rw [hiff]
      constructor
      · intro h
        refine List.ext_getElem (hl.trans hm.symm) fun i h1 h2 => ?_
        have := h i (List.mem_range.2 (hl ▸ h1))
        simp [h1, h2] at this
        exact u8_inj _ _ this
      · rintro rfl i _
        rfl
    cases r <;> simp_all
  subst hrl
  rw [run_equalIn_array w (d + 1) _ _ hT hj, hc]
  exact hr
theorem run_equalIn_pair (w : World) {T e b : TypeId} (hT : P.underlying T = some (.array 2 e)) (he : P.underlying e = some (.array 32 b)) (hb : P.underlying b = some (.int .u8)) (hc : P.cellsOf e = 32) (hcb : P.cellsOf b = 1) (hse : ∀ w, (sizeOf e).run P w = .ok 32 w) (A B : Dig × Dig) :
    (Op.equalIn 10000 T (.agg (fp [A]).toArray) (.agg (fp [B]).toArray)).run P w = .ok (decide (A = B)) w := by
  obtain ⟨j, hj⟩ := info_of_underlying he
  have p1 : ∀ (w : World) (A : Dig × Dig), (part e (fp [A]).toArray (0 * 32)).run P w = .ok (.agg (arr8 A.1.1)) w := fun w A => by
    simp [part, run_isAgg he, aggB, hse]
    exact congrArg List.toArray (fl_get (ds := fpl [A]) (k := 0) rfl)
  have p2 : ∀ (w : World) (A : Dig × Dig), (part e (fp [A]).toArray (1 * 32)).run P w = .ok (.agg (arr8 A.2.1)) w := fun w A => by
    simp [part, run_isAgg he, aggB, hse]
    exact congrArg List.toArray (fl_get (ds := fpl [A]) (k := 1) rfl)
  have q1 : ∀ w : World, (Op.equalIn 9999 e (.agg (arr8 A.1.1)) (.agg (arr8 B.1.1))).run P w = .ok (decide (A.1.1 = B.1.1)) w := fun w => run_equalIn_arr8 (P := P) w 9997 he hb hcb A.1.2 B.1.2
  have q2 : ∀ w : World, (Op.equalIn 9999 e (.agg (arr8 A.2.1)) (.agg (arr8 B.2.1))).run P w = .ok (decide (A.2.1 = B.2.1)) w := fun w => run_equalIn_arr8 (P := P) w 9997 he hb hcb A.2.2 B.2.2
  rw [show (10000 : Nat) = 9999 + 1 from rfl, run_equalIn_array w 9999 _ _ hT hj, hc]
  show (Op.eqItems 9999 e 32 _ _ [0, 1]).run P w = _
  simp only [Op.eqItems, Sem.run_bind, p1, p2, q1, q2, Result.andThen_ok]
  by_cases h1 : A.1.1 = B.1.1
  · by_cases h2 : A.2.1 = B.2.1
    · have hAB : A = B := Prod.ext (Subtype.ext h1) (Subtype.ext h2)
      subst hAB
      simp [p2, q2]
    · have hAB : ¬ A = B := fun h => h2 (by rw [h])
      simp only [h1, h2, hAB, decide_true, decide_false, Result.andThen_ok, p2, q2, Sem.run_bind]
      simp [p2, q2, h2]
  · have hAB : ¬ A = B := fun h => h1 (by rw [h])
    simp [h1, hAB]
theorem neq_pair {T e b : TypeId} (hT : P.underlying T = some (.array 2 e)) (he : P.underlying e = some (.array 32 b)) (hb : P.underlying b = some (.int .u8)) (hc : P.cellsOf e = 32) (hcb : P.cellsOf b = 1) (hse : ∀ w, (sizeOf e).run P w = .ok 32 w) (hg : P.eqGuardType P.depth T = false) (A B : Dig × Dig) :
    Bin P .neq T (.agg (fp [A]).toArray) (.agg (fp [B]).toArray) (.bool (!decide (A = B))) := fun x y w => by
  have h1 := run_eqGuard_agg (P := P) w .neq T x y (fp [A]).toArray (fp [B]).toArray hg
  simp only [Sem.run_bind, h1, Result.andThen_ok]
  rw [run_neq_struct, run_equalIn_pair w hT he hb hc hcb hse A B]
  rfl
end
theorem Mem.pairA {w : World} {a : Addr} {ps : List (Dig × Dig)} (h : Mem w a (fp ps)) {k : Nat} {x : Dig × Dig} (hk : ps[k]? = some x) : Mem w (a.add (k * 64)) (fp [x]) := by
  have h1 := h.cut (k * 64) 64
  have h2 : ((fp ps).drop (k * 64)).take 64 = fp [x] := by
    obtain ⟨hlt, rfl⟩ := List.getElem?_eq_some_iff.1 hk
    have e1 : ps = ps.take k ++ (ps[k] :: ps.drop (k + 1)) := by rw [← List.drop_eq_getElem_cons hlt, List.take_append_drop]
    have e2 : fp ps = fp (ps.take k) ++ (fp [ps[k]] ++ fp (ps.drop (k + 1))) := by
      conv => lhs; rw [e1]
      rw [fp_append]
      congr 1
      exact fp_append [ps[k]] _
    have hl : (fp (ps.take k)).length = k * 64 := by rw [fp_length, List.length_take, Nat.min_eq_left (by omega)]
    rw [e2, List.drop_left' hl, List.take_left' (by rw [fp_length]; rfl)]
  rwa [h2] at h1
def clashP (A B : Dig × Dig) : Bool := (!decide (A = B)) && decide ((nodeD A.1 A.2).1 = (nodeD B.1 B.2).1)
theorem clashP_no {A B : Dig × Dig} (hc : clashP A B = false) (h : nodeD A.1 A.2 = nodeD B.1 B.2) : A = B := by
  unfold clashP at hc
  rw [h, decide_eq_true rfl, Bool.and_true] at hc
  simpa using hc
end Go.Proofs.YtimegpilihfghaaDoor
