/-
  Places of ballots: two numbers each; rows of places; places compared. The plain law of numbering.
-/
import Derived.Test.YtjjoenbighmfoaaDoorPackBUq
import Derived.ChangeKeysEq
namespace Go.Proofs.YtjjoenbighmfoaaDoor
open Go Go.RowKit

abbrev Pl := Int × Int
def plc (p : Pl) : List Value := [.int .i64 p.1, .int .i64 p.2]
def pf (ps : List Pl) : List Value := ps.flatMap plc
theorem pf_append (a b : List Pl) : pf (a ++ b) = pf a ++ pf b := by simp [pf]
theorem pf_length : ∀ ps : List Pl, (pf ps).length = ps.length * 2
  | [] => rfl
  | p :: ps => by
    show (plc p ++ pf ps).length = _
    rw [List.length_append, pf_length ps, List.length_cons]
    show 2 + _ = _
    omega
theorem plc_one (p : Pl) : ∀ u ∈ plc p, u.oneCell' = true := by
  intro u hu
  simp only [plc, List.mem_cons, List.not_mem_nil, or_false] at hu
  rcases hu with rfl | rfl <;> rfl
theorem pf_one (ps : List Pl) : ∀ u ∈ pf ps, u.oneCell' = true := by
  intro u hu
  obtain ⟨p, _, hp⟩ := List.mem_flatMap.1 hu
  exact plc_one p u hp
theorem pf_get : ∀ (ps : List Pl) (k : Nat) (x : Pl), ps[k]? = some x → ((pf ps).drop (k * 2)).take 2 = plc x
  | [], k, x, h => by simp at h
  | p :: ps, 0, x, h => by
    simp only [List.getElem?_cons_zero, Option.some.injEq] at h
    subst h
    rfl
  | p :: ps, k + 1, x, h => by
    rw [List.getElem?_cons_succ] at h
    have h1 := pf_get ps k x h
    rw [show (k + 1) * 2 = k * 2 + 1 + 1 by omega]
    exact h1
theorem pf_take : ∀ (ps : List Pl) (k : Nat), (pf ps).take (k * 2) = pf (ps.take k)
  | ps, 0 => by simp [pf]
  | [], k + 1 => by simp [pf]
  | p :: ps, k + 1 => by
    rw [show (k + 1) * 2 = k * 2 + 1 + 1 by omega]
    show .int .i64 p.1 :: .int .i64 p.2 :: (pf ps).take (k * 2) = _
    rw [pf_take ps k]
    rfl
theorem pf_drop : ∀ (ps : List Pl) (k : Nat), (pf ps).drop (k * 2) = pf (ps.drop k)
  | ps, 0 => by simp
  | [], k + 1 => by simp [pf]
  | p :: ps, k + 1 => by
    rw [show (k + 1) * 2 = k * 2 + 1 + 1 by omega]
    show (pf ps).drop (k * 2) = _
    rw [pf_drop ps k]
    rfl
/-- A slice of places. -/
abbrev Pz (w : World) (oa : Option Addr) (cap : Nat) (ps : List Pl) : Prop := Cs w oa ps.length cap (pf ps)
theorem Mem.plAt {w : World} {a : Addr} {ps : List Pl} (h : Mem w a (pf ps)) {k : Nat} {x : Pl} (hk : ps[k]? = some x) : Mem w (a.add (k * 2)) (plc x) := by
  have := h.cut (k * 2) 2
  rwa [pf_get ps k x hk] at this
theorem Mem.plF {w : World} {a : Addr} {ps : List Pl} (h : Mem w a (pf ps)) {k : Nat} {x : Pl} (hk : ps[k]? = some x) (j : Nat) {v : Value} (hv : (plc x)[j]? = some v) : w.cell? ((a.add (k * 2)).add j) = some v := (h.plAt hk) j v hv
theorem Pz.take {w : World} {oa : Option Addr} {cap : Nat} {ps : List Pl} (h : Pz w oa cap ps) {k : Nat} (hk : k ≤ ps.length) : Pz w oa cap (ps.take k) := by
  have hl : (ps.take k).length = k := by rw [List.length_take]; omega
  refine ⟨by rw [hl]; exact Nat.le_trans hk h.le, h.top, h.empty, fun a ha => ?_⟩
  have h1 := (h.mem a ha).cut 0 (k * 2)
  rwa [List.drop_zero, show a.add 0 = a from by simp [Addr.add], pf_take] at h1
theorem Pz.drop {w : World} {oa : Option Addr} {cap : Nat} {ps : List Pl} (h : Pz w oa cap ps) {l : Nat} (hl : l ≤ ps.length) :
    ∃ ob, sub3 oa l ps.length cap 2 = .slice ob (ps.drop l).length (cap - l) ∧ ∀ w', Pz w' oa cap ps → Pz w' ob (cap - l) (ps.drop l) := by
  have htop := h.top
  have hle := h.le
  refine ⟨if cap = l then oa else oa.map (·.add (l * 2)), by rw [List.length_drop]; rfl, fun w' h' => ⟨by rw [List.length_drop]; omega, by omega, fun h0 => ?_, fun b hb => ?_⟩⟩
  · split at h0
    · have := h.empty h0
      omega
    · have : oa = none := by cases oa <;> simp_all
      have := h.empty this
      omega
  · split at hb
    · have : ps.drop l = [] := List.eq_nil_of_length_eq_zero (by rw [List.length_drop]; omega)
      rw [this]
      intro j v hj
      simp [pf] at hj
    · cases oa with
      | none => simp at hb
      | some a =>
        obtain rfl := Option.some.inj hb
        have h1 := (h'.mem a rfl).cut (l * 2) (pf ps).length
        rw [pf_drop, List.take_of_length_le (by rw [pf_length, pf_length, List.length_drop]; omega)] at h1
        exact h1
section
variable {c : Cx} {σ : Slots} {H : Blocks} {ty : TypeId} {pos : String} {af : Array Edge} {gd : Option (Nat × Bool)} {dst : Option Nat}
theorem En.bs1Pl {T e : TypeId} {x : Operand} {p : Pl} {z : Value} (hx : ev σ x = some (.agg (plc p).toArray)) (hT : c.P.underlying T = some (.slice e)) (hs : ∀ w, (sizeOf e).run c.P w = .ok 2 w)
    (hz : ∀ w, (zeroValue e).run c.P w = .ok z w) :
    En c σ H ⟨dst, .buildSlice T 1 #[(0, x)], ty, pos, af, gd⟩ (fun g => .slice (some ⟨g, 0, none⟩) 1 1) (.cells (pf [p]).toArray e (0, 0)) := by
  have h := En.bsA (c := c) (σ := σ) (H := H) (dst := dst) (ty := ty) (pos := pos) (af := af) (gd := gd) (parts := [(0, x)]) (vs := [.agg (plc p).toArray]) (n := 1) (s := 2) (by simp [evs, hx]) rfl hT hs hz (fun v hv => by
    obtain rfl := List.mem_singleton.1 hv
    rfl) (by decide) (by decide) (by decide)
  exact h
theorem Rd.pl {b : Nat} {t : TypeId} {p : Pl} {j : Nat} {v : Value} (hm : (b, Obj.cells (plc p).toArray t (0, 0)) ∈ H) (hv : (plc p)[j]? = some v) : Rd c H ⟨b, 0 + j, none⟩ v :=
  Rd.own hm (by rw [Nat.zero_add, List.getElem?_toArray]; exact hv)
end
section
variable {P : Program} {T e1 e2 : TypeId} {n1 n2 p1 p2 g1 g2 : String} {m1 m2 : Bool} {b1 b2 : Nat}
theorem run_eq_pl (hT : P.underlying T = some (.struct #[⟨n1, e1, 0, m1, g1, p1, b1⟩, ⟨n2, e2, 1, m2, g2, p2, b2⟩]))
    (h1 : P.underlying e1 = some (.int .i64)) (h2 : P.underlying e2 = some (.int .i64)) (hp : P.stoodInHeld T = false) (hn1 : n1 ≠ "_") (hn2 : n2 ≠ "_") (p q : Pl) (w : World) :
    (Op.equalIn 10000 T (.agg (plc p).toArray) (.agg (plc q).toArray)).run P w = .ok (decide (p = q)) w := by
  have hf : P.fieldsOf T = #[⟨n1, e1, 0, m1, g1, p1, b1⟩, ⟨n2, e2, 1, m2, g2, p2, b2⟩] := by simp [Program.fieldsOf, hT]
  rw [run_equalIn_struct w 9999 T _ _ (by rw [hf]; exact hT) hp, hf]
  obtain ⟨a, b⟩ := p
  obtain ⟨a', b'⟩ := q
  simp [Op.eqFields, plc, part, run_isAgg h1, run_isAgg h2, aggB, hn1, hn2, run_equalIn_int w _ _ _ _ _ _ h1, run_equalIn_int w _ _ _ _ _ _ h2]
  by_cases hx : a = a'
  · by_cases hy : b = b'
    · simp [hx, hy]
    · simp [hx, hy]
  · simp [hx]
theorem eql_pl (hT : P.underlying T = some (.struct #[⟨n1, e1, 0, m1, g1, p1, b1⟩, ⟨n2, e2, 1, m2, g2, p2, b2⟩]))
    (h1 : P.underlying e1 = some (.int .i64)) (h2 : P.underlying e2 = some (.int .i64)) (hg : P.eqGuardType P.depth T = false) (hp : P.stoodInHeld T = false) (hn1 : n1 ≠ "_") (hn2 : n2 ≠ "_") (p q : Pl) :
    Bin P .eql T (.agg (plc p).toArray) (.agg (plc q).toArray) (.bool (decide (p = q))) := fun x y w => by
  have hgu := run_eqGuard_agg (P := P) w .eql T x y (plc p).toArray (plc q).toArray hg
  simp only [Sem.run_bind, hgu, Result.andThen_ok]
  rw [run_eql_struct, run_eq_pl hT h1 h2 hp hn1 hn2]
  rfl
theorem neq_pl (hT : P.underlying T = some (.struct #[⟨n1, e1, 0, m1, g1, p1, b1⟩, ⟨n2, e2, 1, m2, g2, p2, b2⟩]))
    (h1 : P.underlying e1 = some (.int .i64)) (h2 : P.underlying e2 = some (.int .i64)) (hg : P.eqGuardType P.depth T = false) (hp : P.stoodInHeld T = false) (hn1 : n1 ≠ "_") (hn2 : n2 ≠ "_") (p q : Pl) :
    Bin P .neq T (.agg (plc p).toArray) (.agg (plc q).toArray) (.bool (!decide (p = q))) := fun x y w => by
  have hgu := run_eqGuard_agg (P := P) w .neq T x y (plc p).toArray (plc q).toArray hg
  simp only [Sem.run_bind, hgu, Result.andThen_ok]
  rw [run_neq_struct, run_eq_pl hT h1 h2 hp hn1 hn2]
  rfl
end
end Go.Proofs.YtjjoenbighmfoaaDoor
