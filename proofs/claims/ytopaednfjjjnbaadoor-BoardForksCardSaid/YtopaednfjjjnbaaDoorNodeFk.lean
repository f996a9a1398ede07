/-
  Nodes of trees: two digests and the digest of the two; rows of nodes; nodes compared.
-/
import Derived.Test.YtopaednfjjjnbaaDoorPackBFk
import Derived.Test.YtopaednfjjjnbaaDoorForkFk
namespace Go.Proofs.YtopaednfjjjnbaaDoor
open Go Go.RowKit

def nd (p : Dig × Dig) : List Dig := [p.1, p.2, nodeD p.1 p.2]
def npl (ps : List (Dig × Dig)) : List Dig := ps.flatMap nd
def nfl (ps : List (Dig × Dig)) : List Value := fl (npl ps)
theorem nfl_append (a b : List (Dig × Dig)) : nfl (a ++ b) = nfl a ++ nfl b := by simp [nfl, npl, fl_append]
theorem npl_length : ∀ ps : List (Dig × Dig), (npl ps).length = 3 * ps.length
  | [] => rfl
  | p :: ps => by
    show (nd p ++ npl ps).length = _
    rw [List.length_append, npl_length ps, List.length_cons]
    show 3 + _ = _
    omega
theorem nfl_length (ps : List (Dig × Dig)) : (nfl ps).length = ps.length * 96 := by rw [nfl, fl_length, npl_length]; omega
theorem nfl_one (ps : List (Dig × Dig)) : ∀ u ∈ nfl ps, u.oneCell' = true := fl_one _
theorem nfl_size (p : Dig × Dig) : (nfl [p]).toArray.size = 96 := by rw [List.size_toArray, nfl_length]; rfl
theorem npl_get : ∀ (ps : List (Dig × Dig)) (k : Nat) (x : Dig × Dig), ps[k]? = some x → (npl ps)[3 * k + 2]? = some (nodeD x.1 x.2)
  | [], k, x, h => by simp at h
  | p :: ps, 0, x, h => by
    simp only [List.getElem?_cons_zero, Option.some.injEq] at h
    subst h
    rfl
  | p :: ps, k + 1, x, h => by
    rw [List.getElem?_cons_succ] at h
    exact npl_get ps k x h
/-- A node of a row. -/
theorem Mem.node {w : World} {a : Addr} {ps : List (Dig × Dig)} (h : Mem w a (nfl ps)) {k : Nat} {x : Dig × Dig} (hk : ps[k]? = some x) : Mem w (a.add (k * 96)) (nfl [x]) := by
  have h1 := h.cut (k * 96) 96
  have h2 : ((nfl ps).drop (k * 96)).take 96 = nfl [x] := by
    obtain ⟨hlt, rfl⟩ := List.getElem?_eq_some_iff.1 hk
    have e1 : ps = ps.take k ++ (ps[k] :: ps.drop (k + 1)) := by rw [← List.drop_eq_getElem_cons hlt, List.take_append_drop]
    have e2 : nfl ps = nfl (ps.take k) ++ (nfl [ps[k]] ++ nfl (ps.drop (k + 1))) := by
      conv => lhs; rw [e1]
      rw [nfl_append]
      congr 1
      exact nfl_append [ps[k]] _
    have hl : (nfl (ps.take k)).length = k * 96 := by rw [nfl_length, List.length_take, Nat.min_eq_left (by omega)]
    rw [e2, List.drop_left' hl, List.take_left' (by rw [nfl_length]; rfl)]
  rwa [h2] at h1
theorem Mem.ntop {w : World} {a : Addr} {ps : List (Dig × Dig)} (h : Mem w a (nfl ps)) {k : Nat} {x : Dig × Dig} (hk : ps[k]? = some x) : Mem w ((a.add (k * 96)).add 64) ((nodeD x.1 x.2).1.map u8) := by
  have h1 := Mem.atD h (npl_get ps k x hk)
  rwa [add_add', show k * 96 + 64 = (3 * k + 2) * 32 by omega]
section
variable {c : Cx} {σ : Slots} {H : Blocks} {ty : TypeId} {pos : String} {af : Array Edge} {gd : Option (Nat × Bool)} {dst : Option Nat}
/-- The top of a node in a block. -/
theorem Rds.ntop {b : Nat} {t : TypeId} {p : Dig × Dig} (hm : (b, Obj.cells (nfl [p]).toArray t (0, 0)) ∈ H) : Rds c H ⟨b, 0 + 64, none⟩ ((nodeD p.1 p.2).1.map u8) :=
  Rds.own hm fun j v hj => by
    rw [List.getElem?_toArray]
    show (p.1.1.map u8 ++ (p.2.1.map u8 ++ ((nodeD p.1 p.2).1.map u8 ++ [])))[0 + 64 + j]? = some v
    have h1 : (p.1.1.map u8).length = 32 := by rw [List.length_map, p.1.2]
    have h2 : (p.2.1.map u8).length = 32 := by rw [List.length_map, p.2.2]
    rw [List.getElem?_append_right (by omega), List.getElem?_append_right (by omega), h1, h2, List.append_nil, show 0 + 64 + j - 32 - 32 = j by omega]
    exact hj
theorem fill_node (a b d : Dig) : Instr.fill ((#[(0, 32), (32, 32), (64, 32)] : Array (Nat × Nat))[·]?) (fl [zeroD, zeroD, zeroD]).toArray [(0, .agg (arr8 a.1)), (1, .agg (arr8 b.1)), (2, .agg (arr8 d.1))] = some (fl [a, b, d]).toArray := by
  have hc : ∀ d : Dig, (Value.agg (arr8 d.1)).cells.toList = d.1.map u8 := fun d => by simp [Value.cells, arr8]
  have hs : ∀ d : Dig, (Value.agg (arr8 d.1)).cells.size = 32 := dig_size
  have hl : ∀ d : Dig, (d.1.map u8).length = 32 := fun d => by rw [List.length_map, d.2]
  have h0 : (fl [zeroD, zeroD, zeroD]).toArray.size = 96 := by rw [List.size_toArray, fl_length]; rfl
  rw [fill_step (off := 0) (size := 32) rfl (hs a) (by rw [h0]; decide), fill_step (off := 32) (size := 32) rfl (hs b) (by rw [setR_size, h0]; decide), fill_step (off := 64) (size := 32) rfl (hs d) (by rw [setR_size, setR_size, h0]; decide), Instr.fill, hc, hc, hc]
  congr 1
  apply Array.toList_inj.1
  have z : (fl [zeroD, zeroD, zeroD]).toArray.toList = zeroD.1.map u8 ++ (zeroD.1.map u8 ++ (zeroD.1.map u8 ++ [])) := rfl
  have e1 : (setR (fl [zeroD, zeroD, zeroD]).toArray 0 (a.1.map u8)).toList = a.1.map u8 ++ (zeroD.1.map u8 ++ (zeroD.1.map u8 ++ [])) := by
    rw [setR_toList _ _ _ (by rw [h0, hl]; decide), z, hl, List.take_zero, List.nil_append, show 0 + 32 = 32 from rfl, List.drop_left' (hl zeroD)]
  have e2 : (setR (setR (fl [zeroD, zeroD, zeroD]).toArray 0 (a.1.map u8)) 32 (b.1.map u8)).toList = a.1.map u8 ++ (b.1.map u8 ++ (zeroD.1.map u8 ++ [])) := by
    rw [setR_toList _ _ _ (by rw [setR_size, h0, hl]; decide), e1, hl, List.take_left' (hl a), ← List.append_assoc (a.1.map u8) (zeroD.1.map u8), List.drop_left' (by rw [List.length_append, hl, hl]), List.append_assoc]
  rw [setR_toList _ _ _ (by rw [setR_size, setR_size, h0, hl]; decide), e2, hl, ← List.append_assoc (a.1.map u8) (b.1.map u8), List.take_left' (by rw [List.length_append, hl, hl]), ← List.append_assoc (a.1.map u8 ++ b.1.map u8) (zeroD.1.map u8), List.drop_left' (by rw [List.length_append, List.length_append, hl, hl, hl])]
  show a.1.map u8 ++ b.1.map u8 ++ d.1.map u8 ++ [] = a.1.map u8 ++ (b.1.map u8 ++ (d.1.map u8 ++ []))
  simp only [List.append_assoc, List.append_nil]
/-- A node written out. -/
theorem Ev.buNode {T : TypeId} {fs : Array Field} {x y z : Operand} {a b : Dig} (hx : ev σ x = some (.agg (arr8 a.1))) (hy : ev σ y = some (.agg (arr8 b.1))) (hz' : ev σ z = some (.agg (arr8 (nodeD a b).1))) (hu : c.P.underlying T = some (.struct fs))
    (hpl : ∀ w, (fs.mapM fun f => (do pure (f.offset, ← sizeOf f.type) : Sem (Nat × Nat))).run c.P w = .ok #[(0, 32), (32, 32), (64, 32)] w)
    (hz : ∀ w, (zeroValue T).run c.P w = .ok (.agg (fl [zeroD, zeroD, zeroD]).toArray) w) : Ev c σ H ⟨dst, .build T #[(0, x), (1, y), (2, z)], ty, pos, af, gd⟩ (.agg (nfl [(a, b)]).toArray) := by
  refine Ev.build (parts := [(0, x), (1, y), (2, z)]) (vs := [(0, .agg (arr8 a.1)), (1, .agg (arr8 b.1)), (2, .agg (arr8 (nodeD a b).1))]) ?_ ?_
  · intro A hf
    simp [hf.ev hx, hf.ev hy, hf.ev hz']
  · intro w
    have hg := fill_node a b (nodeD a b)
    simp only [Instr.build, Sem.run_bind, hz w, Result.andThen_ok, run_underlying hu, hpl w]
    show (match Instr.fill ((#[(0, 32), (32, 32), (64, 32)] : Array (Nat × Nat))[·]?) (fl [zeroD, zeroD, zeroD]).toArray [(0, .agg (arr8 a.1)), (1, .agg (arr8 b.1)), (2, .agg (arr8 (nodeD a b).1))] with | some cells => pure (.agg cells) | _ => stuck _ : Sem Value).run c.P w = _
    rw [hg]
    rfl
theorem En.bs1N {T e : TypeId} {x : Operand} {p : Dig × Dig} {z : Value} (hx : ev σ x = some (.agg (nfl [p]).toArray)) (hT : c.P.underlying T = some (.slice e)) (hs : ∀ w, (sizeOf e).run c.P w = .ok 96 w)
    (hz : ∀ w, (zeroValue e).run c.P w = .ok z w) :
    En c σ H ⟨dst, .buildSlice T 1 #[(0, x)], ty, pos, af, gd⟩ (fun g => .slice (some ⟨g, 0, none⟩) 1 1) (.cells (nfl [p]).toArray e (0, 0)) := by
  have h := En.bsA (c := c) (σ := σ) (H := H) (dst := dst) (ty := ty) (pos := pos) (af := af) (gd := gd) (parts := [(0, x)]) (vs := [.agg (nfl [p]).toArray]) (n := 1) (s := 96) (by simp [evs, hx]) rfl hT hs hz (fun v hv => by
    obtain rfl := List.mem_singleton.1 hv
    exact nfl_size p) (by decide) (by decide) (by decide)
  have e1 : [Value.agg (nfl [p]).toArray].flatMap (·.cells.toList) = nfl [p] := by simp [Value.cells]
  rw [e1] at h
  exact h
theorem En.bs2N {T e : TypeId} {x y : Operand} {p q : Dig × Dig} {z : Value} (hx : ev σ x = some (.agg (nfl [p]).toArray)) (hy : ev σ y = some (.agg (nfl [q]).toArray)) (hT : c.P.underlying T = some (.slice e)) (hs : ∀ w, (sizeOf e).run c.P w = .ok 96 w)
    (hz : ∀ w, (zeroValue e).run c.P w = .ok z w) :
    En c σ H ⟨dst, .buildSlice T 2 #[(0, x), (1, y)], ty, pos, af, gd⟩ (fun g => .slice (some ⟨g, 0, none⟩) 2 2) (.cells (nfl [p, q]).toArray e (0, 0)) := by
  have h := En.bsA (c := c) (σ := σ) (H := H) (dst := dst) (ty := ty) (pos := pos) (af := af) (gd := gd) (parts := [(0, x), (1, y)]) (vs := [.agg (nfl [p]).toArray, .agg (nfl [q]).toArray]) (n := 2) (s := 96) (by simp [evs, hx, hy]) rfl hT hs hz (fun v hv => by
    simp only [List.mem_cons, List.not_mem_nil, or_false] at hv
    rcases hv with rfl | rfl <;> exact nfl_size _) (by decide) (by decide) (by decide)
  have e1 : [Value.agg (nfl [p]).toArray, Value.agg (nfl [q]).toArray].flatMap (·.cells.toList) = nfl [p, q] := by
    rw [show nfl [p, q] = nfl [p] ++ nfl [q] from nfl_append [p] [q]]
    simp [Value.cells]
  rw [e1] at h
  exact h
end
section
variable {P : Program}
theorem run_eq8 (w : World) (d : Nat) {T e : TypeId} {n : Nat} (hT : P.underlying T = some (.array n e)) (he : P.underlying e = some (.int .u8)) (hc : P.cellsOf e = 1) {l m : List UInt8} (hl : l.length = n) (hm : m.length = n) :
    (Op.equalIn (d + 2) T (.agg (arr8 l)) (.agg (arr8 m))).run P w = .ok (decide (l = m)) w := by
  obtain ⟨j, hj⟩ := info_of_underlying he
  obtain ⟨r, hr, hiff⟩ := run_eqItems_ints w d he (l.map u8).toArray (m.map u8).toArray (List.range n) fun i hi => by
    have hi := List.mem_range.1 hi
    obtain ⟨z, hz⟩ : ∃ z, u8 (l[i]'(by omega)) = .int .u8 z := ⟨_, rfl⟩
    obtain ⟨z', hz'⟩ : ∃ z, u8 (m[i]'(by omega)) = .int .u8 z := ⟨_, rfl⟩
    exact ⟨z, z', by simp [hl, hi, hz], by simp [hm, hi, hz']⟩
  have hrl : r = decide (l = m) := by
    have : r = true ↔ l = m := by
      rw [hiff]
      constructor
      · intro h
        refine List.ext_getElem (hl.trans hm.symm) fun i h1 h2 => ?_
        have := h i (List.mem_range.2 (hl ▸ h1))
        simp [h1, h2] at this
        exact u8_inj _ _ this
      · rintro rfl i _
        rfl
    cases r <;> simp_all
  subst hrl
  rw [run_equalIn_array w (d + 1) _ _ hT hj, hc]
  exact hr
/-- '!=' of nodes. -/
theorem neq_node {T e b : TypeId} {f0 f1 f2 : Field} (hT : P.underlying T = some (.struct #[f0, f1, f2])) (t0 : f0.type = e ∧ f0.offset = 0 ∧ f0.name ≠ "_") (t1 : f1.type = e ∧ f1.offset = 32 ∧ f1.name ≠ "_") (t2 : f2.type = e ∧ f2.offset = 64 ∧ f2.name ≠ "_")
    (he : P.underlying e = some (.array 32 b)) (hb : P.underlying b = some (.int .u8)) (hcb : P.cellsOf b = 1) (hse : ∀ w, (sizeOf e).run P w = .ok 32 w) (hg : P.eqGuardType P.depth T = false) (hp : P.stoodInHeld T = false) (A B : Dig × Dig) :
    Bin P .neq T (.agg (nfl [A]).toArray) (.agg (nfl [B]).toArray) (.bool (!decide (A = B))) := fun x y w => by
  have hgu := run_eqGuard_agg (P := P) w .neq T x y (nfl [A]).toArray (nfl [B]).toArray hg
  simp only [Sem.run_bind, hgu, Result.andThen_ok]
  have hf : P.fieldsOf T = #[f0, f1, f2] := by simp [Program.fieldsOf, hT]
  have p0 : ∀ (w : World) (A : Dig × Dig), (part e (nfl [A]).toArray 0).run P w = .ok (.agg (arr8 A.1.1)) w := fun w A => by
    simp [part, run_isAgg he, aggB, hse]
    exact congrArg List.toArray (fl_get (ds := npl [A]) (k := 0) rfl)
  have p1 : ∀ (w : World) (A : Dig × Dig), (part e (nfl [A]).toArray 32).run P w = .ok (.agg (arr8 A.2.1)) w := fun w A => by
    simp [part, run_isAgg he, aggB, hse]
    exact congrArg List.toArray (fl_get (ds := npl [A]) (k := 1) rfl)
  have p2 : ∀ (w : World) (A : Dig × Dig), (part e (nfl [A]).toArray 64).run P w = .ok (.agg (arr8 (nodeD A.1 A.2).1)) w := fun w A => by
    simp [part, run_isAgg he, aggB, hse]
    exact congrArg List.toArray (fl_get (ds := npl [A]) (k := 2) rfl)
  have q : ∀ (w : World) (a b : Dig), (Op.equalIn 9999 e (.agg (arr8 a.1)) (.agg (arr8 b.1))).run P w = .ok (decide (a.1 = b.1)) w := fun w a b => run_eq8 (P := P) w 9997 he hb hcb a.2 b.2
  rw [run_neq_struct, run_equalIn_struct w 9999 T _ _ (by rw [hf]; exact hT) hp, hf]
  simp only [Op.eqFields, t0.1, t0.2.1, t1.1, t1.2.1, t2.1, t2.2.1, t0.2.2, t1.2.2, t2.2.2, p0, p1, p2, q, Sem.run_bind, Result.andThen_ok, ne_eq, not_false_eq_true, if_true]
  by_cases h1 : A.1.1 = B.1.1
  · by_cases h2 : A.2.1 = B.2.1
    · have hAB : A = B := Prod.ext (Subtype.ext h1) (Subtype.ext h2)
      subst hAB
      simp [Op.eqFields, p1, p2, q]
    · have hAB : ¬ A = B := fun h => h2 (by rw [h])
      simp [Op.eqFields, h1, h2, hAB, p1, p2, q]
  · have hAB : ¬ A = B := fun h => h1 (by rw [h])
    simp [h1, hAB]
end
end Go.Proofs.YtopaednfjjjnbaaDoor
