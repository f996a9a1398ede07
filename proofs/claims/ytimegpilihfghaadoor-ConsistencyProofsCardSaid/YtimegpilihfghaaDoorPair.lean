/-
  Rows of pairs of digests; an array written out; a made row of digests.
-/
import Derived.Test.YtimegpilihfghaaDoorTree
import Derived.Test.YtimegpilihfghaaDoorDig
namespace Go.Proofs.YtimegpilihfghaaDoor
open Go Go.RowKit

def fpl (ps : List (Dig × Dig)) : List Dig := ps.flatMap fun p => [p.1, p.2]
def fp (ps : List (Dig × Dig)) : List Value := fl (fpl ps)
theorem fp_append (a b : List (Dig × Dig)) : fp (a ++ b) = fp a ++ fp b := by simp [fp, fpl, fl_append]
theorem fpl_length : ∀ ps : List (Dig × Dig), (fpl ps).length = 2 * ps.length
  | [] => rfl
  | p :: ps => by
    show (p.1 :: p.2 :: fpl ps).length = _
    rw [List.length_cons, List.length_cons, fpl_length ps, List.length_cons]
    omega
theorem fp_length (ps : List (Dig × Dig)) : (fp ps).length = ps.length * 64 := by rw [fp, fl_length, fpl_length]; omega
theorem fp_one (ps : List (Dig × Dig)) : ∀ u ∈ fp ps, u.oneCell' = true := fl_one _
theorem fpl_get : ∀ (ps : List (Dig × Dig)) (k : Nat) (x : Dig × Dig), ps[k]? = some x → (fpl ps)[2 * k]? = some x.1 ∧ (fpl ps)[2 * k + 1]? = some x.2
  | [], k, x, h => by simp at h
  | p :: ps, 0, x, h => by
    simp only [List.getElem?_cons_zero, Option.some.injEq] at h
    subst h
    exact ⟨rfl, rfl⟩
  | p :: ps, k + 1, x, h => by
    rw [List.getElem?_cons_succ] at h
    obtain ⟨h1, h2⟩ := fpl_get ps k x h
    exact ⟨h1, h2⟩
theorem Mem.pairL {w : World} {a : Addr} {ps : List (Dig × Dig)} (h : Mem w a (fp ps)) {k : Nat} {x : Dig × Dig} (hk : ps[k]? = some x) : Mem w ((a.add (k * 64)).add (0 * 32)) (x.1.1.map u8) := by
  have h1 := Mem.atD h (fpl_get ps k x hk).1
  rwa [add_add', show k * 64 + 0 * 32 = 2 * k * 32 by omega]
theorem Mem.pairR {w : World} {a : Addr} {ps : List (Dig × Dig)} (h : Mem w a (fp ps)) {k : Nat} {x : Dig × Dig} (hk : ps[k]? = some x) : Mem w ((a.add (k * 64)).add (1 * 32)) (x.2.1.map u8) := by
  have h1 := Mem.atD h (fpl_get ps k x hk).2
  rwa [add_add', show k * 64 + 1 * 32 = (2 * k + 1) * 32 by omega]
theorem madeCells_u8 {m : Nat} (hm : 0 < m) (n : Nat) : madeCells (arr8 (List.replicate m 0)) n = arr8 (List.replicate n 0) := by
  apply Array.ext
  · simp [madeCells, arr8]
  · intro i h1 h2
    have h3 : i % m < m := Nat.mod_lt _ hm
    simp [madeCells, arr8, h3]
theorem fl_zero : ∀ n : Nat, fl (List.replicate n zeroD) = (List.replicate (n * 32) (0 : UInt8)).map u8
  | 0 => rfl
  | n + 1 => by
    rw [List.replicate_succ, fl_cons, fl_zero n, show (n + 1) * 32 = 32 + n * 32 by omega, ← List.replicate_append_replicate, List.map_append]
    rfl
theorem evs_len {σ : Slots} : ∀ (xs : List Operand) (us : List Value), evs σ xs = some us → us.length = xs.length
  | [], us, h => by simp only [evs, Option.some.injEq] at h; subst h; rfl
  | x :: xs, us, h => by
    simp only [evs] at h
    split at h
    · rename_i v ws h3 h4
      simp only [Option.some.injEq] at h
      subst h
      simp [evs_len xs ws h4]
    · cases h
section
variable {c : Cx} {σ : Slots} {H : Blocks} {ty : TypeId} {pos : String} {af : Array Edge} {gd : Option (Nat × Bool)} {dst : Option Nat}
/-- An array of several-cell parts written out. -/
theorem Ev.buA {T e : TypeId} {n s : Nat} {parts : List (Nat × Operand)} {vs : List Value} {z : Value} (hx : evs σ (parts.map (·.2)) = some vs) (hp : parts.map (·.1) = List.range n) (hu : c.P.underlying T = some (.array n e)) (hs : ∀ w, (sizeOf e).run c.P w = .ok s w)
    (hz : ∀ w, (zeroValue T).run c.P w = .ok z w) (hzs : n * s = z.cells.size) (hv : ∀ v ∈ vs, v.cells.size = s) (hs0 : 0 < s) : Ev c σ H ⟨dst, .build T parts.toArray, ty, pos, af, gd⟩ (.agg (vs.flatMap (·.cells.toList)).toArray) := by
  refine Ev.build (vs := (List.range n).zip vs) ?_ ?_
  · intro a hf
    rw [parts_zip, hf.evs hx, hp]
  · intro w
    have hl : vs.length = n := by
      have h1 := congrArg List.length hp
      rw [List.length_map, List.length_range] at h1
      rw [evs_len _ _ hx, List.length_map, h1]
    have hf := fill_all hs0 (cs := z.cells) hv hl hzs
    simp [Instr.build, hz w, run_underlying hu, hs w, hf]
theorem Ev.buP {T e : TypeId} {x y : Operand} {a b : Dig} {z : Value} (hx : ev σ x = some (.agg (arr8 a.1))) (hy : ev σ y = some (.agg (arr8 b.1))) (hu : c.P.underlying T = some (.array 2 e)) (hs : ∀ w, (sizeOf e).run c.P w = .ok 32 w)
    (hz : ∀ w, (zeroValue T).run c.P w = .ok z w) (hzs : 2 * 32 = z.cells.size) : Ev c σ H ⟨dst, .build T #[(0, x), (1, y)], ty, pos, af, gd⟩ (.agg (fp [(a, b)]).toArray) :=
  Ev.buA (parts := [(0, x), (1, y)]) (vs := [.agg (arr8 a.1), .agg (arr8 b.1)]) (by simp [evs, hx, hy]) rfl hu hs hz hzs (fun v hv => by
    simp only [List.mem_cons, List.not_mem_nil, or_false] at hv
    rcases hv with rfl | rfl <;> exact dig_size _) (by decide)
theorem fp_size (a b : Dig) : (Value.agg (fp [(a, b)]).toArray).cells.size = 64 := by
  show (fp [(a, b)]).toArray.size = 64
  rw [List.size_toArray, fp_length]
  rfl
theorem En.bs1P {T e : TypeId} {x : Operand} {a b : Dig} {z : Value} (hx : ev σ x = some (.agg (fp [(a, b)]).toArray)) (hT : c.P.underlying T = some (.slice e)) (hs : ∀ w, (sizeOf e).run c.P w = .ok 64 w)
    (hz : ∀ w, (zeroValue e).run c.P w = .ok z w) :
    En c σ H ⟨dst, .buildSlice T 1 #[(0, x)], ty, pos, af, gd⟩ (fun g => .slice (some ⟨g, 0, none⟩) 1 1) (.cells (fp [(a, b)]).toArray e (0, 0)) := by
  have h := En.bsA (c := c) (σ := σ) (H := H) (dst := dst) (ty := ty) (pos := pos) (af := af) (gd := gd) (parts := [(0, x)]) (vs := [.agg (fp [(a, b)]).toArray]) (n := 1) (s := 64) (by simp [evs, hx]) rfl hT hs hz (fun v hv => by
    obtain rfl := List.mem_singleton.1 hv
    exact fp_size a b) (by decide) (by decide) (by decide)
  have e1 : [Value.agg (fp [(a, b)]).toArray].flatMap (·.cells.toList) = fp [(a, b)] := by simp [Value.cells]
  rw [e1] at h
  exact h
/-- 'make([][32]byte, n)'. -/
theorem En.makeD {T e : TypeId} {x y : Operand} {k : IntKind} {n : Nat} (hx : ev σ x = some (.int k (n : Int))) (hy : ev σ y = some (.int k (n : Int))) (hT : c.P.underlying T = some (.slice e))
    (hi : (c.P.info? e).map (fun i => (i.zero, i.size, i.bytes)) = some (some (.agg (arr8 (List.replicate 32 0))), 32, 32)) (hn : n ≤ 100000) :
    En c σ H ⟨dst, .makeSlice T x y, ty, pos, af, gd⟩ (fun b => .slice (some ⟨b, 0, none⟩) n n) (.cells (fl (List.replicate n zeroD)).toArray e (0, 0)) := fun A w hf _ => by
  obtain ⟨i, hi', hz', hsize, hby⟩ := info_parts hi
  have e0 : execOp A.eval ⟨dst, .makeSlice T x y, ty, pos, af, gd⟩ = (do pure (Next.value (← Instr.makeSlice T (A.eval x) (A.eval y)))) := rfl
  rw [e0, hf.ev hx, hf.ev hy]
  have h := run_makeSlice (P := c.P) w T e i (.agg (arr8 (List.replicate 32 0))) hT hi' hz' k k (n : Int) (n : Int) (by omega) (by omega) (by rw [hsize]; omega) (by rw [hby]; omega) (by omega)
  have hc : madeCells (Value.agg (arr8 (List.replicate 32 0))).cells ((n : Int).toNat * i.size) = (fl (List.replicate n zeroD)).toArray := by
    rw [hsize, fl_zero]
    exact madeCells_u8 (by decide) _
  rw [hc] at h
  simp [h]
end
end Go.Proofs.YtimegpilihfghaaDoor
