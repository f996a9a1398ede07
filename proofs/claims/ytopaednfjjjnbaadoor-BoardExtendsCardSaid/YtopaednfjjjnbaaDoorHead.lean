/-
  Heads of boards; two texts compared.
-/
import Derived.Test.YtopaednfjjjnbaaDoorEnt
import Derived.ChangeKeysEq
namespace Go.Proofs.YtopaednfjjjnbaaDoor
open Go Go.RowKit

theorem bytes_dec (l m : List UInt8) : ((⟨l.toArray⟩ : ByteArray).toList == (⟨m.toArray⟩ : ByteArray).toList) = decide (l = m) := by
  rw [ByteArray.toList_eq, ByteArray.toList_eq]
  by_cases h : l = m
  · subst h; simp
  · simp [h]
structure Hd where
  n : Int
  root : Dig
  r : UInt64
  s : UInt64
def Hd.cl (h : Hd) : List Value := .int .i64 h.n :: (h.root.1.map u8 ++ [u64 h.r, u64 h.s])
theorem Hd.cl_length (h : Hd) : h.cl.length = 35 := by
  show (h.root.1.map u8 ++ [u64 h.r, u64 h.s]).length + 1 = 35
  rw [List.length_append, List.length_map, h.root.2]
  rfl
theorem Hd.size (h : Hd) : h.cl.toArray.size = 35 := by rw [List.size_toArray, h.cl_length]
theorem Hd.one (h : Hd) : ∀ u ∈ h.cl.toArray.toList, u.oneCell' = true := by
  intro u hu
  rcases List.mem_cons.1 hu with rfl | hu
  · rfl
  · rcases List.mem_append.1 hu with hu | hu
    · exact u8s_one _ u hu
    · simp only [List.mem_cons, List.not_mem_nil, or_false] at hu
      rcases hu with rfl | rfl <;> rfl
theorem Hd.get0 (h : Hd) : h.cl.toArray[0 + 0]? = some (.int .i64 h.n) := by
  rw [List.getElem?_toArray]; rfl
theorem Hd.get33 (h : Hd) : h.cl.toArray[0 + 33 + 0]? = some (u64 h.r) := by
  rw [List.getElem?_toArray]
  show (h.root.1.map u8 ++ [u64 h.r, u64 h.s])[32]? = _
  rw [List.getElem?_append_right (by rw [List.length_map, h.root.2]; exact Nat.le_refl _), List.length_map, h.root.2]
  rfl
theorem Hd.get34 (h : Hd) : h.cl.toArray[0 + 33 + 1]? = some (u64 h.s) := by
  rw [List.getElem?_toArray]
  show (h.root.1.map u8 ++ [u64 h.r, u64 h.s])[33]? = _
  rw [List.getElem?_append_right (by rw [List.length_map, h.root.2]; decide), List.length_map, h.root.2]
  rfl
theorem Hd.rds {c : Cx} {H : Blocks} {b : Nat} {t : TypeId} {h : Hd} (hm : (b, Obj.cells h.cl.toArray t (0, 0)) ∈ H) : Rds c H ⟨b, 0 + 1, none⟩ (h.root.1.map u8) :=
  Rds.own hm fun j v hj => by
    rw [List.getElem?_toArray, show 0 + 1 + j = j + 1 by omega]
    show (h.root.1.map u8 ++ [u64 h.r, u64 h.s])[j]? = _
    rw [List.getElem?_append_left (List.getElem?_eq_some_iff.1 hj).1]
    exact hj
theorem setR_size (vs : List Value) : ∀ (cs : Array Value) (off : Nat), (setR cs off vs).size = cs.size := by
  induction vs with
  | nil => intro cs off; rfl
  | cons v vs ih => intro cs off; rw [setR, ih, Array.size_setIfInBounds]
theorem fill_step {pl : Nat → Option (Nat × Nat)} {cs : Array Value} {i off size : Nat} {v : Value} {rest : List (Nat × Value)} (hp : pl i = some (off, size)) (hv : v.cells.size = size) (hl : off + size ≤ cs.size) :
    Instr.fill pl cs ((i, v) :: rest) = Instr.fill pl (setR cs off v.cells.toList) rest := by
  have hfold : v.cells.zipIdx.foldl (fun cs (c, j) => cs.setIfInBounds (off + j) c) cs = setR cs off v.cells.toList := by
    have := setR_fold v.cells.toList cs off 0
    rw [Nat.add_zero] at this
    rw [← this, ← Array.foldl_toList, Array.toList_zipIdx]
  rw [Instr.fill, hp]
  simp only [hv]
  rw [if_neg (by simp; omega), hfold]
theorem fill_head (n : Int) (d : Dig) : Instr.fill ((#[(0, 1), (1, 32), (33, 2)] : Array (Nat × Nat))[·]?) (Hd.cl ⟨0, zeroD, 0, 0⟩).toArray [(0, .int .i64 n), (1, .agg (arr8 d.1))] = some (Hd.cl ⟨n, d, 0, 0⟩).toArray := by
  have hd : (Value.agg (arr8 d.1)).cells.toList = d.1.map u8 := by simp [Value.cells, arr8]
  have h0 : (Hd.cl ⟨0, zeroD, 0, 0⟩).toArray.size = 35 := Hd.size _
  rw [fill_step (off := 0) (size := 1) rfl rfl (by rw [h0]; decide), fill_step (v := .agg (arr8 d.1)) (off := 1) (size := 32) rfl (show (Value.agg (arr8 d.1)).cells.size = 32 from dig_size d) (by rw [setR_size, h0]; decide), Instr.fill, hd]
  congr 1
  apply Array.toList_inj.1
  have e1 : (setR (Hd.cl ⟨0, zeroD, 0, 0⟩).toArray 0 (Value.int .i64 n).cells.toList).toList = .int .i64 n :: (zeroD.1.map u8 ++ [u64 0, u64 0]) := by
    rw [setR_toList _ _ _ (by rw [h0]; exact (by decide : 0 + 1 ≤ 35))]; rfl
  rw [setR_toList _ _ _ (by rw [setR_size, h0, List.length_map, d.2]; decide), e1, List.length_map, d.2]
  show [Value.int .i64 n] ++ d.1.map u8 ++ (zeroD.1.map u8 ++ [u64 0, u64 0]).drop 32 = _
  rw [List.drop_left' (by rw [List.length_map, zeroD.2])]
  show .int .i64 n :: (d.1.map u8 ++ [u64 0, u64 0]) = _
  rfl
section
variable {c : Cx} {σ : Slots} {H : Blocks} {ty : TypeId} {pos : String} {af : Array Edge} {gd : Option (Nat × Bool)} {dst : Option Nat}
/-- A head written out, without a signature. -/
theorem Ev.buH {T : TypeId} {fs : Array Field} {x y : Operand} {n : Int} {d : Dig} (hx : ev σ x = some (.int .i64 n)) (hy : ev σ y = some (.agg (arr8 d.1))) (hu : c.P.underlying T = some (.struct fs))
    (hpl : ∀ w, (fs.mapM fun f => (do pure (f.offset, ← sizeOf f.type) : Sem (Nat × Nat))).run c.P w = .ok #[(0, 1), (1, 32), (33, 2)] w)
    (hz : ∀ w, (zeroValue T).run c.P w = .ok (.agg (Hd.cl ⟨0, zeroD, 0, 0⟩).toArray) w) : Ev c σ H ⟨dst, .build T #[(0, x), (1, y)], ty, pos, af, gd⟩ (.agg (Hd.cl ⟨n, d, 0, 0⟩).toArray) := by
  refine Ev.build (parts := [(0, x), (1, y)]) (vs := [(0, .int .i64 n), (1, .agg (arr8 d.1))]) ?_ ?_
  · intro A hf
    simp [hf.ev hx, hf.ev hy]
  · intro w
    have hg := fill_head n d
    simp only [Instr.build, Sem.run_bind, hz w, Result.andThen_ok, run_underlying hu, hpl w]
    show (match Instr.fill ((#[(0, 1), (1, 32), (33, 2)] : Array (Nat × Nat))[·]?) (Hd.cl ⟨0, zeroD, 0, 0⟩).toArray [(0, .int .i64 n), (1, .agg (arr8 d.1))] with | some cells => pure (.agg cells) | _ => stuck _ : Sem Value).run c.P w = _
    rw [hg]
    rfl
end
end Go.Proofs.YtopaednfjjjnbaaDoor
