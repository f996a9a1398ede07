/-
  A few more laws: new slices of zeros, texts and truth values compared, a slice of bytes taken as it is; words from four bytes.
-/
import Derived.Test.YtebinlinhmohbaaDoorEql
import Derived.Laws.MakeOwn
namespace Go.Proofs.YtebinlinhmohbaaDoor
open Go Go.RowKit

section
variable {P : Program} {T : TypeId}
theorem neq_string {s t : ByteArray} : Bin P .neq T (.string s) (.string t) (.bool (!(s.toList == t.toList))) := fun x y w => by
  have : (eqGuard .neq T x y (.string s) (.string t)).run P w = .ok () w := by unfold eqGuard; simp
  simp only [Sem.run_bind, this, Result.andThen_ok]
  simp [binOp, Op.stringOp]
theorem eql_bool {a b : Bool} (hT : P.underlying T = some .bool) : Bin P .eql T (.bool a) (.bool b) (.bool (a == b)) := fun x y w => by
  have : (eqGuard .eql T x y (.bool a) (.bool b)).run P w = .ok () w := by unfold eqGuard; simp
  simp only [Sem.run_bind, this, Result.andThen_ok]
  exact run_eql_bool w T a b hT
end
theorem bytes_nbeq (l : List UInt8) : (!((⟨l.toArray⟩ : ByteArray).toList == (⟨l.toArray⟩ : ByteArray).toList)) = false := by simp

section
variable {c : Cx} {σ : Slots} {H : Blocks} {ty : TypeId} {pos : String} {af : Array Edge} {gd : Option (Nat × Bool)} {dst : Option Nat}
theorem madeCells_one {z : Value} (hz : z.cells = #[z]) (n : Nat) : madeCells z.cells n = (List.replicate n z).toArray := by
  rw [hz]
  apply Array.ext
  · simp [madeCells]
  · intro i h1 h2
    simp [madeCells, Nat.mod_one]
/-- 'make([]byte, n)'. -/
theorem En.make8 {T e : TypeId} {x y : Operand} {k : IntKind} {n : Nat} (hx : ev σ x = some (.int k (n : Int))) (hy : ev σ y = some (.int k (n : Int))) (hT : c.P.underlying T = some (.slice e))
    (hi : (c.P.info? e).map (fun i => (i.zero, i.size, i.bytes)) = some (some (.int .u8 0), 1, 1)) (hn : n ≤ 1000000) :
    En c σ H ⟨dst, .makeSlice T x y, ty, pos, af, gd⟩ (fun b => .slice (some ⟨b, 0, none⟩) n n) (.cells (arr8 (List.replicate n 0)) e (0, 0)) := fun A w hf _ => by
  obtain ⟨i, hi', hz, hsize, hby⟩ := info_parts hi
  have e0 : execOp A.eval ⟨dst, .makeSlice T x y, ty, pos, af, gd⟩ = (do pure (Next.value (← Instr.makeSlice T (A.eval x) (A.eval y)))) := rfl
  rw [e0, hf.ev hx, hf.ev hy]
  have h := run_makeSlice (P := c.P) w T e i (.int .u8 0) hT hi' hz k k (n : Int) (n : Int) (by omega) (by omega) (by rw [hsize]; omega) (by rw [hby]; omega) (by omega)
  have hc : madeCells (Value.int .u8 0).cells ((n : Int).toNat * i.size) = arr8 (List.replicate n 0) := by
    rw [hsize, madeCells_one rfl]
    simp [arr8, u8]
  rw [hc] at h
  simp [h]
theorem freeze_put {w : World} {b k : Nat} {cs : Array Value} {t : TypeId} (hb : w.heap[b]? = some (.cells cs t (0, 0))) :
    w.freeze ⟨b, k, none⟩ 1 = { w with heap := w.heap.setIfInBounds b (.cells cs t (k, k + 1)) } := by
  unfold World.freeze
  rw [if_neg (by decide)]
  have : ∀ (f : Obj → Obj), w.heap.modify b f = w.heap.setIfInBounds b (f (.cells cs t (0, 0))) := by
    intro f
    obtain ⟨hlt, hb'⟩ := Array.getElem?_eq_some_iff.1 hb
    apply Array.ext_getElem?
    intro i
    rw [Array.getElem?_modify, Array.getElem?_setIfInBounds]
    by_cases h : b = i
    · subst h; simp [hlt, hb']
    · simp [h]
  show ({ w with heap := w.heap.modify b _ } : World) = _
  rw [this]
  rfl
/-- The conversion of a literal slice of bytes to its own type: the block is marked. -/
theorem Eg.convS {s e tb : TypeId} {x : Operand} {b len cap : Nat} {cs : Array Value} {H' : Blocks} (hx : ev σ x = some (.slice (some ⟨b, 0, none⟩) len cap)) (hs : c.P.underlying s = some (.slice e)) (he : c.P.underlying e = some (.int .u8))
    (hu : Upd b (.cells cs tb (0, 0)) (.cells cs tb (cs.size, cs.size + 1)) H H') :
    Eg c σ H ⟨dst, .convert s s x, ty, pos, af, gd⟩ (fun v H'' => v = .slice (some ⟨b, 0, none⟩) len cap ∧ H'' = H') := fun A w hf hw => by
  have hb := hw.get hu.mem
  refine ⟨_, _, w.freeze ⟨b, cs.size, none⟩ 1, ?_, ?_, rfl, rfl⟩
  · have hsh : (shape b).run c.P w = .ok (some (tb, cs.size)) w := by
      have : w.shape? b = some (tb, cs.size) := by
        unfold World.shape?
        simp [hb]
      simp [shape, Sem.run, this]
    simp [execOp, hf.ev hx, convert, run_underlying hs, run_underlying he, markStringish, hsh]
  · rw [freeze_put hb]
    exact hw.upd hu rfl
end

theorem JA.re {c : Cx} {ops : Array Oper} {σ : Slots} {H : Blocks} {fuel : Nat} {listed : Array Bool} {Q : Post1} {d : Nat} {v v' : Value} (h : look σ d = some v) (hv : v = v') (h1 : JA c ops ((d, v') :: σ) H fuel listed Q) : JA c ops σ H fuel listed Q := by
  subst hv; exact fun a w hf hw => h1 a w (hf.over h) hw
theorem Ev.cast {c : Cx} {σ : Slots} {H : Blocks} {o : Oper} {v v' : Value} (e : v = v') (h : Ev c σ H o v) : Ev c σ H o v' := e ▸ h
theorem arr8_getD {l : List UInt8} {k : Nat} (h : k < l.length) : (arr8 l)[k]? = some (u8 (l.getD k 0)) := arr8_get (by simp [List.getD_eq_getElem?_getD, h])
theorem bs_nil {w : World} : Bs w none 0 [] := { le := Nat.le_refl _, top := by decide, empty := fun _ => rfl, mem := fun a ha => by cases ha }
theorem bs_of_block {w0 w : World} {H : Blocks} {b : Nat} {t : TypeId} {l : List UInt8} (hw : Hp w0 H w) {fr : Nat × Nat} (hm : (b, Obj.cells (arr8 l) t fr) ∈ H) (hl : l.length ≤ 1000000) : Bs w (some ⟨b, 0, none⟩) l.length l := by
  refine ⟨Nat.le_refl _, Nat.le_trans hl (by decide), fun h => (by cases h), fun a ha => ?_⟩
  cases ha
  exact Mem.own hw hm fun j v hj => by simpa [arr8] using hj
theorem sub3_zero {g h m : Nat} : sub3 (some ⟨g, 0, none⟩) 0 h m 1 = .slice (some ⟨g, 0, none⟩) h m := by
  simp [sub3, add_lit]
theorem word_four (x : UInt32) : (x >>> UInt32.ofNat 24).toUInt8.toUInt32 <<< UInt32.ofNat 24 ||| (x >>> UInt32.ofNat 16).toUInt8.toUInt32 <<< UInt32.ofNat 16 ||| (x >>> UInt32.ofNat 8).toUInt8.toUInt32 <<< UInt32.ofNat 8 ||| x.toUInt8.toUInt32 = x := by
  apply UInt32.toBitVec_inj.1
  simp only [UInt32.toBitVec_or, UInt32.toBitVec_shiftLeft, UInt32.toBitVec_shiftRight, UInt8.toBitVec_toUInt32, UInt32.toBitVec_toUInt8]
  generalize x.toBitVec = b
  apply BitVec.eq_of_getLsbD_eq
  intro i hi
  rcases (by omega : i < 8 ∨ (8 ≤ i ∧ i < 16) ∨ (16 ≤ i ∧ i < 24) ∨ (24 ≤ i)) with h | h | h | h
  · have e1 : i < 24 := by omega
    have e2 : i < 16 := by omega
    simp [h, e1, e2, hi]
  · have e1 : i < 24 := by omega
    have e2 : i < 16 := by omega
    have e3 : ¬ i < 8 := by omega
    have e4 : i - 8 < 8 := by omega
    have e5 : 8 + (i - 8) = i := by omega
    simp [e1, e2, e3, e4, e5, hi]
  · have e1 : i < 24 := by omega
    have e2 : ¬ i < 16 := by omega
    have e3 : ¬ i < 8 := by omega
    have e4 : ¬ i - 8 < 8 := by omega
    have e5 : 16 + (i - 16) = i := by omega
    have e6 : i - 16 < 8 := by omega
    simp [e1, e2, e3, e4, e5, e6, hi]
  · have e1 : ¬ i < 24 := by omega
    have e2 : ¬ i < 16 := by omega
    have e3 : ¬ i < 8 := by omega
    have e4 : ¬ i - 8 < 8 := by omega
    have e5 : 24 + (i - 24) = i := by omega
    have e6 : ¬ i - 16 < 8 := by omega
    have e7 : i - 24 < 8 := by omega
    simp [e1, e2, e3, e4, e5, e6, e7, hi]
theorem beWord_out (s : St) {i : Nat} (hi : i < 8) : beWord (outBytes s) (4 * i) = s.l.getD i 0 := by
  rcases (by omega : i = 0 ∨ i = 1 ∨ i = 2 ∨ i = 3 ∨ i = 4 ∨ i = 5 ∨ i = 6 ∨ i = 7) with h | h | h | h | h | h | h | h <;> subst h <;> exact word_four _
theorem Bs.cut {w : World} {a : Addr} {cap : Nat} {l : List UInt8} (h : Bs w (some a) cap l) (o n : Nat) (hon : o + n ≤ l.length) : Bs w (some (a.add o)) (cap - o) ((l.drop o).take n) := by
  refine ⟨?_, Nat.le_trans (Nat.sub_le _ _) h.top, fun h => (by cases h), fun b hb => ?_⟩
  · have := h.le
    simp
    omega
  · cases hb
    exact (h.mem a rfl).cut o n
theorem Bs.get_some {w : World} {oa : Option Addr} {cap : Nat} {l : List UInt8} (h : Bs w oa cap l) (hl : 0 < l.length) : ∃ a, oa = some a := by
  cases oa with
  | some a => exact ⟨a, rfl⟩
  | none =>
    have h1 := h.empty rfl
    have h2 := h.le
    omega
end Go.Proofs.YtebinlinhmohbaaDoor
