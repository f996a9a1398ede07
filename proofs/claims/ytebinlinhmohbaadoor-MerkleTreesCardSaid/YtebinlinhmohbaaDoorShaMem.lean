/-
  The schedule and the state as arrays in memory.
-/
import Derived.Test.YtebinlinhmohbaaDoorOps
import Derived.Test.YtebinlinhmohbaaDoorSha
namespace Go.Proofs.YtebinlinhmohbaaDoor
open Go Go.RowKit

def fillW (b : List UInt8) (k : Nat) : List UInt32 := sched b k ++ List.replicate (64 - k) 0
theorem fillW_length (b : List UInt8) {k : Nat} (hk : k ≤ 64) : (fillW b k).length = 64 := by
  simp [fillW, sched_length]; omega
theorem fillW_get (b : List UInt8) {k j : Nat} (hj : j < k) : (arr32 (fillW b k))[j]? = some (u32 ((sched b k).getD j 0)) := by
  apply arr32_get
  unfold fillW
  rw [List.getElem?_append_left (by rw [sched_length]; exact hj)]
  rw [List.getD_eq_getElem?_getD]
  rw [List.getElem?_eq_getElem (by rw [sched_length]; exact hj)]
  rfl
theorem fillW_set (b : List UInt8) {k : Nat} (hk : k < 64) {x : UInt32} (hx : x = if k < 16 then beWord b (4 * k) else nextW (sched b k) k) :
    (arr32 (fillW b k)).setIfInBounds k (u32 x) = arr32 (fillW b (k + 1)) := by
  rw [arr32_set]
  congr 1
  unfold fillW
  have h1 : 64 - k = (64 - (k + 1)) + 1 := by omega
  rw [h1, List.replicate_succ, sched, ← hx, List.append_assoc]
  rw [List.set_append, if_neg (by rw [sched_length]; omega), sched_length, Nat.sub_self]
  rfl
theorem fillW_all (b : List UInt8) : fillW b 64 = sched b 64 := by simp [fillW]
theorem getD_drop (l : List UInt8) (o j : Nat) : (l.drop o).getD j 0 = l.getD (o + j) 0 := by
  simp [List.getD_eq_getElem?_getD]
theorem beWord_drop (l : List UInt8) (o : Nat) : beWord (l.drop o) 0 = beWord l o := by
  unfold beWord
  simp only [getD_drop, Nat.add_zero, Nat.zero_add]

/-- The table of constants, in memory. -/
def KMem (g : Nat) (w : World) : Prop := Mem w ⟨g, 0, none⟩ (kTab.map u32)
def FMem (g : Nat) (w : World) : Prop := Mem w ⟨g, 0, none⟩ (st0.l.map u32)
theorem FMem.old {g : Nat} {w0 w : World} {H : Blocks} (hw : Hp w0 H w) (h : FMem g w0) : FMem g w := Mem.old hw h
theorem KMem.at {g : Nat} {w : World} (h : KMem g w) {k : Nat} (hk : k < 64) : w.cell? ⟨g, k, none⟩ = some (u32 (kTab.getD k 0)) := by
  have h1 := h k (u32 (kTab.getD k 0)) (by
    have : k < kTab.length := hk
    simp [this])
  rwa [add_lit, Nat.zero_add] at h1
theorem KMem.old {g : Nat} {w0 w : World} {H : Blocks} (hw : Hp w0 H w) (h : KMem g w0) : KMem g w := Mem.old hw h
theorem sched_at (b : List UInt8) {k : Nat} (hk : k < 64) : (arr32 (sched b 64))[k]? = some (u32 ((sched b 64).getD k 0)) := by
  apply arr32_get
  rw [List.getD_eq_getElem?_getD, List.getElem?_eq_getElem (by rw [sched_length]; exact hk)]
  rfl
theorem arr32_pre (l : List UInt32) (n : Nat) : ∀ j v, ((l.take n).map u32)[j]? = some v → (arr32 l)[0 + j]? = some v := by
  intro j v h
  rw [List.getElem?_map, List.getElem?_take] at h
  split at h
  · simp only [Nat.zero_add, arr32, List.getElem?_toArray, List.getElem?_map]; exact h
  · cases h
theorem kt_at {k : Nat} (hk : k < 64) : (arr32 kTab)[k]? = some (u32 (kTab.getD k 0)) := by
  apply arr32_get
  have : k < kTab.length := hk
  simp [this]

def addK (s v : St) (k : Nat) : List UInt32 := (List.zipWith (· + ·) s.l v.l).take k ++ s.l.drop k
theorem addK_length (s v : St) {k : Nat} (hk : k ≤ 8) : (addK s v k).length = 8 := by
  rcases (by omega : k = 0 ∨ k = 1 ∨ k = 2 ∨ k = 3 ∨ k = 4 ∨ k = 5 ∨ k = 6 ∨ k = 7 ∨ k = 8) with h | h | h | h | h | h | h | h | h <;> subst h <;> rfl
theorem addK_at (s v : St) {k : Nat} (hk : k < 8) : (arr32 (addK s v k))[k]? = some (u32 (s.l.getD k 0)) := by
  rcases (by omega : k = 0 ∨ k = 1 ∨ k = 2 ∨ k = 3 ∨ k = 4 ∨ k = 5 ∨ k = 6 ∨ k = 7) with h | h | h | h | h | h | h | h <;> subst h <;> rfl
theorem addK_set (s v : St) {k : Nat} (hk : k < 8) : (arr32 (addK s v k)).setIfInBounds k (u32 (s.l.getD k 0 + v.l.getD k 0)) = arr32 (addK s v (k + 1)) := by
  rcases (by omega : k = 0 ∨ k = 1 ∨ k = 2 ∨ k = 3 ∨ k = 4 ∨ k = 5 ∨ k = 6 ∨ k = 7) with h | h | h | h | h | h | h | h <;> subst h <;> rfl
theorem stl_at (s : St) {k : Nat} (hk : k < 8) : (arr32 s.l)[k]? = some (u32 (s.l.getD k 0)) := by
  rcases (by omega : k = 0 ∨ k = 1 ∨ k = 2 ∨ k = 3 ∨ k = 4 ∨ k = 5 ∨ k = 6 ∨ k = 7) with h | h | h | h | h | h | h | h <;> subst h <;> rfl
end Go.Proofs.YtebinlinhmohbaaDoor
