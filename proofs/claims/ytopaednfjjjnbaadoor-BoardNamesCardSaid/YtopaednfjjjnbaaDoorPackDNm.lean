/-
  Several small texts in one: Con, Pop, Bits, Down, Pair, Turn.
-/
import Derived.Test.YtopaednfjjjnbaaDoorPackBNm
namespace Go.Proofs.YtopaednfjjjnbaaDoor
open Go

/-- The proof of the first m leaves of a list. -/
def proofR (l : List Dig) (m : Nat) (fr : Bool) : List Dig :=
  if h : m = l.length ∨ l.length < 2 then (if fr then [] else [rootR l])
  else if m ≤ bel l.length then proofR (l.take (bel l.length)) m fr ++ [rootR (l.drop (bel l.length))]
  else proofR (l.drop (bel l.length)) (m - bel l.length) false ++ [rootR (l.take (bel l.length))]
  termination_by l.length
  decreasing_by
    · have := bel_lt (n := l.length) (by omega); rw [List.length_take]; omega
    · have := bel_pos l.length; rw [List.length_drop]; omega
theorem proofR_top {l : List Dig} {m : Nat} {fr : Bool} (h : m = l.length) : proofR l m fr = if fr then [] else [rootR l] := by
  rw [proofR, dif_pos (.inl h)]
theorem proofR_left {l : List Dig} {m : Nat} {fr : Bool} (h1 : 1 ≤ m) (h : m < l.length) (hk : m ≤ bel l.length) : proofR l m fr = proofR (l.take (bel l.length)) m fr ++ [rootR (l.drop (bel l.length))] := by
  rw [proofR, dif_neg (by omega), if_pos hk]
theorem proofR_right {l : List Dig} {m : Nat} {fr : Bool} (h1 : 1 ≤ m) (h : m < l.length) (hk : ¬ m ≤ bel l.length) : proofR l m fr = proofR (l.drop (bel l.length)) (m - bel l.length) false ++ [rootR (l.take (bel l.length))] := by
  rw [proofR, dif_neg (by omega), if_neg hk]

/-- Its length. -/
def stepsC (m n : Nat) (fr : Bool) : Nat :=
  if h : m = n ∨ n < 2 then (if fr then 0 else 1) else if m ≤ bel n then stepsC m (bel n) fr + 1 else stepsC (m - bel n) (n - bel n) false + 1
  termination_by n
  decreasing_by
    · exact bel_lt (by omega)
    · have := bel_pos n; omega
theorem stepsC_top {m n : Nat} {fr : Bool} (h : m = n) : stepsC m n fr = if fr then 0 else 1 := by rw [stepsC, dif_pos (.inl h)]
theorem stepsC_left {m n : Nat} {fr : Bool} (h1 : 1 ≤ m) (h : m < n) (hk : m ≤ bel n) : stepsC m n fr = stepsC m (bel n) fr + 1 := by rw [stepsC, dif_neg (by omega), if_pos hk]
theorem stepsC_right {m n : Nat} {fr : Bool} (h1 : 1 ≤ m) (h : m < n) (hk : ¬ m ≤ bel n) : stepsC m n fr = stepsC (m - bel n) (n - bel n) false + 1 := by rw [stepsC, dif_neg (by omega), if_neg hk]

/-- Following a proof: the old root and the new one. -/
def ledC (m n : Nat) (fr : Bool) (was : Dig) (p : List Dig) : Dig × Dig :=
  if h : m = n ∨ n < 2 then (if fr then (was, was) else (p.headD zeroD, p.headD zeroD))
  else if m ≤ bel n then ((ledC m (bel n) fr was p.dropLast).1, nodeD (ledC m (bel n) fr was p.dropLast).2 (p.getLastD zeroD))
  else (nodeD (p.getLastD zeroD) (ledC (m - bel n) (n - bel n) false was p.dropLast).1, nodeD (p.getLastD zeroD) (ledC (m - bel n) (n - bel n) false was p.dropLast).2)
  termination_by n
  decreasing_by
    all_goals first | exact bel_lt (by omega) | (have := bel_pos n; omega)
theorem ledC_top {m n : Nat} {fr : Bool} {was : Dig} {p : List Dig} (h : m = n) : ledC m n fr was p = if fr then (was, was) else (p.headD zeroD, p.headD zeroD) := by rw [ledC, dif_pos (.inl h)]
theorem ledC_left {m n : Nat} {fr : Bool} {was y : Dig} {p : List Dig} (h1 : 1 ≤ m) (h : m < n) (hk : m ≤ bel n) : ledC m n fr was (p ++ [y]) = ((ledC m (bel n) fr was p).1, nodeD (ledC m (bel n) fr was p).2 y) := by
  rw [ledC, dif_neg (by omega), if_pos hk]; simp
theorem ledC_right {m n : Nat} {fr : Bool} {was y : Dig} {p : List Dig} (h1 : 1 ≤ m) (h : m < n) (hk : ¬ m ≤ bel n) : ledC m n fr was (p ++ [y]) = (nodeD y (ledC (m - bel n) (n - bel n) false was p).1, nodeD y (ledC (m - bel n) (n - bel n) false was p).2) := by
  rw [ledC, dif_neg (by omega), if_neg hk]; simp

theorem stepsC_le : ∀ (f m n : Nat) (fr : Bool), n ≤ f → 1 ≤ m → m ≤ n → stepsC m n fr ≤ n
  | 0, m, n, fr, hf, h1, hm => by omega
  | f + 1, m, n, fr, hf, h1, hm => by
    by_cases he : m = n
    · rw [stepsC_top he]; split <;> omega
    · have hb := bel_lt (n := n) (by omega)
      have hp := bel_pos n
      by_cases hk : m ≤ bel n
      · rw [stepsC_left h1 (by omega) hk]
        have := stepsC_le f m (bel n) fr (by omega) h1 hk
        omega
      · rw [stepsC_right h1 (by omega) hk]
        have := stepsC_le f (m - bel n) (n - bel n) false (by omega) (by omega) (by omega)
        omega

/-! ### Peaks -/
def overR (l : List Dig) : List Dig :=
  if h : l.length = 0 then [] else rootR (l.take (bel (l.length + 1))) :: overR (l.drop (bel (l.length + 1)))
  termination_by l.length
  decreasing_by
    have := bel_pos (l.length + 1); rw [List.length_drop]; omega
def onesR (n : Nat) : Nat :=
  if h : n = 0 then 0 else n % 2 + onesR (n / 2)
  termination_by n
  decreasing_by omega
def withR (p : List Dig) (n : Nat) (x : Dig) : List Dig :=
  if h : n % 2 = 0 then p ++ [x] else withR p.dropLast (n / 2) (nodeD (p.getLastD zeroD) x)
  termination_by n
  decreasing_by omega
def prootR : List Dig → Dig
  | [] => sumD
  | [x] => x
  | x :: y :: r => nodeD x (prootR (y :: r))
end Go.Proofs.YtopaednfjjjnbaaDoor
namespace Go.Proofs.YtopaednfjjjnbaaDoor
open Go

def pop64 (x : UInt64) : UInt64 :=
  let x1 := ((x >>> 1) &&& 0x5555555555555555) + (x &&& 0x5555555555555555)
  let x2 := ((x1 >>> 2) &&& 0x3333333333333333) + (x1 &&& 0x3333333333333333)
  let x3 := ((x2 >>> 4) + x2) &&& 0x0f0f0f0f0f0f0f0f
  let x4 := x3 + (x3 >>> 8)
  let x5 := x4 + (x4 >>> 16)
  let x6 := x5 + (x5 >>> 32)
  x6 &&& 127
def onesF : Nat → Nat → Nat
  | 0, _ => 0
  | f + 1, n => if n = 0 then 0 else n % 2 + onesF f (n / 2)
end Go.Proofs.YtopaednfjjjnbaaDoor
namespace Go.Proofs.YtopaednfjjjnbaaDoor
open Go Go.RowKit

section
variable {P : Program} {T : TypeId}
theorem shl1_i64 {n : Nat} (hn : n < 62) : Bin P .shl T (.int .i64 1) (.int .i64 (n : Int)) (.int .i64 ((2 ^ n : Nat) : Int)) := Bin.int fun w => by
  have hlt : 2 ^ n < 2 ^ 62 := Nat.pow_lt_pow_right (by decide) hn
  have h : IntKind.i64.wrap ((1 : Int) * 2 ^ n) = ((2 ^ n : Nat) : Int) := by
    have e : ((2 : Int) ^ n) = ((2 ^ n : Nat) : Int) := by simp
    rw [e, Int.one_mul]
    have h62 : (2 : Nat) ^ 62 = 4611686018427387904 := by decide
    generalize 2 ^ n = p at hlt ⊢
    exact IntWalk.i64_in _ (by omega)
  have hm : min n 64 = n := by omega
  have hneg : ¬ ((n : Int) < 0) := by omega
  simp only [binOp, Op.shift, if_neg hneg, Int.toNat_natCast]
  show Sem.run P (pure _) w = _
  rw [show min n IntKind.i64.bits = n from hm]
  rw [h]; rfl
end
section
variable {c : Cx} {σ : Slots} {H : Blocks} {ty : TypeId} {pos : String} {af : Array Edge} {gd : Option (Nat × Bool)} {dst : Option Nat}
theorem Ev.indexStr {T : TypeId} {x y : Operand} {s : ByteArray} {i b : UInt8} (hx : ev σ x = some (.string s)) (hy : ev σ y = some (u8 i)) (hu : c.P.underlying T = some .string) (hb : s[i.toNat]? = some b) :
    Ev c σ H ⟨dst, .index T x y, ty, pos, af, gd⟩ (u8 b) := fun A w hf _ => by
  have e : execOp A.eval ⟨dst, .index T x y, ty, pos, af, gd⟩ = (do pure (Next.value (← Instr.index T (A.eval x) (A.eval y)))) := rfl
  rw [e, hf.ev hx, hf.ev hy]
  have h0 : (0 : Int) ≤ (i.toNat : Int) := Int.natCast_nonneg _
  simp [Instr.index, asIntOf, u8, run_underlying hu, h0, hb]
end
def len8 (n : Nat) : Nat := if n = 0 then 0 else Nat.log2 n + 1
theorem tab_get {s : ByteArray} (h : ∀ i : Fin 256, s[i.1]? = some (UInt8.ofNat (len8 i.1))) (i : UInt8) : s[i.toNat]? = some (UInt8.ofNat (len8 i.toNat)) := h ⟨i.toNat, i.toNat_lt⟩
theorem len8_shift {n : Nat} (h1 : 256 ≤ n) (h2 : n < 65536) : len8 n = 8 + len8 (n / 256) := by
  have h0 : n / 256 ≠ 0 := by omega
  unfold len8
  rw [if_neg (by omega), if_neg h0]
  have h3 := (Nat.log2_eq_iff h0).1 rfl
  have h4 : Nat.log2 n = Nat.log2 (n / 256) + 8 := (Nat.log2_eq_iff (by omega)).2 (by
    have e9 : 2 ^ (Nat.log2 (n / 256) + 8) = 2 ^ Nat.log2 (n / 256) * 256 := Nat.pow_add 2 _ 8
    have e10 : 2 ^ (Nat.log2 (n / 256) + 8 + 1) = 2 ^ (Nat.log2 (n / 256) + 8) * 2 := Nat.pow_succ ..
    have e11 : 2 ^ (Nat.log2 (n / 256) + 1) = 2 ^ Nat.log2 (n / 256) * 2 := Nat.pow_succ ..
    rw [e10, e9]
    rw [e11] at h3
    omega)
  omega
theorem len8_le {n : Nat} (h : n < 256) : len8 n < 9 := by
  unfold len8
  split
  · omega
  · have h3 := (Nat.log2_eq_iff (n := n) (by assumption)).1 rfl
    have : 2 ^ Nat.log2 n < 2 ^ 8 := by omega
    have := (Nat.pow_lt_pow_iff_right (a := 2) (by decide)).1 this
    omega
def pop6 (x : UInt64) : UInt64 :=
  let x1 := ((x >>> 1) &&& 0x5555555555555555) + (x &&& 0x5555555555555555)
  let x2 := ((x1 >>> 2) &&& 0x3333333333333333) + (x1 &&& 0x3333333333333333)
  let x3 := ((x2 >>> 4) + x2) &&& 0x0f0f0f0f0f0f0f0f
  let x4 := x3 + (x3 >>> 8)
  let x5 := x4 + (x4 >>> 16)
  x5 + (x5 >>> 32)
end Go.Proofs.YtopaednfjjjnbaaDoor
namespace Go.Proofs.YtopaednfjjjnbaaDoor
open Go

structure Tn where
  fm : Nat
  n : Nat
  k : Nat
  rt : Bool
/-- The turns from the whole list to the part that the prefix ends with. -/
def downW (m n fm : Nat) : List Tn :=
  if h : m = n ∨ n < 2 then [] else if m ≤ bel n then ⟨fm, n, bel n, false⟩ :: downW m (bel n) fm else ⟨fm, n, bel n, true⟩ :: downW (m - bel n) (n - bel n) (fm + bel n)
  termination_by n
  decreasing_by
    · exact bel_lt (by omega)
    · have := bel_pos n; omega
/-- Whether that part lies at the front. -/
def downF (m n : Nat) (fr : Bool) : Bool :=
  if h : m = n ∨ n < 2 then fr else if m ≤ bel n then downF m (bel n) fr else downF (m - bel n) (n - bel n) false
  termination_by n
  decreasing_by
    · exact bel_lt (by omega)
    · have := bel_pos n; omega
/-- Where that part begins. -/
def downA (m n fm : Nat) : Nat :=
  if h : m = n ∨ n < 2 then fm else if m ≤ bel n then downA m (bel n) fm else downA (m - bel n) (n - bel n) (fm + bel n)
  termination_by n
  decreasing_by
    · exact bel_lt (by omega)
    · have := bel_pos n; omega
theorem down_top {m n fm : Nat} {fr : Bool} (h : m = n) : downW m n fm = [] ∧ downF m n fr = fr ∧ downA m n fm = fm := by
  refine ⟨?_, ?_, ?_⟩
  · rw [downW, dif_pos (.inl h)]
  · rw [downF, dif_pos (.inl h)]
  · rw [downA, dif_pos (.inl h)]
theorem down_left {m n fm : Nat} {fr : Bool} (h1 : 1 ≤ m) (h : m < n) (hk : m ≤ bel n) : downW m n fm = ⟨fm, n, bel n, false⟩ :: downW m (bel n) fm ∧ downF m n fr = downF m (bel n) fr ∧ downA m n fm = downA m (bel n) fm := by
  refine ⟨?_, ?_, ?_⟩
  · rw [downW, dif_neg (by omega), if_pos hk]
  · rw [downF, dif_neg (by omega), if_pos hk]
  · rw [downA, dif_neg (by omega), if_pos hk]
theorem down_right {m n fm : Nat} {fr : Bool} (h1 : 1 ≤ m) (h : m < n) (hk : ¬ m ≤ bel n) : downW m n fm = ⟨fm, n, bel n, true⟩ :: downW (m - bel n) (n - bel n) (fm + bel n) ∧ downF m n fr = downF (m - bel n) (n - bel n) false ∧ downA m n fm = downA (m - bel n) (n - bel n) (fm + bel n) := by
  refine ⟨?_, ?_, ?_⟩
  · rw [downW, dif_neg (by omega), if_neg hk]
  · rw [downF, dif_neg (by omega), if_neg hk]
  · rw [downA, dif_neg (by omega), if_neg hk]
theorem down_steps : ∀ (f m n fm : Nat) (fr : Bool), n ≤ f → 1 ≤ m → m ≤ n → stepsC m n fr = (downW m n fm).length + (if downF m n fr then 0 else 1)
  | 0, m, n, fm, fr, hf, h1, hm => by omega
  | f + 1, m, n, fm, fr, hf, h1, hm => by
    by_cases he : m = n
    · rw [stepsC_top he, (down_top (fm := fm) (fr := fr) he).1, (down_top (fm := fm) (fr := fr) he).2.1, List.length_nil, Nat.zero_add]
    · have hb := bel_lt (n := n) (by omega)
      have hp := bel_pos n
      by_cases hk : m ≤ bel n
      · obtain ⟨e1, e2, _⟩ := down_left (fm := fm) (fr := fr) h1 (by omega) hk
        rw [stepsC_left h1 (by omega) hk, e1, e2, down_steps f m (bel n) fm fr (by omega) h1 hk, List.length_cons]
        omega
      · obtain ⟨e1, e2, _⟩ := down_right (fm := fm) (fr := fr) h1 (by omega) hk
        rw [stepsC_right h1 (by omega) hk, e1, e2, down_steps f (m - bel n) (n - bel n) (fm + bel n) false (by omega) (by omega) (by omega), List.length_cons]
        omega
theorem down_len {m n fm : Nat} (h1 : 1 ≤ m) (hm : m ≤ n) : (downW m n fm).length ≤ n := by
  have h2 := down_steps n m n fm true (Nat.le_refl _) h1 hm
  have h3 := stepsC_le n m n true (Nat.le_refl _) h1 hm
  omega
theorem downA_le : ∀ (f m n fm : Nat), n ≤ f → 1 ≤ m → m ≤ n → fm ≤ downA m n fm ∧ downA m n fm < fm + m
  | 0, m, n, fm, hf, h1, hm => by omega
  | f + 1, m, n, fm, hf, h1, hm => by
    by_cases he : m = n
    · rw [(down_top (fm := fm) (fr := true) he).2.2]; omega
    · have hb := bel_lt (n := n) (by omega)
      have hp := bel_pos n
      by_cases hk : m ≤ bel n
      · rw [(down_left (fm := fm) (fr := true) h1 (by omega) hk).2.2]
        exact downA_le f m (bel n) fm (by omega) h1 hk
      · rw [(down_right (fm := fm) (fr := true) h1 (by omega) hk).2.2]
        have := downA_le f (m - bel n) (n - bel n) (fm + bel n) (by omega) (by omega) (by omega)
        omega
/-- The other part of a turn. -/
def otherD (L : List Dig) (t : Tn) : List Dig := if t.rt then (L.drop t.fm).take t.k else (L.drop (t.fm + t.k)).take (t.n - t.k)
theorem down_proof : ∀ (f : Nat) (L : List Dig) (m n fm : Nat) (fr : Bool), n ≤ f → 1 ≤ m → m ≤ n → fm + n ≤ L.length →
    proofR ((L.drop fm).take n) m fr = (if downF m n fr then [] else [rootR ((L.drop (downA m n fm)).take (fm + m - downA m n fm))]) ++ (downW m n fm).reverse.map (fun t => rootR (otherD L t))
  | 0, L, m, n, fm, fr, hf, h1, hm, hl => by omega
  | f + 1, L, m, n, fm, fr, hf, h1, hm, hl => by
    have hS : ((L.drop fm).take n).length = n := by rw [List.length_take, List.length_drop]; omega
    by_cases he : m = n
    · obtain ⟨e1, e2, e3⟩ := down_top (fm := fm) (fr := fr) he
      rw [proofR_top (by omega), e1, e2, e3, List.reverse_nil, List.map_nil, List.append_nil, show fm + m - fm = n by omega]
    · have hb := bel_lt (n := n) (by omega)
      have hp := bel_pos n
      by_cases hk : m ≤ bel n
      · obtain ⟨e1, e2, e3⟩ := down_left (fm := fm) (fr := fr) h1 (by omega) hk
        have ih := down_proof f L m (bel n) fm fr (by omega) h1 hk (by omega)
        have h3 : ((L.drop fm).take n).take (bel n) = (L.drop fm).take (bel n) := by rw [List.take_take, Nat.min_eq_left (by omega)]
        have h4 : ((L.drop fm).take n).drop (bel n) = (L.drop (fm + bel n)).take (n - bel n) := by rw [List.drop_take, List.drop_drop]
        rw [proofR_left h1 (by omega) (by rw [hS]; exact hk), hS, h3, h4, ih, e1, e2, e3, List.reverse_cons, List.map_append, List.append_assoc]
        rfl
      · obtain ⟨e1, e2, e3⟩ := down_right (fm := fm) (fr := fr) h1 (by omega) hk
        have ih := down_proof f L (m - bel n) (n - bel n) (fm + bel n) false (by omega) (by omega) (by omega) (by omega)
        have h3 : ((L.drop fm).take n).take (bel n) = (L.drop fm).take (bel n) := by rw [List.take_take, Nat.min_eq_left (by omega)]
        have h4 : ((L.drop fm).take n).drop (bel n) = (L.drop (fm + bel n)).take (n - bel n) := by rw [List.drop_take, List.drop_drop]
        rw [proofR_right h1 (by omega) (by rw [hS]; exact hk), hS, h3, h4, ih, e1, e2, e3, List.reverse_cons, List.map_append, List.append_assoc, show fm + bel n + (m - bel n) = fm + m by omega]
        rfl
/-- One step of following. -/
def stepB (x : Dig × Dig) (z : Tn × Dig) : Dig × Dig := if z.1.rt then (nodeD z.2 x.1, nodeD z.2 x.2) else (x.1, nodeD x.2 z.2)
theorem down_led : ∀ (f m n fm : Nat) (fr : Bool) (was b : Dig) (ys : List Dig), n ≤ f → 1 ≤ m → m ≤ n → ys.length = (downW m n fm).length →
    ledC m n fr was ((if downF m n fr then [] else [b]) ++ ys) = ((downW m n fm).reverse.zip ys).foldl stepB (if downF m n fr then (was, was) else (b, b))
  | 0, m, n, fm, fr, was, b, ys, hf, h1, hm, hl => by omega
  | f + 1, m, n, fm, fr, was, b, ys, hf, h1, hm, hl => by
    by_cases he : m = n
    · obtain ⟨e1, e2, e3⟩ := down_top (fm := fm) (fr := fr) he
      rw [e1] at hl
      obtain rfl := List.eq_nil_of_length_eq_zero hl
      rw [ledC_top he, e1, e2]
      cases fr <;> rfl
    · have hb := bel_lt (n := n) (by omega)
      have hp := bel_pos n
      by_cases hk : m ≤ bel n
      · obtain ⟨e1, e2, e3⟩ := down_left (fm := fm) (fr := fr) h1 (by omega) hk
        rw [e1, List.length_cons] at hl
        obtain ⟨zs, y, rfl, hz⟩ := ends_ex hl
        have ih := down_led f m (bel n) fm fr was b zs (by omega) h1 hk hz
        rw [e1, e2, ← List.append_assoc, ledC_left h1 (by omega) hk, ih, List.reverse_cons, List.zip_append (by rw [List.length_reverse]; exact hz.symm), List.foldl_append]
        rfl
      · obtain ⟨e1, e2, e3⟩ := down_right (fm := fm) (fr := fr) h1 (by omega) hk
        rw [e1, List.length_cons] at hl
        obtain ⟨zs, y, rfl, hz⟩ := ends_ex hl
        have ih := down_led f (m - bel n) (n - bel n) (fm + bel n) false was b zs (by omega) (by omega) (by omega) hz
        rw [e1, e2, ← List.append_assoc, ledC_right h1 (by omega) hk, ih, List.reverse_cons, List.zip_append (by rw [List.length_reverse]; exact hz.symm), List.foldl_append]
        rfl
end Go.Proofs.YtopaednfjjjnbaaDoor
namespace Go.Proofs.YtopaednfjjjnbaaDoor
open Go Go.RowKit

def fpl (ps : List (Dig × Dig)) : List Dig := ps.flatMap fun p => [p.1, p.2]
def fp (ps : List (Dig × Dig)) : List Value := fl (fpl ps)
theorem fpl_length : ∀ ps : List (Dig × Dig), (fpl ps).length = 2 * ps.length
  | [] => rfl
  | p :: ps => by
    show (p.1 :: p.2 :: fpl ps).length = _
    rw [List.length_cons, List.length_cons, fpl_length ps, List.length_cons]
    omega
theorem fp_length (ps : List (Dig × Dig)) : (fp ps).length = ps.length * 64 := by rw [fp, fl_length, fpl_length]; omega
theorem fp_one (ps : List (Dig × Dig)) : ∀ u ∈ fp ps, u.oneCell' = true := fl_one _
theorem fpl_get : ∀ (ps : List (Dig × Dig)) (k : Nat) (x : Dig × Dig), ps[k]? = some x → (fpl ps)[2 * k]? = some x.1 ∧ (fpl ps)[2 * k + 1]? = some x.2
  | [], k, x, h => by simp at h
  | p :: ps, 0, x, h => by
    simp only [List.getElem?_cons_zero, Option.some.injEq] at h
    subst h
    exact ⟨rfl, rfl⟩
  | p :: ps, k + 1, x, h => by
    rw [List.getElem?_cons_succ] at h
    obtain ⟨h1, h2⟩ := fpl_get ps k x h
    exact ⟨h1, h2⟩
theorem Mem.pairL {w : World} {a : Addr} {ps : List (Dig × Dig)} (h : Mem w a (fp ps)) {k : Nat} {x : Dig × Dig} (hk : ps[k]? = some x) : Mem w ((a.add (k * 64)).add (0 * 32)) (x.1.1.map u8) := by
  have h1 := Mem.atD h (fpl_get ps k x hk).1
  rwa [add_add', show k * 64 + 0 * 32 = 2 * k * 32 by omega]
theorem Mem.pairR {w : World} {a : Addr} {ps : List (Dig × Dig)} (h : Mem w a (fp ps)) {k : Nat} {x : Dig × Dig} (hk : ps[k]? = some x) : Mem w ((a.add (k * 64)).add (1 * 32)) (x.2.1.map u8) := by
  have h1 := Mem.atD h (fpl_get ps k x hk).2
  rwa [add_add', show k * 64 + 1 * 32 = (2 * k + 1) * 32 by omega]
section
variable {c : Cx} {σ : Slots} {H : Blocks} {ty : TypeId} {pos : String} {af : Array Edge} {gd : Option (Nat × Bool)} {dst : Option Nat}
end
end Go.Proofs.YtopaednfjjjnbaaDoor
namespace Go.Proofs.YtopaednfjjjnbaaDoor
open Go Go.RowKit

def tcl (t : Tn) : List Value := [.int .i64 (t.fm : Int), .int .i64 (t.n : Int), .int .i64 (t.k : Int), .bool t.rt]
def ft (ts : List Tn) : List Value := ts.flatMap tcl
theorem ft_append (a b : List Tn) : ft (a ++ b) = ft a ++ ft b := by simp [ft]
theorem ft_one (ts : List Tn) : ∀ u ∈ ft ts, u.oneCell' = true := by
  intro u hu
  obtain ⟨t, _, ht⟩ := List.mem_flatMap.1 hu
  simp only [tcl, List.mem_cons, List.not_mem_nil, or_false] at ht
  rcases ht with rfl | rfl | rfl | rfl <;> rfl
theorem ft_get : ∀ (ts : List Tn) (k : Nat) (t : Tn), ts[k]? = some t → ((ft ts).drop (k * 4)).take 4 = tcl t
  | [], k, t, h => by simp at h
  | x :: ts, 0, t, h => by
    simp only [List.getElem?_cons_zero, Option.some.injEq] at h
    subst h
    rfl
  | x :: ts, k + 1, t, h => by
    rw [List.getElem?_cons_succ] at h
    have e : (k + 1) * 4 = 4 + k * 4 := by omega
    rw [e, ← List.drop_drop]
    exact ft_get ts k t h
theorem Mem.atT {w : World} {a : Addr} {ts : List Tn} (h : Mem w a (ft ts)) {k : Nat} {t : Tn} (hk : ts[k]? = some t) : Mem w (a.add (k * 4)) (tcl t) := by
  have := h.cut (k * 4) 4
  rwa [ft_get ts k t hk] at this
theorem Row.rdT {c : Cx} {H : Blocks} {ts : List Tn} {k : Nat} {q : Row} {e : TypeId} {t : Tn} (h : Row.ok 4 ts.length (ft ts) (some q)) (hm : (q.g, Obj.cells q.cs e (0, 0)) ∈ H) (hk : ts[k]? = some t) :
    Rds c H ((⟨q.g, 0, none⟩ : Addr).add (k * 4)) (tcl t) := fun w hw => by
  obtain ⟨oa, cap, e1, _, hC⟩ := Row.vw (e := e) h
  rw [Row.v] at e1
  injection e1 with e1 _ _
  subst e1
  have hc := hC w hw (fun p hp => by simp only [Row.b, List.mem_singleton] at hp; subst hp; exact hm)
  exact Mem.atT (hc.mem _ rfl) hk
theorem down_ok : ∀ (f m n fm : Nat), n ≤ f → 1 ≤ m → m ≤ n → ∀ t ∈ downW m n fm, fm ≤ t.fm ∧ t.fm + t.n ≤ fm + n ∧ 1 ≤ t.k ∧ t.k < t.n
  | 0, m, n, fm, hf, h1, hm => by omega
  | f + 1, m, n, fm, hf, h1, hm => by
    intro t ht
    by_cases he : m = n
    · rw [(down_top (fm := fm) (fr := true) he).1] at ht; simp at ht
    · have h2 : 2 ≤ n := by omega
      have hb := bel_lt h2
      have hp := bel_pos n
      by_cases hk : m ≤ bel n
      · rw [(down_left (fm := fm) (fr := true) h1 (by omega) hk).1] at ht
        rcases List.mem_cons.1 ht with rfl | ht
        · exact ⟨Nat.le_refl _, Nat.le_refl _, hp, hb⟩
        · have := down_ok f m (bel n) fm (by omega) h1 hk t ht
          omega
      · rw [(down_right (fm := fm) (fr := true) h1 (by omega) hk).1] at ht
        rcases List.mem_cons.1 ht with rfl | ht
        · exact ⟨Nat.le_refl _, Nat.le_refl _, hp, hb⟩
        · have := down_ok f (m - bel n) (n - bel n) (fm + bel n) (by omega) (by omega) (by omega) t ht
          omega
section
variable {c : Cx} {σ : Slots} {H : Blocks} {ty : TypeId} {pos : String} {af : Array Edge} {gd : Option (Nat × Bool)} {dst : Option Nat}
/-- A struct of two digests. -/
theorem Ev.buS {T : TypeId} {fs : Array Field} {x y : Operand} {a b : Dig} {z : Value} (hx : ev σ x = some (.agg (arr8 a.1))) (hy : ev σ y = some (.agg (arr8 b.1))) (hu : c.P.underlying T = some (.struct fs))
    (hpl : ∀ w, (fs.mapM fun f => (do pure (f.offset, ← sizeOf f.type) : Sem (Nat × Nat))).run c.P w = .ok #[(0, 32), (32, 32)] w)
    (hz : ∀ w, (zeroValue T).run c.P w = .ok z w) (hzs : 2 * 32 = z.cells.size) : Ev c σ H ⟨dst, .build T #[(0, x), (1, y)], ty, pos, af, gd⟩ (.agg (fp [(a, b)]).toArray) := by
  refine Ev.build (parts := [(0, x), (1, y)]) (vs := [(0, .agg (arr8 a.1)), (1, .agg (arr8 b.1))]) ?_ ?_
  · intro A hf
    simp [hf.ev hx, hf.ev hy]
  · intro w
    have hf := fill_all (s := 32) (n := 2) (vs := [.agg (arr8 a.1), .agg (arr8 b.1)]) (cs := z.cells) (by decide) (fun v hv => by
      simp only [List.mem_cons, List.not_mem_nil, or_false] at hv
      rcases hv with rfl | rfl <;> exact dig_size _) rfl hzs
    have hg : Instr.fill ((#[(0, 32), (32, 32)] : Array (Nat × Nat))[·]?) z.cells [(0, .agg (arr8 a.1)), (1, .agg (arr8 b.1))] = some (fp [(a, b)]).toArray := hf
    simp only [Instr.build, Sem.run_bind, hz w, Result.andThen_ok, run_underlying hu, hpl w]
    rw [hg]
    rfl
end
theorem Rds.half0 {c : Cx} {H : Blocks} {b : Nat} {p : Dig × Dig} {t : TypeId} (hm : (b, Obj.cells (fp [p]).toArray t (0, 0)) ∈ H) : Rds c H ⟨b, 0, none⟩ (p.1.1.map u8) :=
  fun w hw => by
    have h1 := Mem.pairL (ps := [p]) (k := 0) (Mem.own (o := 0) (l := fp [p]) hw hm (fun j v hj => by simpa using hj)) rfl
    simpa [Addr.add] using h1
theorem Rds.half1 {c : Cx} {H : Blocks} {b : Nat} {p : Dig × Dig} {t : TypeId} (hm : (b, Obj.cells (fp [p]).toArray t (0, 0)) ∈ H) : Rds c H ⟨b, 32, none⟩ (p.2.1.map u8) :=
  fun w hw => by
    have h1 := Mem.pairR (ps := [p]) (k := 0) (Mem.own (o := 0) (l := fp [p]) hw hm (fun j v hj => by simpa using hj)) rfl
    simpa [Addr.add] using h1
theorem fp1_size (p : Dig × Dig) : (fp [p]).toArray.size = 64 := by rw [List.size_toArray, fp_length]; rfl
theorem fp1_one (p : Dig × Dig) : ∀ u ∈ (fp [p]).toArray.toList, u.oneCell' = true := fun u hu => fp_one [p] u hu
section
variable {c : Cx} {σ : Slots} {H : Blocks} {ops : Array Oper}
theorem run_clo {σ : Slots} {c : Cx} {a : Act} {dst : Option Nat} {g : Nat} {f : Operand} {pre post : List Value} {xs : List Operand} {ats : Array TypeId} {vs : List Value} {ty : TypeId} {pos : String} {af : Array Edge} {gd : Option (Nat × Bool)} (hfr : Fr c.n c.ds σ a)
    (hf : ev σ f = some (.func (.func g) pre.toArray post.toArray)) (hx : evs σ xs = some vs) (hent : ∀ args w, (callFunc g args).run c.P w = .ok (.enter g args) w) (w : World) :
    (execOp a.eval { dst := dst, op := .call { callee := .value f, args := xs.toArray, argTypes := ats }, type := ty, pos := pos, after := af, guard := gd }).run c.P w = .ok (.enter g (pre ++ vs ++ post).toArray) w := by
  have e1 := hfr.ev hf
  have e2 := hfr.evs hx
  have key : execOp a.eval { dst := dst, op := .call { callee := .value f, args := xs.toArray, argTypes := ats }, type := ty, pos := pos, after := af, guard := gd } =
      (do let d ← resolve a.eval { callee := .value f, args := xs.toArray, argTypes := ats } ty; invoke d.target d.args) := rfl
  rw [key]
  simp only [resolve, e1, List.map_toArray, e2, Deferred.ofValue, Sem.run_bind, Sem.run_pure, Result.andThen_ok, invoke]
  have := hent (pre ++ vs ++ post).toArray w
  simpa using this
theorem JW.callCloV {G : Act → Prop} {d g : Nat} {f : Operand} {pre post : List Value} {xs : List Operand} {ats : Array TypeId} {ty : TypeId} {pos : String} {af : Array Edge} {gd : Option (Nat × Bool)} {vs : List Value} {v : Value} {l : List Oper}
    (hdn : Nat.blt d c.n = true) (hg : Gd ops σ gd true) (hf : ev σ f = some (.func (.func g) pre.toArray post.toArray)) (hx : evs σ xs = some vs)
    (hent : ∀ args w, (callFunc g args).run c.P w = .ok (.enter g args) w)
    (hc : ∀ w, Hp c.w0 H w → Calls c.P g (pre ++ vs ++ post).toArray w (Ret w fun v' _ => v' = v))
    (h : JW c ops ((d, v) :: σ) H l G) :
    JW c ops σ H ({ dst := some d, op := .call { callee := .value f, args := xs.toArray, argTypes := ats }, type := ty, pos := pos, after := af, guard := gd } :: l) G := fun a hfr => by
  unfold wpQuiet
  rw [if_pos (hg.wanted hfr)]
  refine ⟨v, fun w hw => ?_, h _ (hfr.put (Nat.le_of_ble_eq_true hdn) v)⟩
  unfold Oper.quietAt
  rw [run_clo hfr hf hx hent w]
  refine ⟨rfl, ?_⟩
  exact (Ret.lift hw (hc w hw)).mono fun e w' ⟨v', H', he, h1, H1, e2, hv⟩ => by
    subst hv
    subst e2
    exact ⟨he, h1.below, fun x hx => h1.blk x (List.mem_append_right _ hx), (List.pairwise_append.1 h1.apart).2.1⟩
end
end Go.Proofs.YtopaednfjjjnbaaDoor
