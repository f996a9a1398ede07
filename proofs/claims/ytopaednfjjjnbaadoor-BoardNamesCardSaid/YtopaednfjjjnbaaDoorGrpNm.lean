/-
  Groups: numbers, powers; texts signed: the plain notions.
-/
import Derived.Test.YtopaednfjjjnbaaDoorPackBNm
namespace Go.Proofs.YtopaednfjjjnbaaDoor
open Go Go.RowKit

theorem andu64 {P : Program} {T : TypeId} {x y : UInt64} : Bin P .and T (u64 x) (u64 y) (u64 (x &&& y)) := Bin.int fun w => by
  have ho : ∀ x : UInt64, BitVec.ofInt IntKind.u64.bits (x.toNat : Int) = x.toBitVec := fun x => by
    apply BitVec.eq_of_toNat_eq
    rw [BitVec.toNat_ofInt]
    have := x.toNat_lt
    show ((x.toNat : Int) % (2 ^ 64 : Nat)).toNat = x.toNat
    omega
  simp only [binOp, Op.intBits, ho, u64]
  have := (x &&& y).toNat_lt
  exact congrArg (fun n => Result.ok (Value.int IntKind.u64 n) w) (wrap_u64n _ this)
structure Gp where
  p : UInt64
  q : UInt64
  g : UInt64
def Gp.cl (g : Gp) : List Value := [u64 g.p, u64 g.q, u64 g.g]
theorem Gp.one (g : Gp) : ∀ u ∈ g.cl.toArray.toList, u.oneCell' = true := by
  intro u hu
  simp only [Gp.cl, List.mem_cons, List.not_mem_nil, or_false] at hu
  rcases hu with rfl | rfl | rfl <;> rfl
/-- A group's form. -/
def formB (g : Gp) : Prop := 5 ≤ g.p.toNat ∧ g.p.toNat < 2147483648 ∧ g.p.toNat = 2 * g.q.toNat + 1 ∧ 2 ≤ g.g.toNat ∧ g.g.toNat < g.p.toNat
instance (g : Gp) : Decidable (formB g) := inferInstanceAs (Decidable (_ ∧ _))
def formE (g : Gp) : Int := if formB g then 0 else 300
theorem formE_ok {g : Gp} (h : formB g) : formE g = 0 := if_pos h
theorem formE_bad {g : Gp} (h : ¬ formB g) : formE g = 300 := if_neg h
theorem two_q1 {q : UInt64} (h : q.toNat < 2147483648) : (2 * q + 1).toNat = 2 * q.toNat + 1 := by
  rw [UInt64.toNat_add, UInt64.toNat_mul]
  show (2 * q.toNat % 2 ^ 64 + 1) % 2 ^ 64 = _
  omega
theorem and1 (x : UInt64) : (x &&& 1).toNat = x.toNat % 2 := by
  rw [UInt64.toNat_and]
  exact Nat.and_one_is_mod _
theorem shr1 (x : UInt64) : (x >>> UInt64.ofNat 1).toNat = x.toNat / 2 := by
  rw [UInt64.toNat_shiftRight]
  show x.toNat >>> 1 = _
  rw [Nat.shiftRight_eq_div_pow]
theorem mulmod {x y m : UInt64} (hx : x.toNat < m.toNat) (hy : y.toNat < m.toNat) (hm : m.toNat < 4294967296) : (x * y % m).toNat = x.toNat * y.toNat % m.toNat := by
  rw [UInt64.toNat_mod, UInt64.toNat_mul]
  have h1 : x.toNat * y.toNat < 4294967296 * 4294967296 := Nat.mul_lt_mul'' (by omega) (by omega)
  rw [Nat.mod_eq_of_lt (a := x.toNat * y.toNat) (by omega)]
theorem u64_of {x : UInt64} {n : Nat} (h : x.toNat = n) : x = UInt64.ofNat n := by
  apply UInt64.toNat_inj.1
  rw [h, UInt64.toNat_ofNat']
  have := x.toNat_lt
  omega
theorem ne_zero64 {m : UInt64} (h : 0 < m.toNat) : m ≠ 0 := fun e => by rw [e] at h; exact absurd h (by decide)
/-- a^x modulo m. -/
def pw (a x m : UInt64) : UInt64 := UInt64.ofNat (a.toNat ^ x.toNat % m.toNat)
theorem pw_nat (a x : UInt64) {m : UInt64} (h : 0 < m.toNat) : (pw a x m).toNat = a.toNat ^ x.toNat % m.toNat := by
  have h1 := Nat.mod_lt (a.toNat ^ x.toNat) h
  have := m.toNat_lt
  rw [pw, UInt64.toNat_ofNat']
  exact Nat.mod_eq_of_lt (by omega)
theorem pw_lt (a x : UInt64) {m : UInt64} (h : 0 < m.toNat) : (pw a x m).toNat < m.toNat := by
  rw [pw_nat a x h]
  exact Nat.mod_lt _ h
theorem pow_odd {o a x m z : Nat} (hx : x % 2 = 1) (h : (o * a ^ x) % m = z) : (o * a % m * (a * a % m) ^ (x / 2)) % m = z := by
  rw [← h]
  have e : o * a ^ x = o * a * (a * a) ^ (x / 2) := by
    rw [← Nat.pow_two, ← Nat.pow_mul]
    conv => lhs; rw [show x = 2 * (x / 2) + 1 by omega, Nat.pow_succ]
    rw [Nat.mul_assoc o a, Nat.mul_comm a]
  rw [e, Nat.mul_mod, Nat.mod_mod, ← Nat.pow_mod, ← Nat.mul_mod]
theorem pow_even {o a x m z : Nat} (hx : x % 2 = 0) (h : (o * a ^ x) % m = z) : (o * (a * a % m) ^ (x / 2)) % m = z := by
  rw [← h]
  have e : o * a ^ x = o * (a * a) ^ (x / 2) := by
    rw [← Nat.pow_two, ← Nat.pow_mul]
    conv => lhs; rw [show x = 2 * (x / 2) by omega]
  rw [e, Nat.mul_mod, ← Nat.pow_mod, ← Nat.mul_mod]
/-- The errors of numbers that must be below a limit. -/
def gcE (g : Gp) (lim : UInt64) (xs : List UInt64) : Int := if ¬ formB g then 300 else if ∀ x ∈ xs, x.toNat < lim.toNat then 0 else 2
section
variable {g : Gp} {lim : UInt64} {xs : List UInt64}
theorem gcE_bad (h : ¬ formB g) : gcE g lim xs = 300 := if_pos h
theorem gcE_ok (h : formB g) (h1 : ∀ x ∈ xs, x.toNat < lim.toNat) : gcE g lim xs = 0 := (if_neg (fun h2 => h2 h)).trans (if_pos h1)
theorem gcE_gr (h : formB g) (h1 : ¬ ∀ x ∈ xs, x.toNat < lim.toNat) : gcE g lim xs = 2 := (if_neg (fun h2 => h2 h)).trans (if_neg h1)
theorem gcE_zero (h : gcE g lim xs = 0) : formB g ∧ ∀ x ∈ xs, x.toNat < lim.toNat := by
  by_cases h1 : formB g
  · by_cases h2 : ∀ x ∈ xs, x.toNat < lim.toNat
    · exact ⟨h1, h2⟩
    · rw [gcE_gr h1 h2] at h; cases h
  · rw [gcE_bad h1] at h; cases h
end
/-- The errors of exponents and numbers. -/
def scE (g : Gp) (es ns : List UInt64) : Int := if ¬ formB g then 300 else if (∀ x ∈ es, x.toNat < g.q.toNat) ∧ ∀ x ∈ ns, x.toNat < g.p.toNat then 0 else 2
section
variable {g : Gp} {es ns : List UInt64}
theorem scE_bad (h : ¬ formB g) : scE g es ns = 300 := if_pos h
theorem scE_ok (h : formB g) (h1 : ∀ x ∈ es, x.toNat < g.q.toNat) (h2 : ∀ x ∈ ns, x.toNat < g.p.toNat) : scE g es ns = 0 := (if_neg (fun h2 => h2 h)).trans (if_pos ⟨h1, h2⟩)
theorem scE_gr (h : formB g) (h1 : ¬ ((∀ x ∈ es, x.toNat < g.q.toNat) ∧ ∀ x ∈ ns, x.toNat < g.p.toNat)) : scE g es ns = 2 := (if_neg (fun h2 => h2 h)).trans (if_neg h1)
theorem scE_zero (h : scE g es ns = 0) : formB g ∧ (∀ x ∈ es, x.toNat < g.q.toNat) ∧ ∀ x ∈ ns, x.toNat < g.p.toNat := by
  by_cases h1 : formB g
  · by_cases h2 : (∀ x ∈ es, x.toNat < g.q.toNat) ∧ ∀ x ∈ ns, x.toNat < g.p.toNat
    · exact ⟨h1, h2⟩
    · rw [scE_gr h1 h2] at h; cases h
  · rw [scE_bad h1] at h; cases h
end
/-- A number as eight bytes. -/
def be8f (n : UInt64) (k : Nat) : List UInt8 := (List.range k).map fun j => (n >>> UInt64.ofNat (56 - 8 * j)).toUInt8
def be8 (n : UInt64) : List UInt8 := be8f n 8
theorem be8f_succ (n : UInt64) (k : Nat) : be8f n (k + 1) = be8f n k ++ [(n >>> UInt64.ofNat (56 - 8 * k)).toUInt8] := by
  rw [be8f, List.range_succ, List.map_append]
  rfl
theorem be8f_length (n : UInt64) (k : Nat) : (be8f n k).length = k := by rw [be8f, List.length_map, List.length_range]
theorem be8_length (n : UInt64) : (be8 n).length = 8 := be8f_length n 8
def be8s (xs : List UInt64) : List UInt8 := xs.flatMap be8
theorem be8s_append (a b : List UInt64) : be8s (a ++ b) = be8s a ++ be8s b := by simp [be8s]
theorem be8s_length : ∀ xs : List UInt64, (be8s xs).length = 8 * xs.length
  | [] => rfl
  | x :: xs => by
    show (be8 x ++ be8s xs).length = _
    rw [List.length_append, be8_length, be8s_length xs, List.length_cons]
    omega
/-- A number out of bytes. -/
def hN (l : List UInt8) : UInt64 := l.foldl (fun n c => n <<< UInt64.ofNat 8 ||| c.toUInt64) 0
theorem hN_succ {l : List UInt8} {i : Nat} {x : UInt8} (h : l[i]? = some x) : hN (l.take (i + 1)) = hN (l.take i) <<< UInt64.ofNat 8 ||| x.toUInt64 := by
  rw [hN, List.take_add_one, h, List.foldl_append]
  rfl
theorem hN_all {l : List UInt8} {i : Nat} (h : l.length ≤ i) : hN (l.take i) = hN l := by rw [List.take_of_length_le h]
def fdg (g : Gp) (d : List UInt8) : UInt64 := if formB g then hN (d.take 8) % g.q else 0
/-- A signature's parts. -/
def nonceR (g : Gp) (x : UInt64) (t : List UInt8) : UInt64 := hN ((sha (be8 x ++ t)).take 8) % (g.q - 1) + 1
def chalR (g : Gp) (y r : UInt64) (t : List UInt8) : UInt64 := hN ((sha (be8 y ++ (be8 r ++ t))).take 8) % g.q
def kyE (g : Gp) (x : UInt64) : Int := if scE g [x] [] ≠ 0 then scE g [x] [] else if x.toNat = 0 then 2 else 0
def sigR (g : Gp) (x : UInt64) (t : List UInt8) : UInt64 × UInt64 :=
  let k := nonceR g x t
  let r := pw g.g k g.p
  (r, (k + chalR g (pw g.g x g.p) r t * x % g.q) % g.q)
def memR (g : Gp) (a : UInt64) : Bool := decide (0 < a.toNat) && decide ((pw a g.q g.p).toNat = 1)
def evenR (g : Gp) (y r c s : UInt64) : Bool := decide (pw g.g s g.p = r * pw y c g.p % g.p)
theorem form_q {g : Gp} (h : formB g) : 2 ≤ g.q.toNat ∧ g.q.toNat < 1073741824 := by
  obtain ⟨h1, h2, h3, _, _⟩ := h
  omega
def u64s (xs : List UInt64) : List Value := xs.map u64
theorem u64s_get {l : List UInt64} {i : Nat} {x : UInt64} (h : l[i]? = some x) : (u64s l)[i]? = some (u64 x) := by
  rw [u64s, List.getElem?_map, h]
  rfl
theorem own1 {w0 w : World} {H : Blocks} {b : Nat} {t : TypeId} {fr : Nat × Nat} {v : Value} (h : Hp w0 H w) (hm : (b, Obj.cells #[v] t fr) ∈ H) : Mem w ⟨b, 0, none⟩ [v] := Mem.own h hm fun j u hj => by
  rw [Nat.zero_add]
  simpa using hj
end Go.Proofs.YtopaednfjjjnbaaDoor
