/-
  SHA-256 on lists, in plain Lean: no program in sight. The program's way and the reference's way of one round are the same.
-/
import Derived.KernelRfl
namespace Go.Proofs.YtebinlinhmohbaaDoor

def rotr (x : UInt32) (n : Nat) : UInt32 := (x >>> UInt32.ofNat n) ||| (x <<< UInt32.ofNat (32 - n))

def kTab : List UInt32 := [
  0x428a2f98, 0x71374491, 0xb5c0fbcf, 0xe9b5dba5, 0x3956c25b, 0x59f111f1, 0x923f82a4, 0xab1c5ed5,
  0xd807aa98, 0x12835b01, 0x243185be, 0x550c7dc3, 0x72be5d74, 0x80deb1fe, 0x9bdc06a7, 0xc19bf174,
  0xe49b69c1, 0xefbe4786, 0x0fc19dc6, 0x240ca1cc, 0x2de92c6f, 0x4a7484aa, 0x5cb0a9dc, 0x76f988da,
  0x983e5152, 0xa831c66d, 0xb00327c8, 0xbf597fc7, 0xc6e00bf3, 0xd5a79147, 0x06ca6351, 0x14292967,
  0x27b70a85, 0x2e1b2138, 0x4d2c6dfc, 0x53380d13, 0x650a7354, 0x766a0abb, 0x81c2c92e, 0x92722c85,
  0xa2bfe8a1, 0xa81a664b, 0xc24b8b70, 0xc76c51a3, 0xd192e819, 0xd6990624, 0xf40e3585, 0x106aa070,
  0x19a4c116, 0x1e376c08, 0x2748774c, 0x34b0bcb5, 0x391c0cb3, 0x4ed8aa4a, 0x5b9cca4f, 0x682e6ff3,
  0x748f82ee, 0x78a5636f, 0x84c87814, 0x8cc70208, 0x90befffa, 0xa4506ceb, 0xbef9a3f7, 0xc67178f2]

/-- The big-endian word at an offset. -/
def beWord (b : List UInt8) (o : Nat) : UInt32 :=
  ((b.getD o 0).toUInt32 <<< UInt32.ofNat 24 ||| (b.getD (o + 1) 0).toUInt32 <<< UInt32.ofNat 16 ||| (b.getD (o + 2) 0).toUInt32 <<< UInt32.ofNat 8) ||| (b.getD (o + 3) 0).toUInt32

def nextW (w : List UInt32) (t : Nat) : UInt32 :=
  let x := w.getD (t - 15) 0
  let y := w.getD (t - 2) 0
  w.getD (t - 16) 0 + ((rotr x 7 ^^^ rotr x 18) ^^^ x >>> UInt32.ofNat 3) + w.getD (t - 7) 0 + ((rotr y 17 ^^^ rotr y 19) ^^^ y >>> UInt32.ofNat 10)

/-- The message schedule's first t words. -/
def sched (b : List UInt8) : Nat → List UInt32
  | 0 => []
  | t + 1 => sched b t ++ [if t < 16 then beWord b (4 * t) else nextW (sched b t) t]

theorem sched_length (b : List UInt8) : ∀ t, (sched b t).length = t
  | 0 => rfl
  | t + 1 => by simp [sched, sched_length b t]

theorem sched_get (b : List UInt8) : ∀ t n j, j < t → t ≤ n → (sched b n)[j]? = (sched b t)[j]? := by
  intro t n j hj hn
  induction n with
  | zero => omega
  | succ n ih =>
    by_cases e : t = n + 1
    · rw [e]
    · rw [sched, List.getElem?_append_left (by rw [sched_length]; omega)]
      exact ih (by omega)

structure St where
  a : UInt32
  b : UInt32
  c : UInt32
  d : UInt32
  e : UInt32
  f : UInt32
  g : UInt32
  h : UInt32

def St.l (s : St) : List UInt32 := [s.a, s.b, s.c, s.d, s.e, s.f, s.g, s.h]

/-- One round, as the program reckons it. -/
def t1 (s : St) (k w : UInt32) : UInt32 := s.h + ((rotr s.e 6 ^^^ rotr s.e 11) ^^^ rotr s.e 25) + (s.g ^^^ s.e &&& (s.f ^^^ s.g)) + k + w
def t2 (s : St) : UInt32 := ((rotr s.a 2 ^^^ rotr s.a 13) ^^^ rotr s.a 22) + (s.a &&& (s.b ||| s.c) ||| s.b &&& s.c)
def rnd (s : St) (k w : UInt32) : St := ⟨t1 s k w + t2 s, s.a, s.b, s.c, s.d + t1 s k w, s.e, s.f, s.g⟩

/-- As the reference does. -/
def t1r (s : St) (k w : UInt32) : UInt32 := s.h + ((rotr s.e 6 ^^^ rotr s.e 11) ^^^ rotr s.e 25) + (s.e &&& s.f ||| ~~~s.e &&& s.g) + k + w
def t2r (s : St) : UInt32 := ((rotr s.a 2 ^^^ rotr s.a 13) ^^^ rotr s.a 22) + (s.a &&& s.b ||| s.a &&& s.c ||| s.b &&& s.c)

theorem ch_eq (e f g : UInt32) : (g ^^^ e &&& (f ^^^ g)) = (e &&& f ||| ~~~e &&& g) := by
  apply UInt32.eq_of_toBitVec_eq
  apply BitVec.eq_of_getLsbD_eq
  intro i hi
  simp only [UInt32.toBitVec_xor, UInt32.toBitVec_and, UInt32.toBitVec_or, UInt32.toBitVec_not, BitVec.getLsbD_xor, BitVec.getLsbD_and, BitVec.getLsbD_or, BitVec.getLsbD_not, hi, decide_true, Bool.true_and]
  cases e.toBitVec.getLsbD i <;> cases f.toBitVec.getLsbD i <;> cases g.toBitVec.getLsbD i <;> rfl
theorem maj_eq (a b c : UInt32) : (a &&& (b ||| c) ||| b &&& c) = (a &&& b ||| a &&& c ||| b &&& c) := by
  apply UInt32.eq_of_toBitVec_eq
  apply BitVec.eq_of_getLsbD_eq
  intro i hi
  simp only [UInt32.toBitVec_and, UInt32.toBitVec_or, BitVec.getLsbD_and, BitVec.getLsbD_or]
  cases a.toBitVec.getLsbD i <;> cases b.toBitVec.getLsbD i <;> cases c.toBitVec.getLsbD i <;> rfl
theorem t1_eq (s : St) (k w : UInt32) : t1r s k w = t1 s k w := by unfold t1 t1r; rw [ch_eq]
theorem t2_eq (s : St) : t2r s = t2 s := by unfold t2 t2r; rw [maj_eq]

/-- The state behind t rounds. -/
def rounds (s : St) (b : List UInt8) : Nat → St
  | 0 => s
  | t + 1 => rnd (rounds s b t) (kTab.getD t 0) ((sched b 64).getD t 0)

def addSt (s v : St) : St := ⟨s.a + v.a, s.b + v.b, s.c + v.c, s.d + v.d, s.e + v.e, s.f + v.f, s.g + v.g, s.h + v.h⟩
/-- A state after compressing a block. -/
def comp (s : St) (b : List UInt8) : St := addSt s (rounds s b 64)

def st0 : St := ⟨0x6a09e667, 0xbb67ae85, 0x3c6ef372, 0xa54ff53a, 0x510e527f, 0x9b05688c, 0x1f83d9ab, 0x5be0cd19⟩

/-- How many zeros the padding has. -/
def zeros (n : Nat) : Nat := (64 - (n + 9) % 64) % 64
/-- The length in bits, eight bytes. -/
def lenBytes (n : Nat) : List UInt8 := (List.range 8).map fun i => ((UInt64.ofNat n * 8) >>> UInt64.ofNat (56 - 8 * i)).toUInt8
def pad (b : List UInt8) : List UInt8 := b ++ [128] ++ List.replicate (zeros b.length) 0 ++ lenBytes b.length

theorem pad_length (b : List UInt8) : (pad b).length = b.length + 9 + zeros b.length := by
  simp [pad, lenBytes]; omega
theorem pad_mod (b : List UInt8) : (pad b).length % 64 = 0 := by
  rw [pad_length]; unfold zeros; omega

/-- The fold over n blocks, from block k on. -/
def foldB (p : List UInt8) : St → Nat → St
  | s, 0 => s
  | s, n + 1 => comp (foldB p s n) ((p.drop (64 * n)).take 64)

def outBytes (s : St) : List UInt8 := s.l.flatMap fun x => [(x >>> UInt32.ofNat 24).toUInt8, (x >>> UInt32.ofNat 16).toUInt8, (x >>> UInt32.ofNat 8).toUInt8, x.toUInt8]

def sha (b : List UInt8) : List UInt8 := outBytes (foldB (pad b) st0 ((pad b).length / 64))

theorem sha_length (b : List UInt8) : (sha b).length = 32 := rfl
end Go.Proofs.YtebinlinhmohbaaDoor
