/-
  Powers modulo a number: exponents below a prime order determine the power; a signature's equation.
-/
import Derived.Test.YtopaednfjjjnbaaDoorSch1Nm
namespace Go.Proofs.YtopaednfjjjnbaaDoor
open Go

section
variable {y p q : Nat}
theorem pow_cut {a b : Nat} (h : y ^ a % p = 1 % p) : y ^ b % p = y ^ (b % a) % p := by
  conv => lhs; rw [← Nat.div_add_mod b a, Nat.pow_add, Nat.pow_mul, Nat.mul_mod, Nat.pow_mod, h, ← Nat.pow_mod, Nat.one_pow, ← Nat.mul_mod, Nat.one_mul]
theorem pow_gcd : ∀ (n a b : Nat), a ≤ n → y ^ a % p = 1 % p → y ^ b % p = 1 % p → y ^ Nat.gcd a b % p = 1 % p
  | 0, a, b, hn, _, hb => by
    obtain rfl : a = 0 := by omega
    rw [Nat.gcd_zero_left]
    exact hb
  | n + 1, a, b, hn, ha, hb => by
    by_cases h0 : a = 0
    · subst h0
      rw [Nat.gcd_zero_left]
      exact hb
    · rw [Nat.gcd_rec]
      refine pow_gcd n (b % a) a ?_ ?_ ha
      · have := Nat.mod_lt b (show 0 < a by omega)
        omega
      · rw [← pow_cut ha]
        exact hb
theorem prime_gcd (hq : primeR q) {e : Nat} (h0 : 0 < e) (h1 : e < q) : Nat.gcd e q = 1 := by
  have hg := Nat.gcd_pos_of_pos_left q h0
  have hle : Nat.gcd e q ≤ e := Nat.le_of_dvd h0 (Nat.gcd_dvd_left e q)
  obtain ⟨k, hk⟩ := Nat.gcd_dvd_right e q
  refine Classical.byContradiction fun hne => ?_
  have h2 : 2 ≤ Nat.gcd e q := by omega
  have hk0 : k ≠ 0 := fun h => by rw [h, Nat.mul_zero] at hk; omega
  have hk1 : k ≠ 1 := fun h => by rw [h, Nat.mul_one] at hk; omega
  rcases Nat.le_total (Nat.gcd e q) k with h3 | h3
  · refine hq.2 (Nat.gcd e q) h2 ?_ (Nat.mod_eq_zero_of_dvd (Nat.gcd_dvd_right e q))
    conv => rhs; rw [hk]
    exact Nat.mul_le_mul_left _ h3
  · refine hq.2 k (by omega) ?_ (Nat.mod_eq_zero_of_dvd ⟨Nat.gcd e q, by rw [Nat.mul_comm]; exact hk⟩)
    conv => rhs; rw [hk]
    exact Nat.mul_le_mul_right _ h3
theorem pow_ord (hq : primeR q) (hy : y ^ q % p = 1 % p) {e : Nat} (h0 : 0 < e) (h1 : e < q) (he : y ^ e % p = 1 % p) : y % p = 1 % p := by
  have h2 := pow_gcd e e q (Nat.le_refl _) he hy
  rwa [prime_gcd hq h0 h1, Nat.pow_one] at h2
theorem pow_q (hy : y ^ q % p = 1 % p) (n : Nat) : y ^ (q * n) % p = 1 % p := by
  rw [Nat.pow_mul, Nat.pow_mod, hy, ← Nat.pow_mod, Nat.one_pow]
theorem pow_sub1 (hq : primeR q) (hy : y ^ q % p = 1 % p) {c d : Nat} (hcd : c ≤ d) (h : y ^ c % p = y ^ d % p) : y ^ (d - c) % p = 1 % p := by
  have h1 : 1 ≤ q := by have := hq.1; omega
  have e1 : (q - 1) * c + c = q * c := by
    rw [Nat.sub_mul, Nat.one_mul]
    have := Nat.mul_le_mul_right c h1
    omega
  have h2 : (y ^ ((q - 1) * c) * y ^ c) % p = 1 % p := by
    rw [← Nat.pow_add, e1]
    exact pow_q hy c
  have h3 : (y ^ ((q - 1) * c) * y ^ d) % p = y ^ (d - c) % p := by
    rw [← Nat.pow_add, show (q - 1) * c + d = q * c + (d - c) by omega, Nat.pow_add, Nat.mul_mod, pow_q hy c, ← Nat.mul_mod, Nat.one_mul]
  rw [← h3, Nat.mul_mod, ← h, ← Nat.mul_mod]
  exact h2
theorem pow_inj (hq : primeR q) (hy : y ^ q % p = 1 % p) (hne : y % p ≠ 1 % p) {c d : Nat} (hc : c < q) (hd : d < q) (h : y ^ c % p = y ^ d % p) : c = d := by
  rcases Nat.lt_trichotomy c d with h1 | h1 | h1
  · exact absurd (pow_ord hq hy (by omega) (by omega) (pow_sub1 hq hy (by omega) h)) hne
  · exact h1
  · exact absurd (pow_ord hq hy (by omega) (by omega) (pow_sub1 hq hy (by omega) h.symm)) hne
theorem cancel {r a b : Nat} (hq : 1 ≤ q) (hr : r ^ q % p = 1 % p) (h : r * a % p = r * b % p) : a % p = b % p := by
  have e : ∀ z : Nat, r ^ (q - 1) * (r * z) % p = z % p := fun z => by
    rw [← Nat.mul_assoc, ← Nat.pow_succ, Nat.succ_eq_add_one, show q - 1 + 1 = q by omega, Nat.mul_mod, hr, ← Nat.mul_mod, Nat.one_mul]
  rw [← e a, ← e b, Nat.mul_mod, h, ← Nat.mul_mod]
theorem pow_of (hg : y ^ q % p = 1 % p) (x : Nat) : (y ^ x % p) ^ q % p = 1 % p := by
  rw [← Nat.pow_mod, ← Nat.pow_mul, Nat.mul_comm]
  exact pow_q hg x
end
/-- What a valid group says of its generator. -/
structure Valid (g : Gp) : Prop where
  form : formB g
  prime : primeR g.q.toNat
  gen : g.g.toNat ^ g.q.toNat % g.p.toNat = 1 % g.p.toNat
section
variable {g : Gp} {x y r s : UInt64} {t : List UInt8}
theorem Valid.p0 (h : Valid g) : 0 < g.p.toNat := by have := h.form.1; omega
theorem Valid.one (h : Valid g) : 1 % g.p.toNat = 1 := Nat.mod_eq_of_lt (by have := h.form.1; omega)
theorem Valid.pow (h : Valid g) (x : UInt64) : (pw g.g x g.p).toNat ^ g.q.toNat % g.p.toNat = 1 % g.p.toNat := by
  rw [pw_nat _ _ h.p0]
  exact pow_of h.gen _
theorem Valid.mem (h : Valid g) (x : UInt64) : memR g (pw g.g x g.p) = true := by
  have h1 := h.pow x
  have h2 : (pw (pw g.g x g.p) g.q g.p).toNat = 1 := by
    rw [pw_nat _ _ h.p0, h1, h.one]
  have h3 : 0 < (pw g.g x g.p).toNat := by
    refine Nat.pos_of_ne_zero fun h0 => ?_
    rw [h0, Nat.zero_pow (by have := form_q h.form; omega), Nat.zero_mod, h.one] at h1
    cases h1
  rw [memR, decide_eq_true h3, decide_eq_true h2]
  rfl
theorem Valid.ne (h : Valid g) (hx : x.toNat < g.q.toNat) (h0 : x.toNat ≠ 0) : (pw g.g x g.p).toNat % g.p.toNat ≠ 1 % g.p.toNat := fun he => by
  rw [pw_nat _ _ h.p0, Nat.mod_mod] at he
  have h1 := pow_ord h.prime h.gen (by omega) hx he
  obtain ⟨f1, f2, f3, f4, f5⟩ := h.form
  rw [Nat.mod_eq_of_lt f5, h.one] at h1
  omega
/-- The equation of a signature that was made. -/
theorem Valid.even (h : Valid g) (hx : x.toNat < g.q.toNat) (t : List UInt8) : evenR g (pw g.g x g.p) (sigR g x t).1 (chalR g (pw g.g x g.p) (sigR g x t).1 t) (sigR g x t).2 = true := by
  have hq := form_q h.form
  have hk := nonce_lt (x := x) (t := t) h.form
  have hc := chal_lt (y := pw g.g x g.p) (r := (sigR g x t).1) (t := t) h.form
  have hR : (sigR g x t).1.toNat < g.p.toNat := pw_lt _ _ h.p0
  have h1 := Nat.mod_lt ((chalR g (pw g.g x g.p) (sigR g x t).1 t).toNat * x.toNat) (show 0 < g.q.toNat by omega)
  have hs : (sigR g x t).2.toNat = ((nonceR g x t).toNat + (chalR g (pw g.g x g.p) (sigR g x t).1 t).toNat * x.toNat % g.q.toNat) % g.q.toNat := by
    show ((nonceR g x t + chalR g (pw g.g x g.p) (sigR g x t).1 t * x % g.q) % g.q).toNat = _
    rw [UInt64.toNat_mod, UInt64.toNat_add, mulmod hc hx (by omega), Nat.mod_eq_of_lt (a := _ + _) (by omega)]
  refine decide_eq_true (UInt64.toNat_inj.1 ?_)
  rw [mulmod hR (pw_lt _ _ h.p0) (by have := h.form.2.1; omega), pw_nat _ _ h.p0, pw_nat (pw g.g x g.p) _ h.p0, pw_nat g.g x h.p0, hs]
  show _ = (pw g.g (nonceR g x t) g.p).toNat * _ % _
  rw [pw_nat _ _ h.p0, ← pow_cut h.gen, Nat.pow_add, ← Nat.pow_mod, ← Nat.mul_mod, ← Nat.pow_mul, Nat.mul_mod, ← pow_cut h.gen, ← Nat.mul_mod, Nat.mul_comm x.toNat]
/-- Another challenge is accepted only where it is the same. -/
theorem Valid.only (h : Valid g) (hx : x.toNat < g.q.toNat) (h0 : x.toNat ≠ 0) (t : List UInt8) {d : UInt64} (hd : d.toNat < g.q.toNat) :
    evenR g (pw g.g x g.p) (sigR g x t).1 d (sigR g x t).2 = decide (chalR g (pw g.g x g.p) (sigR g x t).1 t = d) := by
  have hq := form_q h.form
  have hc := chal_lt (y := pw g.g x g.p) (r := (sigR g x t).1) (t := t) h.form
  have he := of_decide_eq_true (h.even hx t)
  by_cases hcd : chalR g (pw g.g x g.p) (sigR g x t).1 t = d
  · rw [decide_eq_true hcd, ← hcd]
    exact h.even hx t
  · rw [decide_eq_false hcd]
    refine decide_eq_false fun hb => hcd ?_
    rw [he] at hb
    have h1 := congrArg UInt64.toNat hb
    have hR : (sigR g x t).1.toNat < g.p.toNat := pw_lt _ _ h.p0
    rw [mulmod hR (pw_lt _ _ h.p0) (by have := h.form.2.1; omega), mulmod hR (pw_lt _ _ h.p0) (by have := h.form.2.1; omega), pw_nat (pw g.g x g.p) _ h.p0, pw_nat (pw g.g x g.p) _ h.p0] at h1
    have h2 := cancel (q := g.q.toNat) (by omega) (h.pow (nonceR g x t)) h1
    rw [Nat.mod_mod, Nat.mod_mod] at h2
    exact UInt64.toNat_inj.1 (pow_inj h.prime (h.pow x) (h.ne hx h0) hc hd h2)
end
end Go.Proofs.YtopaednfjjjnbaaDoor
