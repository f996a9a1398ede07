/-
  Groups: powers, primes, the numbers of a group; in the program.
-/
import Derived.Test.YtopaednfjjjnbaaDoorBrd4Nm
import Derived.Test.YtopaednfjjjnbaaDoorGrpNm
namespace Go.Proofs.YtopaednfjjjnbaaDoor
open Go Go.RowKit
set_option maxRecDepth 100000

theorem Rds.at0 {c : Cx} {H : Blocks} {a : Addr} {l : List Value} {v : Value} (h : Rds c H a l) (hv : l[0]? = some v) : Rd c H a v := by
  have h1 := h.at (k := 0) hv
  have e : a.add 0 = a := by simp [Addr.add]
  rwa [e] at h1
theorem two_q1w {q : UInt64} (h : q.toNat < 4294967296) : (2 * q + 1).toNat = 2 * q.toNat + 1 := by
  rw [UInt64.toNat_add, UInt64.toNat_mul]
  show (2 * q.toNat % 2 ^ 64 + 1) % 2 ^ 64 = _
  omega
def primeR (n : Nat) : Prop := 2 ≤ n ∧ ∀ d, 2 ≤ d → d * d ≤ n → n % d ≠ 0
theorem gDefault_any (w : World) :
    Calls Tryd.prog 22 #[] w (Ret w (fun v _ => v = .agg (Gp.cl ⟨1000000007, 500000003, 4⟩).toArray)) := by
  refine enter (vs := []) Tryd.func22 rfl Tryd.ntmps22 rfl ?_
  refine JC.seq ?_
  refine JC.region ?_
  refine JL.new rfl rfl rfl (.none rfl) (En.allocZ (cs := #[u64 0, u64 0, u64 0]) Tryd.zeroValue53 rfl) (fun b0 hb0 => ?_)
  refine JL.nil ?_
  refine JQ.thenN ?_
  refine JC.seq ?_
  refine JC.region ?_
  refine JL.val rfl rfl rfl (.none rfl) (Ev.buN rfl (fun _ => by kernel_rfl)) ?_
  refine JL.sto rfl rfl (.none rfl) (Es.storeA rfl rfl Tryd.sizeOf53 Upd.k rfl rfl (Gp.one ⟨1000000007, 500000003, 4⟩)) ?_
  refine JL.nil ?_
  refine JQ.thenN ?_
  refine JC.ret ?_
  refine JQ.end1 (H' := []) (.inl rfl) rfl (.agg rfl memK Tryd.underlying53 rfl Tryd.sizeOf53 rfl) ?_ ?_
  · exact Sub.k
  · exact rfl

theorem gForm_any (g : Gp) (w : World) :
    Calls Tryd.prog 88 #[.agg g.cl.toArray] w (Ret w (fun v _ => v = .int .i64 (formE g))) := by
  refine enter (vs := [.agg g.cl.toArray]) Tryd.func88 rfl Tryd.ntmps88 rfl ?_
  refine JC.seq ?_
  refine JC.region ?_
  refine JL.new rfl rfl rfl (.none rfl) (En.boxA rfl) (fun b1 hb1 => ?_)
  refine JL.asg ?_
  refine JL.nil ?_
  refine JQ.thenN ?_
  refine JC.seq ?_
  refine JC.seq ?_
  refine JC.region ?_
  refine JL.val rfl rfl rfl (.none rfl) (Ev.fld 0 rfl (fun _ _ => by kernel_rfl)) ?_
  refine JL.val rfl rfl rfl (.none rfl) (Ev.load1 rfl Tryd.underlying34 rfl (Rd.own memK rfl)) ?_
  refine JL.val rfl rfl rfl (.none rfl) (Ev.bin rfl rfl lss_int) ?_
  refine JL.mv ?_
  refine JL.split (d := 6) rfl (fun hA => ?_) (fun hA => ?_)
  · -- guard 6 true
    have hA := of_decide_eq_true hA
    have hbad : ¬ formB g := fun hf => by have h1 := two_q1 (q := g.q) (by have := form_q hf; omega); obtain ⟨f1, f2, f3, f4, f5⟩ := hf; omega
    refine JL.skip rfl rfl (.noF rfl rfl rfl) ?_
    refine JL.skip rfl rfl (.noF rfl rfl rfl) ?_
    refine JL.skip rfl rfl (.noF rfl rfl rfl) ?_
    refine JL.val rfl rfl rfl (.none rfl) (Ev.pickT rfl rfl) ?_
    refine JL.mv ?_
    refine JL.skip rfl rfl (.noF rfl rfl rfl) ?_
    refine JL.skip rfl rfl (.noF rfl rfl rfl) ?_
    refine JL.skip rfl rfl (.noF rfl rfl rfl) ?_
    refine JL.skip rfl rfl (.noF rfl rfl rfl) ?_
    refine JL.skip rfl rfl (.noF rfl rfl rfl) ?_
    refine JL.val rfl rfl rfl (.none rfl) (Ev.pickT rfl rfl) ?_
    refine JL.mv ?_
    refine JL.skip rfl rfl (.noF rfl rfl rfl) ?_
    refine JL.skip rfl rfl (.noF rfl rfl rfl) ?_
    refine JL.skip rfl rfl (.noF rfl rfl rfl) ?_
    refine JL.skip rfl rfl (.noF rfl rfl rfl) ?_
    refine JL.skip rfl rfl (.noF rfl rfl rfl) ?_
    refine JL.skip rfl rfl (.noF rfl rfl rfl) ?_
    refine JL.skip rfl rfl (.noF rfl rfl rfl) ?_
    refine JL.val rfl rfl rfl (.none rfl) (Ev.pickT rfl rfl) ?_
    refine JL.mv ?_
    refine JL.skip rfl rfl (.noF rfl rfl rfl) ?_
    refine JL.skip rfl rfl (.noF rfl rfl rfl) ?_
    refine JL.skip rfl rfl (.noF rfl rfl rfl) ?_
    refine JL.val rfl rfl rfl (.none rfl) (Ev.pickT rfl rfl) ?_
    refine JL.mv ?_
    refine JL.skip rfl rfl (.noF rfl rfl rfl) ?_
    refine JL.skip rfl rfl (.noF rfl rfl rfl) ?_
    refine JL.skip rfl rfl (.noF rfl rfl rfl) ?_
    refine JL.skip rfl rfl (.noF rfl rfl rfl) ?_
    refine JL.skip rfl rfl (.noF rfl rfl rfl) ?_
    refine JL.val rfl rfl rfl (.none rfl) (Ev.pickT rfl rfl) ?_
    refine JL.nil ?_
    refine JQ.thenN ?_
    refine JC.condT rfl ?_
    refine JC.seq ?_
    refine JC.region ?_
    refine JL.asg ?_
    refine JL.nil ?_
    refine JQ.thenN ?_
    refine JC.ret ?_
    refine JQ.thenR ?_
    refine JQ.end1 (H' := []) (.inl rfl) rfl (.tmp rfl) ?_ ?_
    · exact Sub.k
    · first | rw [formE_bad hbad] | rw [formE_ok hok]
  · -- guard 6 false
    have hA := of_decide_eq_false hA
    refine JL.val rfl rfl rfl (.yes rfl rfl rfl) (Ev.fld 0 rfl (fun _ _ => by kernel_rfl)) ?_
    refine JL.val rfl rfl rfl (.yes rfl rfl rfl) (Ev.load1 rfl Tryd.underlying34 rfl (Rd.own memK rfl)) ?_
    refine JL.val rfl rfl rfl (.yes rfl rfl rfl) (Ev.bin rfl rfl geq_int) ?_
    refine JL.val rfl rfl rfl (.none rfl) (Ev.pickF rfl rfl) ?_
    refine JL.mv ?_
    refine JL.split (d := 11) rfl (fun hB => ?_) (fun hB => ?_)
    · -- guard 11 true
      have hB := of_decide_eq_true hB
      have hbad : ¬ formB g := fun hf => by have h1 := two_q1 (q := g.q) (by have := form_q hf; omega); obtain ⟨f1, f2, f3, f4, f5⟩ := hf; omega
      refine JL.skip rfl rfl (.noF rfl rfl rfl) ?_
      refine JL.skip rfl rfl (.noF rfl rfl rfl) ?_
      refine JL.skip rfl rfl (.noF rfl rfl rfl) ?_
      refine JL.skip rfl rfl (.noF rfl rfl rfl) ?_
      refine JL.skip rfl rfl (.noF rfl rfl rfl) ?_
      refine JL.val rfl rfl rfl (.none rfl) (Ev.pickT rfl rfl) ?_
      refine JL.mv ?_
      refine JL.skip rfl rfl (.noF rfl rfl rfl) ?_
      refine JL.skip rfl rfl (.noF rfl rfl rfl) ?_
      refine JL.skip rfl rfl (.noF rfl rfl rfl) ?_
      refine JL.skip rfl rfl (.noF rfl rfl rfl) ?_
      refine JL.skip rfl rfl (.noF rfl rfl rfl) ?_
      refine JL.skip rfl rfl (.noF rfl rfl rfl) ?_
      refine JL.skip rfl rfl (.noF rfl rfl rfl) ?_
      refine JL.val rfl rfl rfl (.none rfl) (Ev.pickT rfl rfl) ?_
      refine JL.mv ?_
      refine JL.skip rfl rfl (.noF rfl rfl rfl) ?_
      refine JL.skip rfl rfl (.noF rfl rfl rfl) ?_
      refine JL.skip rfl rfl (.noF rfl rfl rfl) ?_
      refine JL.val rfl rfl rfl (.none rfl) (Ev.pickT rfl rfl) ?_
      refine JL.mv ?_
      refine JL.skip rfl rfl (.noF rfl rfl rfl) ?_
      refine JL.skip rfl rfl (.noF rfl rfl rfl) ?_
      refine JL.skip rfl rfl (.noF rfl rfl rfl) ?_
      refine JL.skip rfl rfl (.noF rfl rfl rfl) ?_
      refine JL.skip rfl rfl (.noF rfl rfl rfl) ?_
      refine JL.val rfl rfl rfl (.none rfl) (Ev.pickT rfl rfl) ?_
      refine JL.nil ?_
      refine JQ.thenN ?_
      refine JC.condT rfl ?_
      refine JC.seq ?_
      refine JC.region ?_
      refine JL.asg ?_
      refine JL.nil ?_
      refine JQ.thenN ?_
      refine JC.ret ?_
      refine JQ.thenR ?_
      refine JQ.end1 (H' := []) (.inl rfl) rfl (.tmp rfl) ?_ ?_
      · exact Sub.k
      · first | rw [formE_bad hbad] | rw [formE_ok hok]
    · -- guard 11 false
      have hB := of_decide_eq_false hB
      refine JL.val rfl rfl rfl (.yes rfl rfl rfl) (Ev.fld 1 rfl (fun _ _ => by kernel_rfl)) ?_
      refine JL.val rfl rfl rfl (.yes rfl rfl rfl) (Ev.load1 rfl Tryd.underlying34 rfl (Rd.own memK rfl)) ?_
      refine JL.val rfl rfl rfl (.yes rfl rfl rfl) (Ev.fld 0 rfl (fun _ _ => by kernel_rfl)) ?_
      refine JL.val rfl rfl rfl (.yes rfl rfl rfl) (Ev.load1 rfl Tryd.underlying34 rfl (Rd.own memK rfl)) ?_
      refine JL.val rfl rfl rfl (.yes rfl rfl rfl) (Ev.bin rfl rfl gtr_int) ?_
      refine JL.val rfl rfl rfl (.none rfl) (Ev.pickF rfl rfl) ?_
      refine JL.mv ?_
      refine JL.split (d := 18) rfl (fun hC => ?_) (fun hC => ?_)
      · -- guard 18 true
        have hC := of_decide_eq_true hC
        have hbad : ¬ formB g := fun hf => by have h1 := two_q1 (q := g.q) (by have := form_q hf; omega); obtain ⟨f1, f2, f3, f4, f5⟩ := hf; omega
        refine JL.skip rfl rfl (.noF rfl rfl rfl) ?_
        refine JL.skip rfl rfl (.noF rfl rfl rfl) ?_
        refine JL.skip rfl rfl (.noF rfl rfl rfl) ?_
        refine JL.skip rfl rfl (.noF rfl rfl rfl) ?_
        refine JL.skip rfl rfl (.noF rfl rfl rfl) ?_
        refine JL.skip rfl rfl (.noF rfl rfl rfl) ?_
        refine JL.skip rfl rfl (.noF rfl rfl rfl) ?_
        refine JL.val rfl rfl rfl (.none rfl) (Ev.pickT rfl rfl) ?_
        refine JL.mv ?_
        refine JL.skip rfl rfl (.noF rfl rfl rfl) ?_
        refine JL.skip rfl rfl (.noF rfl rfl rfl) ?_
        refine JL.skip rfl rfl (.noF rfl rfl rfl) ?_
        refine JL.val rfl rfl rfl (.none rfl) (Ev.pickT rfl rfl) ?_
        refine JL.mv ?_
        refine JL.skip rfl rfl (.noF rfl rfl rfl) ?_
        refine JL.skip rfl rfl (.noF rfl rfl rfl) ?_
        refine JL.skip rfl rfl (.noF rfl rfl rfl) ?_
        refine JL.skip rfl rfl (.noF rfl rfl rfl) ?_
        refine JL.skip rfl rfl (.noF rfl rfl rfl) ?_
        refine JL.val rfl rfl rfl (.none rfl) (Ev.pickT rfl rfl) ?_
        refine JL.nil ?_
        refine JQ.thenN ?_
        refine JC.condT rfl ?_
        refine JC.seq ?_
        refine JC.region ?_
        refine JL.asg ?_
        refine JL.nil ?_
        refine JQ.thenN ?_
        refine JC.ret ?_
        refine JQ.thenR ?_
        refine JQ.end1 (H' := []) (.inl rfl) rfl (.tmp rfl) ?_ ?_
        · exact Sub.k
        · first | rw [formE_bad hbad] | rw [formE_ok hok]
      · -- guard 18 false
        have hC := of_decide_eq_false hC
        refine JL.val rfl rfl rfl (.yes rfl rfl rfl) (Ev.fld 0 rfl (fun _ _ => by kernel_rfl)) ?_
        refine JL.val rfl rfl rfl (.yes rfl rfl rfl) (Ev.load1 rfl Tryd.underlying34 rfl (Rd.own memK rfl)) ?_
        refine JL.val rfl rfl rfl (.yes rfl rfl rfl) (Ev.fld 1 rfl (fun _ _ => by kernel_rfl)) ?_
        refine JL.val rfl rfl rfl (.yes rfl rfl rfl) (Ev.load1 rfl Tryd.underlying34 rfl (Rd.own memK rfl)) ?_
        refine JL.val rfl rfl rfl (.yes rfl rfl rfl) (Ev.bin rfl rfl (mul_u64 (x := 2))) ?_
        refine JL.val rfl rfl rfl (.yes rfl rfl rfl) (Ev.bin rfl rfl (add_u64 (y := 1))) ?_
        refine JL.val rfl rfl rfl (.yes rfl rfl rfl) (Ev.bin rfl rfl neq_int) ?_
        refine JL.val rfl rfl rfl (.none rfl) (Ev.pickF rfl rfl) ?_
        refine JL.mv ?_
        refine JL.split (d := 27) rfl (fun hD => ?_) (fun hD => ?_)
        · -- guard 27 true
          have hD := of_decide_eq_true hD
          have hbad : ¬ formB g := fun hf => by have h1 := two_q1 (q := g.q) (by have := form_q hf; omega); obtain ⟨f1, f2, f3, f4, f5⟩ := hf; omega
          refine JL.skip rfl rfl (.noF rfl rfl rfl) ?_
          refine JL.skip rfl rfl (.noF rfl rfl rfl) ?_
          refine JL.skip rfl rfl (.noF rfl rfl rfl) ?_
          refine JL.val rfl rfl rfl (.none rfl) (Ev.pickT rfl rfl) ?_
          refine JL.mv ?_
          refine JL.skip rfl rfl (.noF rfl rfl rfl) ?_
          refine JL.skip rfl rfl (.noF rfl rfl rfl) ?_
          refine JL.skip rfl rfl (.noF rfl rfl rfl) ?_
          refine JL.skip rfl rfl (.noF rfl rfl rfl) ?_
          refine JL.skip rfl rfl (.noF rfl rfl rfl) ?_
          refine JL.val rfl rfl rfl (.none rfl) (Ev.pickT rfl rfl) ?_
          refine JL.nil ?_
          refine JQ.thenN ?_
          refine JC.condT rfl ?_
          refine JC.seq ?_
          refine JC.region ?_
          refine JL.asg ?_
          refine JL.nil ?_
          refine JQ.thenN ?_
          refine JC.ret ?_
          refine JQ.thenR ?_
          refine JQ.end1 (H' := []) (.inl rfl) rfl (.tmp rfl) ?_ ?_
          · exact Sub.k
          · first | rw [formE_bad hbad] | rw [formE_ok hok]
        · -- guard 27 false
          have hD := of_decide_eq_false hD
          refine JL.val rfl rfl rfl (.yes rfl rfl rfl) (Ev.fld 2 rfl (fun _ _ => by kernel_rfl)) ?_
          refine JL.val rfl rfl rfl (.yes rfl rfl rfl) (Ev.load1 rfl Tryd.underlying34 rfl (Rd.own memK rfl)) ?_
          refine JL.val rfl rfl rfl (.yes rfl rfl rfl) (Ev.bin rfl rfl lss_int) ?_
          refine JL.val rfl rfl rfl (.none rfl) (Ev.pickF rfl rfl) ?_
          refine JL.mv ?_
          refine JL.split (d := 32) rfl (fun hE => ?_) (fun hE => ?_)
          · -- guard 32 true
            have hE := of_decide_eq_true hE
            have hbad : ¬ formB g := fun hf => by have h1 := two_q1 (q := g.q) (by have := form_q hf; omega); obtain ⟨f1, f2, f3, f4, f5⟩ := hf; omega
            refine JL.skip rfl rfl (.noF rfl rfl rfl) ?_
            refine JL.skip rfl rfl (.noF rfl rfl rfl) ?_
            refine JL.skip rfl rfl (.noF rfl rfl rfl) ?_
            refine JL.skip rfl rfl (.noF rfl rfl rfl) ?_
            refine JL.skip rfl rfl (.noF rfl rfl rfl) ?_
            refine JL.val rfl rfl rfl (.none rfl) (Ev.pickT rfl rfl) ?_
            refine JL.nil ?_
            refine JQ.thenN ?_
            refine JC.condT rfl ?_
            refine JC.seq ?_
            refine JC.region ?_
            refine JL.asg ?_
            refine JL.nil ?_
            refine JQ.thenN ?_
            refine JC.ret ?_
            refine JQ.thenR ?_
            refine JQ.end1 (H' := []) (.inl rfl) rfl (.tmp rfl) ?_ ?_
            · exact Sub.k
            · first | rw [formE_bad hbad] | rw [formE_ok hok]
          · -- guard 32 false
            have hE := of_decide_eq_false hE
            refine JL.val rfl rfl rfl (.yes rfl rfl rfl) (Ev.fld 2 rfl (fun _ _ => by kernel_rfl)) ?_
            refine JL.val rfl rfl rfl (.yes rfl rfl rfl) (Ev.load1 rfl Tryd.underlying34 rfl (Rd.own memK rfl)) ?_
            refine JL.val rfl rfl rfl (.yes rfl rfl rfl) (Ev.fld 0 rfl (fun _ _ => by kernel_rfl)) ?_
            refine JL.val rfl rfl rfl (.yes rfl rfl rfl) (Ev.load1 rfl Tryd.underlying34 rfl (Rd.own memK rfl)) ?_
            refine JL.val rfl rfl rfl (.yes rfl rfl rfl) (Ev.bin rfl rfl geq_int) ?_
            refine JL.val rfl rfl rfl (.none rfl) (Ev.pickF rfl rfl) ?_
            refine JL.nil ?_
            refine JQ.thenN ?_
            refine JC.cond rfl (fun hc1 => ?_) (fun hc1 => ?_)
            · -- t38 True
              replace hc1 := of_decide_eq_true hc1
              have hbad : ¬ formB g := fun hf => by have h1 := two_q1 (q := g.q) (by have := form_q hf; omega); obtain ⟨f1, f2, f3, f4, f5⟩ := hf; omega
              refine JC.seq ?_
              refine JC.region ?_
              refine JL.asg ?_
              refine JL.nil ?_
              refine JQ.thenN ?_
              refine JC.ret ?_
              refine JQ.thenR ?_
              refine JQ.end1 (H' := []) (.inl rfl) rfl (.tmp rfl) ?_ ?_
              · exact Sub.k
              · first | rw [formE_bad hbad] | rw [formE_ok hok]
            · -- t38 False
              replace hc1 := of_decide_eq_false hc1
              have hq : g.q.toNat < 4294967296 := by omega
              have h1 := two_q1w hq
              have hok : formB g := ⟨by omega, by omega, by omega, by omega, by omega⟩
              refine JC.skip ?_
              refine JQ.thenN ?_
              refine JC.seq ?_
              refine JC.region ?_
              refine JL.asg ?_
              refine JL.nil ?_
              refine JQ.thenN ?_
              refine JC.ret ?_
              refine JQ.end1 (H' := []) (.inl rfl) rfl (.tmp rfl) ?_ ?_
              · exact Sub.k
              · first | rw [formE_bad hbad] | rw [formE_ok hok]

theorem gpower_any (a0 x0 m : UInt64) (hm1 : 2 ≤ m.toNat) (hm2 : m.toNat < 4294967296) (w : World) :
    Calls Tryd.prog 90 #[u64 a0, u64 x0, u64 m] w (Ret w (fun v _ => v = u64 (pw a0 x0 m))) := by
  refine enter (vs := [u64 a0, u64 x0, u64 m]) Tryd.func90 rfl Tryd.ntmps90 rfl ?_
  refine JC.seq ?_
  refine JC.region ?_
  refine JL.asg ?_
  refine JL.nil ?_
  refine JQ.thenN ?_
  refine JC.seq ?_
  refine JC.region ?_
  refine JL.asg ?_
  refine JL.nil ?_
  refine JQ.thenN ?_
  refine JC.seq ?_
  refine JC.seq ?_
  refine JC.region ?_
  refine JL.mv ?_
  refine JL.mv ?_
  refine JL.val rfl rfl rfl (.none rfl) (Ev.bin rfl rfl (rem_u64 (ne_zero64 (by omega)))) ?_
  refine JL.asg ?_
  refine JL.nil ?_
  refine JQ.thenN ?_
  refine JC.block ?_
  refine JC.loop (X := UInt64 × UInt64 × UInt64)
    (fun ⟨o, a, x⟩ => [(0, u64 a), (1, u64 x), (2, u64 m), (7, u64 o)])
    (fun ⟨o, a, x⟩ => [])
    (fun ⟨o, a, x⟩ => o.toNat < m.toNat ∧ a.toNat < m.toNat ∧ (o.toNat * a.toNat ^ x.toNat) % m.toNat = a0.toNat ^ x0.toNat % m.toNat)
    (fun ⟨o, a, x⟩ => x.toNat) (1, a0 % m, x0) ?_ ?_ ?_ ?_
  · exact Keeps.k
  · exact Sub.nil
  · exact ⟨by show (1 : Nat) < m.toNat; omega, by rw [UInt64.toNat_mod]; exact Nat.mod_lt _ (by omega), by rw [UInt64.toNat_mod]; show (1 * _) % _ = _; rw [Nat.one_mul, ← Nat.pow_mod]⟩
  rintro ⟨o, a, x⟩ ⟨hom, ham, hv⟩
  refine JC.seq ?_
  refine JC.seq ?_
  refine JC.region ?_
  refine JL.mv ?_
  refine JL.val rfl rfl rfl (.none rfl) (Ev.bin rfl rfl gtr_int) ?_
  refine JL.nil ?_
  refine JQ.thenN ?_
  refine JC.cond rfl (fun hc1 => ?_) (fun hc1 => ?_)
  · -- t12 True
    replace hc1 := of_decide_eq_true hc1
    have hx : 0 < x.toNat := by omega
    refine JC.skip ?_
    refine JQ.thenN ?_
    refine JC.seq ?_
    refine JC.block ?_
    refine JC.seq ?_
    refine JC.seq ?_
    refine JC.region ?_
    refine JL.mv ?_
    refine JL.val rfl rfl rfl (.none rfl) (Ev.bin rfl rfl (andu64 (y := 1))) ?_
    refine JL.val rfl rfl rfl (.none rfl) (Ev.bin rfl rfl eql_int) ?_
    refine JL.nil ?_
    refine JQ.thenN ?_
    refine JC.cond rfl (fun hc2 => ?_) (fun hc2 => ?_)
    · -- t17 True
      replace hc2 := of_decide_eq_true hc2
      have ho : x.toNat % 2 = 1 := by have := and1 x; omega
      refine JC.region ?_
      refine JL.mv ?_
      refine JL.mv ?_
      refine JL.val rfl rfl rfl (.none rfl) (Ev.bin rfl rfl mul_u64) ?_
      refine JL.mv ?_
      refine JL.val rfl rfl rfl (.none rfl) (Ev.bin rfl rfl (rem_u64 (ne_zero64 (by omega)))) ?_
      refine JL.asg ?_
      refine JL.nil ?_
      refine JQ.thenN ?_
      refine JC.region ?_
      refine JL.mv ?_
      refine JL.mv ?_
      refine JL.val rfl rfl rfl (.none rfl) (Ev.bin rfl rfl mul_u64) ?_
      refine JL.mv ?_
      refine JL.val rfl rfl rfl (.none rfl) (Ev.bin rfl rfl (rem_u64 (ne_zero64 (by omega)))) ?_
      refine JL.asg ?_
      refine JL.nil ?_
      refine JQ.blockN ?_
      refine JQ.thenN ?_
      refine JC.region ?_
      refine JL.mv ?_
      refine JL.val rfl rfl rfl (.none rfl) (Ev.bin rfl rfl (shr_u64 (n := 1) (by decide))) ?_
      refine JL.asg ?_
      refine JL.nil ?_
      refine JQ.loopN (o * a % m, a * a % m, x >>> UInt64.ofNat 1) ?_ ?_ ?_ ?_
      · exact Keeps.k
      · exact Sub.nil
      · exact ⟨by rw [UInt64.toNat_mod]; exact Nat.mod_lt _ (by omega), by rw [UInt64.toNat_mod]; exact Nat.mod_lt _ (by omega), by rw [mulmod hom ham hm2, mulmod ham ham hm2, shr1]; exact pow_odd ho hv⟩
      · show (x >>> UInt64.ofNat 1).toNat < x.toNat; rw [shr1]; omega
    · -- t17 False
      replace hc2 := of_decide_eq_false hc2
      have ho : x.toNat % 2 = 0 := by have := and1 x; omega
      refine JC.skip ?_
      refine JQ.thenN ?_
      refine JC.region ?_
      refine JL.mv ?_
      refine JL.mv ?_
      refine JL.val rfl rfl rfl (.none rfl) (Ev.bin rfl rfl mul_u64) ?_
      refine JL.mv ?_
      refine JL.val rfl rfl rfl (.none rfl) (Ev.bin rfl rfl (rem_u64 (ne_zero64 (by omega)))) ?_
      refine JL.asg ?_
      refine JL.nil ?_
      refine JQ.blockN ?_
      refine JQ.thenN ?_
      refine JC.region ?_
      refine JL.mv ?_
      refine JL.val rfl rfl rfl (.none rfl) (Ev.bin rfl rfl (shr_u64 (n := 1) (by decide))) ?_
      refine JL.asg ?_
      refine JL.nil ?_
      refine JQ.loopN (o, a * a % m, x >>> UInt64.ofNat 1) ?_ ?_ ?_ ?_
      · exact Keeps.k
      · exact Sub.nil
      · exact ⟨hom, by rw [UInt64.toNat_mod]; exact Nat.mod_lt _ (by omega), by rw [mulmod ham ham hm2, shr1]; exact pow_even ho hv⟩
      · show (x >>> UInt64.ofNat 1).toNat < x.toNat; rw [shr1]; omega
  · -- t12 False
    replace hc1 := of_decide_eq_false hc1
    have hx : x.toNat = 0 := by omega
    refine JC.exit ?_
    refine JQ.thenE ?_
    refine JQ.thenE ?_
    refine JQ.blockE ?_
    refine JQ.thenN ?_
    refine JC.seq ?_
    refine JC.region ?_
    refine JL.mv ?_
    refine JL.asg ?_
    refine JL.nil ?_
    refine JQ.thenN ?_
    refine JC.ret ?_
    refine JQ.end1 (H' := []) (.inl rfl) rfl (.tmp rfl) ?_ ?_
    · exact Sub.k
    · exact congrArg u64 (u64_of (by rw [hx, Nat.pow_zero, Nat.mul_one, Nat.mod_eq_of_lt hom] at hv; exact hv))

theorem gbelowC_any (n lim : UInt64) (bl : Nat) (w : World) (hm : Mem w ⟨bl, 0, none⟩ [u64 lim]) :
    Calls Tryd.prog 154 #[u64 n, .pointer (some ⟨bl, 0, none⟩)] w (Ret w (fun v _ => v = .bool (decide (n.toNat < lim.toNat)))) := by
  refine enter (vs := [u64 n, .pointer (some ⟨bl, 0, none⟩)]) Tryd.func154 rfl Tryd.ntmps154 rfl ?_
  refine JC.seq ?_
  refine JC.region ?_
  refine JL.asg ?_
  refine JL.nil ?_
  refine JQ.thenN ?_
  refine JC.seq ?_
  refine JC.region ?_
  refine JL.mv ?_
  refine JL.val rfl rfl rfl (.none rfl) (Ev.load1 rfl Tryd.underlying34 rfl ((Rds.old hm).at0 rfl)) ?_
  refine JL.val rfl rfl rfl (.none rfl) (Ev.bin rfl rfl lss_int) ?_
  refine JL.asg ?_
  refine JL.nil ?_
  refine JQ.thenN ?_
  refine JC.ret ?_
  refine JQ.end1 (H' := []) (.inl rfl) rfl (.tmp rfl) ?_ ?_
  · exact Sub.k
  · exact congrArg Value.bool (decide_eq_decide.2 (by omega))

theorem gbelow_any (lim : UInt64) (w : World) :
    Calls Tryd.prog 125 #[u64 lim] w (Ret w (fun v H => ∃ bl : Nat, v = .func (.func 154) #[] #[.pointer (some ⟨bl, 0, none⟩)] ∧ H = [(bl, Obj.cells #[u64 lim] 34 (0, 0))])) := by
  refine enter (vs := [u64 lim]) Tryd.func125 rfl Tryd.ntmps125 rfl ?_
  refine JC.seq ?_
  refine JC.region ?_
  refine JL.new rfl rfl rfl (.none rfl) (En.box1 rfl rfl) (fun b1 hb1 => ?_)
  refine JL.asg ?_
  refine JL.nil ?_
  refine JQ.thenN ?_
  refine JC.seq ?_
  refine JC.region ?_
  refine JL.val rfl rfl rfl (.none rfl) (Ev.makeFunc rfl) ?_
  refine JL.asg ?_
  refine JL.nil ?_
  refine JQ.thenN ?_
  refine JC.ret ?_
  refine JQ.end1 (H' := [(b1, Obj.cells #[u64 lim] 34 (0, 0))]) (.inl rfl) rfl (.tmp rfl) ?_ ?_
  · exact Sub.k
  · exact ⟨b1, rfl, rfl⟩

theorem gcheck_any (g : Gp) (lim : UInt64) (bl : Nat) (oa : Option Addr) (cap : Nat) (xs : List UInt64) (w : World) (hm : Mem w ⟨bl, 0, none⟩ [u64 lim]) (ha : Cs w oa xs.length cap (u64s xs)) (hl : xs.length ≤ 1000) :
    Calls Tryd.prog 124 #[.agg g.cl.toArray, .func (.func 154) #[] #[.pointer (some ⟨bl, 0, none⟩)], .slice oa xs.length cap] w (Ret w (fun v _ => v = .int .i64 (gcE g lim xs))) := by
  refine enter (vs := [.agg g.cl.toArray, .func (.func 154) #[] #[.pointer (some ⟨bl, 0, none⟩)], .slice oa xs.length cap]) Tryd.func124 rfl Tryd.ntmps124 rfl ?_
  refine JC.seq ?_
  refine JC.region ?_
  refine JL.new rfl rfl rfl (.none rfl) (En.boxA rfl) (fun b3 hb3 => ?_)
  refine JL.asg ?_
  refine JL.nil ?_
  refine JQ.thenN ?_
  refine JC.seq ?_
  refine JC.seq ?_
  refine JC.region ?_
  refine JL.val rfl rfl rfl (.none rfl) (Ev.lB Tryd.underlying53 Tryd.sizeOf53) ?_
  refine JL.callV rfl (.none rfl) rfl Tryd.call88 (fun w1 hw1 => gForm_any g w1) ?_
  refine JL.asg ?_
  refine JL.nil ?_
  refine JQ.thenN ?_
  refine JC.seq ?_
  refine JC.region ?_
  refine JL.mv ?_
  refine JL.val rfl rfl rfl (.none rfl) (Ev.bin rfl rfl neq_int) ?_
  refine JL.nil ?_
  refine JQ.thenN ?_
  refine JC.cond rfl (fun hc => ?_) (fun hc => ?_)
  · -- t13 True
    replace hc := of_decide_eq_true hc
    have hbad : ¬ formB g := fun h => by have := formE_ok h; omega
    refine JC.seq ?_
    refine JC.region ?_
    refine JL.mv ?_
    refine JL.asg ?_
    refine JL.nil ?_
    refine JQ.thenN ?_
    refine JC.ret ?_
    refine JQ.thenR ?_
    refine JQ.end1 (H' := []) (.inl rfl) rfl (.tmp rfl) ?_ ?_
    · exact Sub.k
    · first | rw [gcE_bad hbad, formE_bad hbad] | rw [gcE_gr hok (fun h => hq (h x (List.mem_of_getElem? hx)))] | rw [gcE_ok hok (all_get hall)]
  · -- t13 False
    replace hc := of_decide_eq_false hc
    have hok : formB g := Classical.byContradiction fun h => by have := formE_bad h; omega
    refine JC.skip ?_
    refine JQ.thenN ?_
    refine JC.seq ?_
    refine JC.seq ?_
    refine JC.region ?_
    refine JL.mv ?_
    refine JL.val rfl rfl rfl (.none rfl) (Ev.lenS rfl Tryd.underlying138) ?_
    refine JL.mv ?_
    refine JL.nil ?_
    refine JQ.thenN ?_
    refine JC.block ?_
    refine JC.loop (X := Nat)
      (fun i => [(3, .pointer (some ⟨b3, 0, none⟩)), (1, .func (.func 154) #[] #[.pointer (some ⟨bl, 0, none⟩)]), (15, .slice oa xs.length cap), (16, .int .i64 (xs.length : Int)), (17, .int .i64 (i : Int))])
      (fun i => [(b3, Obj.cells g.cl.toArray 53 (0, 0))])
      (fun i => i ≤ xs.length ∧ ∀ j x, j < i → xs[j]? = some x → x.toNat < lim.toNat)
      (fun i => xs.length - i) 0 ?_ ?_ ?_ ?_
    · exact Keeps.k
    · exact Sub.k
    · exact ⟨Nat.zero_le _, fun j x hj => by omega⟩
    rintro i ⟨hi, hall⟩
    refine JC.seq ?_
    refine JC.region ?_
    refine JL.val rfl rfl rfl (.none rfl) (Ev.bin rfl rfl lss_int) ?_
    refine JL.nil ?_
    refine JQ.thenN ?_
    refine JC.seq ?_
    refine JC.cond rfl (fun hc1 => ?_) (fun hc1 => ?_)
    · -- t18 True
      replace hc1 := of_decide_eq_true hc1
      obtain ⟨a, rfl⟩ := ha.get_some (by omega)
      obtain ⟨x, hx⟩ := get_some (l := xs) (k := i) (by omega)
      refine JC.skip ?_
      refine JQ.thenN ?_
      refine JC.seq ?_
      refine JC.block ?_
      refine JC.seq ?_
      refine JC.region ?_
      refine JL.val rfl rfl rfl (.none rfl) (Ev.idxS1 rfl rfl Tryd.underlying138 Tryd.sizeOf34 (k := i) rfl (by omega)) ?_
      refine JL.val rfl rfl rfl (.none rfl) (Ev.load1 rfl Tryd.underlying34 rfl ((Rds.old (ha.mem _ rfl)).at (k := i) (u64s_get hx))) ?_
      refine JL.asg ?_
      refine JL.nil ?_
      refine JQ.thenN ?_
      refine JC.seq ?_
      refine JC.region ?_
      refine JL.mv ?_
      refine JL.mv ?_
      refine JL.callCloV rfl (.none rfl) rfl rfl Tryd.call154 (fun w1 hw1 => gbelowC_any x lim bl w1 (hm.old hw1)) ?_
      refine JL.val rfl rfl rfl (.none rfl) (Ev.not rfl) ?_
      refine JL.nil ?_
      refine JQ.thenN ?_
      refine JC.cond rfl (fun hq => ?_) (fun hq => ?_)
      · -- t24 True
        have hq : ¬ x.toNat < lim.toNat := by simpa using hq
        refine JC.seq ?_
        refine JC.region ?_
        refine JL.asg ?_
        refine JL.nil ?_
        refine JQ.thenN ?_
        refine JC.ret ?_
        refine JQ.blockR ?_
        refine JQ.thenR ?_
        refine JQ.thenR ?_
        refine JQ.blockR ?_
        refine JQ.thenR ?_
        refine JQ.end1 (H' := []) (.inl rfl) rfl (.tmp rfl) ?_ ?_
        · exact Sub.k
        · first | rw [gcE_bad hbad, formE_bad hbad] | rw [gcE_gr hok (fun h => hq (h x (List.mem_of_getElem? hx)))] | rw [gcE_ok hok (all_get hall)]
      · -- t24 False
        have hq : x.toNat < lim.toNat := by simpa using hq
        refine JC.skip ?_
        refine JQ.blockN ?_
        refine JQ.thenN ?_
        refine JC.region ?_
        refine JL.val rfl rfl rfl (.none rfl) (Ev.bin rfl rfl (add_i64 (by omega))) ?_
        refine JL.mv ?_
        refine JL.nil ?_
        refine JQ.loopN (i + 1) ?_ ?_ ?_ ?_
        · exact Keeps.k
        · exact Sub.k
        · exact ⟨by omega, all_next hall hx hq⟩
        · show xs.length - (i + 1) < xs.length - i; omega
    · -- t18 False
      replace hc1 := of_decide_eq_false hc1
      obtain rfl : i = xs.length := by omega
      refine JC.exit ?_
      refine JQ.thenE ?_
      refine JQ.thenE ?_
      refine JQ.blockE ?_
      refine JQ.thenN ?_
      refine JC.seq ?_
      refine JC.region ?_
      refine JL.asg ?_
      refine JL.nil ?_
      refine JQ.thenN ?_
      refine JC.ret ?_
      refine JQ.end1 (H' := []) (.inl rfl) rfl (.tmp rfl) ?_ ?_
      · exact Sub.k
      · first | rw [gcE_bad hbad, formE_bad hbad] | rw [gcE_gr hok (fun h => hq (h x (List.mem_of_getElem? hx)))] | rw [gcE_ok hok (all_get hall)]

theorem gMulExp_any (g : Gp) (a b : UInt64) (w : World) :
    Calls Tryd.prog 134 #[.agg g.cl.toArray, u64 a, u64 b] w (Ret w (fun v _ => v = .tuple #[u64 (if gcE g g.q [a, b] = 0 then a * b % g.q else 0), .int .i64 (gcE g g.q [a, b])])) := by
  refine enter (vs := [.agg g.cl.toArray, u64 a, u64 b]) Tryd.func134 rfl Tryd.ntmps134 rfl ?_
  refine JC.seq ?_
  refine JC.region ?_
  refine JL.new rfl rfl rfl (.none rfl) (En.boxA rfl) (fun b3 hb3 => ?_)
  refine JL.asg ?_
  refine JL.asg ?_
  refine JL.nil ?_
  refine JQ.thenN ?_
  refine JC.seq ?_
  refine JC.seq ?_
  refine JC.cut (X := Unit) (fun _ => [(3, .pointer (some ⟨b3, 0, none⟩)), (1, u64 a), (2, u64 b), (8, .int .i64 (gcE g g.q [a, b]))]) (fun _ => [(b3, Obj.cells g.cl.toArray 53 (0, 0))]) ?_ ?_
  · refine JC.regionA (by kernel_rfl) ?_
    refine JA.mid (X := Nat × Nat) (fun ⟨bl, bs⟩ => True) (fun ⟨bl, bs⟩ => [(15, .slice (some ⟨bs, 0, none⟩) 2 2), (14, u64 b), (13, u64 a), (12, .func (.func 154) #[] #[.pointer (some ⟨bl, 0, none⟩)]), (11, u64 g.q), (10, .pointer (some ⟨b3, 0 + 1, none⟩)), (9, .agg g.cl.toArray), (3, .pointer (some ⟨b3, 0, none⟩)), (1, u64 a), (2, u64 b)]) (fun ⟨bl, bs⟩ => [(bs, Obj.cells #[u64 a, u64 b] 34 (0, 0)), (bl, Obj.cells #[u64 g.q] 34 (0, 0)), (b3, Obj.cells g.cl.toArray 53 (0, 0))]) 2 #[true, true, true, true, true, true, true, false, false] ?_ (fun hmid0 => ?_)
    · -- state [0, 1, 2, 3, 4, 5, 6]
      rintro ⟨bl, bs⟩ _
      refine JA.one 7 ?_
      refine JO.callV rfl (.none rfl) rfl Tryd.call124 (fun w1 hw1 => gcheck_any g g.q bl (some ⟨bs, 0, none⟩) 2 [a, b] w1 (own1 hw1 (by repeat (first | exact List.Mem.head _ | refine List.Mem.tail _ ?_ | refine List.mem_append_right _ ?_))) (cs_block (xs := u64s [a, b]) hw1 (by repeat (first | exact List.Mem.head _ | refine List.Mem.tail _ ?_ | refine List.mem_append_right _ ?_)) (show 2 ≤ 1000000 by decide)) (show 2 ≤ 1000 by decide)) ?_
      refine JA.tkc 8 rfl (.none rfl) (fun _ => (Ev.assign rfl)) ?_
      refine JA.done (by kernel_rfl) ?_
      refine JQ.cutN () ?_ ?_
      · exact Keeps.k
      · exact Sub.k
    refine JA.mid (X := Nat × Nat) (fun ⟨bl, bs⟩ => True) (fun ⟨bl, bs⟩ => [(14, u64 b), (13, u64 a), (12, .func (.func 154) #[] #[.pointer (some ⟨bl, 0, none⟩)]), (11, u64 g.q), (10, .pointer (some ⟨b3, 0 + 1, none⟩)), (9, .agg g.cl.toArray), (3, .pointer (some ⟨b3, 0, none⟩)), (1, u64 a), (2, u64 b)]) (fun ⟨bl, bs⟩ => [(bl, Obj.cells #[u64 g.q] 34 (0, 0)), (b3, Obj.cells g.cl.toArray 53 (0, 0))]) 3 #[true, true, true, true, true, true, false, false, false] ?_ (fun hmid1 => ?_)
    · -- state [0, 1, 2, 3, 4, 5]
      rintro ⟨bl, bs⟩ _
      refine JA.one 6 ?_
      refine JO.new rfl rfl rfl (.none rfl) (En.bsN (e := 34) rfl (fun _ => by kernel_rfl)) (fun b15 hb15 => ?_)
      obtain ⟨bs, rfl⟩ : ∃ b, b = b15 := ⟨_, rfl⟩
      exact JA.weak rfl (by kernel_rfl) (by exact Keeps.k) (by exact Sub.k) (hmid0 (bl, bs) (by trivial))
    refine JA.mid (X := Nat × Nat) (fun ⟨bl, bs⟩ => True) (fun ⟨bl, bs⟩ => [(15, .slice (some ⟨bs, 0, none⟩) 2 2), (14, u64 b), (13, u64 a), (11, u64 g.q), (10, .pointer (some ⟨b3, 0 + 1, none⟩)), (9, .agg g.cl.toArray), (3, .pointer (some ⟨b3, 0, none⟩)), (1, u64 a), (2, u64 b)]) (fun ⟨bl, bs⟩ => [(bs, Obj.cells #[u64 a, u64 b] 34 (0, 0)), (b3, Obj.cells g.cl.toArray 53 (0, 0))]) 3 #[true, true, true, false, true, true, true, false, false] ?_ (fun hmid2 => ?_)
    · -- state [0, 1, 2, 4, 5, 6]
      rintro ⟨bl, bs⟩ _
      refine JA.one 3 ?_
      refine JO.callN rfl (.none rfl) rfl Tryd.call125 (fun w1 hw1 => gbelow_any g.q w1) ?_
      rintro _ _ ⟨bl, rfl, rfl⟩
      exact JA.weak rfl (by kernel_rfl) (by exact Keeps.k) (by exact Sub.k) (hmid0 (bl, bs) (by trivial))
    refine JA.mid (X := Nat × Nat) (fun ⟨bl, bs⟩ => True) (fun ⟨bl, bs⟩ => [(15, .slice (some ⟨bs, 0, none⟩) 2 2), (14, u64 b), (13, u64 a), (12, .func (.func 154) #[] #[.pointer (some ⟨bl, 0, none⟩)]), (11, u64 g.q), (10, .pointer (some ⟨b3, 0 + 1, none⟩)), (3, .pointer (some ⟨b3, 0, none⟩)), (1, u64 a), (2, u64 b)]) (fun ⟨bl, bs⟩ => [(bs, Obj.cells #[u64 a, u64 b] 34 (0, 0)), (bl, Obj.cells #[u64 g.q] 34 (0, 0)), (b3, Obj.cells g.cl.toArray 53 (0, 0))]) 3 #[false, true, true, true, true, true, true, false, false] ?_ (fun hmid3 => ?_)
    · -- state [1, 2, 3, 4, 5, 6]
      rintro ⟨bl, bs⟩ _
      refine JA.one 0 ?_
      refine JO.val rfl rfl rfl (.none rfl) (Ev.lB Tryd.underlying53 Tryd.sizeOf53) ?_
      exact JA.weak rfl (by kernel_rfl) (by exact Keeps.k) (by exact Sub.k) (hmid0 (bl, bs) (by trivial))
    refine JA.mid (X := Nat × Nat) (fun ⟨bl, bs⟩ => True) (fun ⟨bl, bs⟩ => [(14, u64 b), (13, u64 a), (11, u64 g.q), (10, .pointer (some ⟨b3, 0 + 1, none⟩)), (9, .agg g.cl.toArray), (3, .pointer (some ⟨b3, 0, none⟩)), (1, u64 a), (2, u64 b)]) (fun ⟨bl, bs⟩ => [(b3, Obj.cells g.cl.toArray 53 (0, 0))]) 4 #[true, true, true, false, true, true, false, false, false] ?_ (fun hmid4 => ?_)
    · -- state [0, 1, 2, 4, 5]
      rintro ⟨bl, bs⟩ _
      refine JA.branch [3, 6] (by kernel_rfl) rfl ?_
      refine JAll.cons rfl ?_ ?_
      · -- 3
        refine JO.callN rfl (.none rfl) rfl Tryd.call125 (fun w1 hw1 => gbelow_any g.q w1) ?_
        rintro _ _ ⟨bl, rfl, rfl⟩
        exact JA.weak rfl (by kernel_rfl) (by exact Keeps.k) (by exact Sub.k) (hmid1 (bl, 0) (by trivial))
      refine JAll.cons rfl ?_ JAll.nil
      refine JO.new rfl rfl rfl (.none rfl) (En.bsN (e := 34) rfl (fun _ => by kernel_rfl)) (fun b15 hb15 => ?_)
      obtain ⟨bs, rfl⟩ : ∃ b, b = b15 := ⟨_, rfl⟩
      exact JA.weak rfl (by kernel_rfl) (by exact Keeps.k) (by exact Sub.k) (hmid2 (0, bs) (by trivial))
    refine JA.mid (X := Nat × Nat) (fun ⟨bl, bs⟩ => True) (fun ⟨bl, bs⟩ => [(15, .slice (some ⟨bs, 0, none⟩) 2 2), (14, u64 b), (13, u64 a), (10, .pointer (some ⟨b3, 0 + 1, none⟩)), (9, .agg g.cl.toArray), (3, .pointer (some ⟨b3, 0, none⟩)), (1, u64 a), (2, u64 b)]) (fun ⟨bl, bs⟩ => [(bs, Obj.cells #[u64 a, u64 b] 34 (0, 0)), (b3, Obj.cells g.cl.toArray 53 (0, 0))]) 4 #[true, true, false, false, true, true, true, false, false] ?_ (fun hmid5 => ?_)
    · -- state [0, 1, 4, 5, 6]
      rintro ⟨bl, bs⟩ _
      refine JA.one 2 ?_
      refine JO.val rfl rfl rfl (.none rfl) (Ev.load1 rfl Tryd.underlying34 rfl (Rd.own memK rfl)) ?_
      exact JA.weak rfl (by kernel_rfl) (by exact Keeps.k) (by exact Sub.k) (hmid2 (0, bs) (by trivial))
    refine JA.mid (X := Nat × Nat) (fun ⟨bl, bs⟩ => True) (fun ⟨bl, bs⟩ => [(14, u64 b), (13, u64 a), (12, .func (.func 154) #[] #[.pointer (some ⟨bl, 0, none⟩)]), (11, u64 g.q), (10, .pointer (some ⟨b3, 0 + 1, none⟩)), (3, .pointer (some ⟨b3, 0, none⟩)), (1, u64 a), (2, u64 b)]) (fun ⟨bl, bs⟩ => [(bl, Obj.cells #[u64 g.q] 34 (0, 0)), (b3, Obj.cells g.cl.toArray 53 (0, 0))]) 4 #[false, true, true, true, true, true, false, false, false] ?_ (fun hmid6 => ?_)
    · -- state [1, 2, 3, 4, 5]
      rintro ⟨bl, bs⟩ _
      refine JA.branch [0, 6] (by kernel_rfl) rfl ?_
      refine JAll.cons rfl ?_ ?_
      · -- 0
        refine JO.val rfl rfl rfl (.none rfl) (Ev.lB Tryd.underlying53 Tryd.sizeOf53) ?_
        exact JA.weak rfl (by kernel_rfl) (by exact Keeps.k) (by exact Sub.k) (hmid1 (bl, 0) (by trivial))
      refine JAll.cons rfl ?_ JAll.nil
      refine JO.new rfl rfl rfl (.none rfl) (En.bsN (e := 34) rfl (fun _ => by kernel_rfl)) (fun b15 hb15 => ?_)
      obtain ⟨bs, rfl⟩ : ∃ b, b = b15 := ⟨_, rfl⟩
      exact JA.weak rfl (by kernel_rfl) (by exact Keeps.k) (by exact Sub.k) (hmid3 (bl, bs) (by trivial))
    refine JA.mid (X := Nat × Nat) (fun ⟨bl, bs⟩ => True) (fun ⟨bl, bs⟩ => [(15, .slice (some ⟨bs, 0, none⟩) 2 2), (14, u64 b), (13, u64 a), (11, u64 g.q), (10, .pointer (some ⟨b3, 0 + 1, none⟩)), (3, .pointer (some ⟨b3, 0, none⟩)), (1, u64 a), (2, u64 b)]) (fun ⟨bl, bs⟩ => [(bs, Obj.cells #[u64 a, u64 b] 34 (0, 0)), (b3, Obj.cells g.cl.toArray 53 (0, 0))]) 4 #[false, true, true, false, true, true, true, false, false] ?_ (fun hmid7 => ?_)
    · -- state [1, 2, 4, 5, 6]
      rintro ⟨bl, bs⟩ _
      refine JA.branch [0, 3] (by kernel_rfl) rfl ?_
      refine JAll.cons rfl ?_ ?_
      · -- 0
        refine JO.val rfl rfl rfl (.none rfl) (Ev.lB Tryd.underlying53 Tryd.sizeOf53) ?_
        exact JA.weak rfl (by kernel_rfl) (by exact Keeps.k) (by exact Sub.k) (hmid2 (0, bs) (by trivial))
      refine JAll.cons rfl ?_ JAll.nil
      refine JO.callN rfl (.none rfl) rfl Tryd.call125 (fun w1 hw1 => gbelow_any g.q w1) ?_
      rintro _ _ ⟨bl, rfl, rfl⟩
      exact JA.weak rfl (by kernel_rfl) (by exact Keeps.k) (by exact Sub.k) (hmid3 (bl, bs) (by trivial))
    refine JA.mid (X := Nat × Nat) (fun ⟨bl, bs⟩ => True) (fun ⟨bl, bs⟩ => [(14, u64 b), (13, u64 a), (10, .pointer (some ⟨b3, 0 + 1, none⟩)), (9, .agg g.cl.toArray), (3, .pointer (some ⟨b3, 0, none⟩)), (1, u64 a), (2, u64 b)]) (fun ⟨bl, bs⟩ => [(b3, Obj.cells g.cl.toArray 53 (0, 0))]) 5 #[true, true, false, false, true, true, false, false, false] ?_ (fun hmid8 => ?_)
    · -- state [0, 1, 4, 5]
      rintro ⟨bl, bs⟩ _
      refine JA.branch [2, 6] (by kernel_rfl) rfl ?_
      refine JAll.cons rfl ?_ ?_
      · -- 2
        refine JO.val rfl rfl rfl (.none rfl) (Ev.load1 rfl Tryd.underlying34 rfl (Rd.own memK rfl)) ?_
        exact JA.weak rfl (by kernel_rfl) (by exact Keeps.k) (by exact Sub.k) (hmid4 (0, 0) (by trivial))
      refine JAll.cons rfl ?_ JAll.nil
      refine JO.new rfl rfl rfl (.none rfl) (En.bsN (e := 34) rfl (fun _ => by kernel_rfl)) (fun b15 hb15 => ?_)
      obtain ⟨bs, rfl⟩ : ∃ b, b = b15 := ⟨_, rfl⟩
      exact JA.weak rfl (by kernel_rfl) (by exact Keeps.k) (by exact Sub.k) (hmid5 (0, bs) (by trivial))
    refine JA.mid (X := Nat × Nat) (fun ⟨bl, bs⟩ => True) (fun ⟨bl, bs⟩ => [(14, u64 b), (13, u64 a), (11, u64 g.q), (10, .pointer (some ⟨b3, 0 + 1, none⟩)), (3, .pointer (some ⟨b3, 0, none⟩)), (1, u64 a), (2, u64 b)]) (fun ⟨bl, bs⟩ => [(b3, Obj.cells g.cl.toArray 53 (0, 0))]) 5 #[false, true, true, false, true, true, false, false, false] ?_ (fun hmid9 => ?_)
    · -- state [1, 2, 4, 5]
      rintro ⟨bl, bs⟩ _
      refine JA.branch [0, 3, 6] (by kernel_rfl) rfl ?_
      refine JAll.cons rfl ?_ ?_
      · -- 0
        refine JO.val rfl rfl rfl (.none rfl) (Ev.lB Tryd.underlying53 Tryd.sizeOf53) ?_
        exact JA.weak rfl (by kernel_rfl) (by exact Keeps.k) (by exact Sub.k) (hmid4 (0, 0) (by trivial))
      refine JAll.cons rfl ?_ ?_
      · -- 3
        refine JO.callN rfl (.none rfl) rfl Tryd.call125 (fun w1 hw1 => gbelow_any g.q w1) ?_
        rintro _ _ ⟨bl, rfl, rfl⟩
        exact JA.weak rfl (by kernel_rfl) (by exact Keeps.k) (by exact Sub.k) (hmid6 (bl, 0) (by trivial))
      refine JAll.cons rfl ?_ JAll.nil
      refine JO.new rfl rfl rfl (.none rfl) (En.bsN (e := 34) rfl (fun _ => by kernel_rfl)) (fun b15 hb15 => ?_)
      obtain ⟨bs, rfl⟩ : ∃ b, b = b15 := ⟨_, rfl⟩
      exact JA.weak rfl (by kernel_rfl) (by exact Keeps.k) (by exact Sub.k) (hmid7 (0, bs) (by trivial))
    refine JA.mid (X := Nat × Nat) (fun ⟨bl, bs⟩ => True) (fun ⟨bl, bs⟩ => [(15, .slice (some ⟨bs, 0, none⟩) 2 2), (14, u64 b), (13, u64 a), (10, .pointer (some ⟨b3, 0 + 1, none⟩)), (3, .pointer (some ⟨b3, 0, none⟩)), (1, u64 a), (2, u64 b)]) (fun ⟨bl, bs⟩ => [(bs, Obj.cells #[u64 a, u64 b] 34 (0, 0)), (b3, Obj.cells g.cl.toArray 53 (0, 0))]) 5 #[false, true, false, false, true, true, true, false, false] ?_ (fun hmid10 => ?_)
    · -- state [1, 4, 5, 6]
      rintro ⟨bl, bs⟩ _
      refine JA.branch [0, 2] (by kernel_rfl) rfl ?_
      refine JAll.cons rfl ?_ ?_
      · -- 0
        refine JO.val rfl rfl rfl (.none rfl) (Ev.lB Tryd.underlying53 Tryd.sizeOf53) ?_
        exact JA.weak rfl (by kernel_rfl) (by exact Keeps.k) (by exact Sub.k) (hmid5 (0, bs) (by trivial))
      refine JAll.cons rfl ?_ JAll.nil
      refine JO.val rfl rfl rfl (.none rfl) (Ev.load1 rfl Tryd.underlying34 rfl (Rd.own memK rfl)) ?_
      exact JA.weak rfl (by kernel_rfl) (by exact Keeps.k) (by exact Sub.k) (hmid7 (0, bs) (by trivial))
    refine JA.tkc 1 rfl (.none rfl) (fun _ => (Ev.fld 1 rfl (fun _ _ => by kernel_rfl))) ?_
    refine JA.tkc 4 rfl (.none rfl) (fun _ => (Ev.move rfl)) ?_
    refine JA.tkc 5 rfl (.none rfl) (fun _ => (Ev.move rfl)) ?_
    refine JA.branch [0, 2, 6] (by kernel_rfl) rfl ?_
    refine JAll.cons rfl ?_ ?_
    · -- 0
      refine JO.val rfl rfl rfl (.none rfl) (Ev.lB Tryd.underlying53 Tryd.sizeOf53) ?_
      exact JA.weak rfl (by kernel_rfl) (by exact Keeps.k) (by exact Sub.k) (hmid8 (0, 0) (by trivial))
    refine JAll.cons rfl ?_ ?_
    · -- 2
      refine JO.val rfl rfl rfl (.none rfl) (Ev.load1 rfl Tryd.underlying34 rfl (Rd.own memK rfl)) ?_
      exact JA.weak rfl (by kernel_rfl) (by exact Keeps.k) (by exact Sub.k) (hmid9 (0, 0) (by trivial))
    refine JAll.cons rfl ?_ JAll.nil
    refine JO.new rfl rfl rfl (.none rfl) (En.bsN (e := 34) rfl (fun _ => by kernel_rfl)) (fun b15 hb15 => ?_)
    obtain ⟨bs, rfl⟩ : ∃ b, b = b15 := ⟨_, rfl⟩
    exact JA.weak rfl (by kernel_rfl) (by exact Keeps.k) (by exact Sub.k) (hmid10 (0, bs) (by trivial))
  rintro _
  refine JQ.thenN ?_
  refine JC.seq ?_
  refine JC.region ?_
  refine JL.mv ?_
  refine JL.val rfl rfl rfl (.none rfl) (Ev.bin rfl rfl neq_int) ?_
  refine JL.nil ?_
  refine JQ.thenN ?_
  refine JC.cond rfl (fun hc => ?_) (fun hc => ?_)
  · -- t18 True
    replace hc := of_decide_eq_true hc
    have hne : ¬ gcE g g.q [a, b] = 0 := by omega
    refine JC.seq ?_
    refine JC.region ?_
    refine JL.mv ?_
    refine JL.asg ?_
    refine JL.asg ?_
    refine JL.nil ?_
    refine JQ.thenN ?_
    refine JC.ret ?_
    refine JQ.thenR ?_
    refine JQ.end2 (H' := []) (.inl rfl) rfl (.tmp rfl) (.tmp rfl) ?_ ?_
    · exact Sub.k
    · rw [if_neg hne]; rfl
  · -- t18 False
    replace hc := of_decide_eq_false hc
    have hz : gcE g g.q [a, b] = 0 := by omega
    obtain ⟨hok, hlt⟩ := gcE_zero hz
    have hfq := form_q hok
    obtain ⟨f1, f2, f3, f4, f5⟩ := hok
    refine JC.skip ?_
    refine JQ.thenN ?_
    refine JC.seq ?_
    refine JC.region ?_
    refine JL.mv ?_
    refine JL.mv ?_
    refine JL.val rfl rfl rfl (.none rfl) (Ev.bin rfl rfl mul_u64) ?_
    refine JL.val rfl rfl rfl (.none rfl) (Ev.fld 1 rfl (fun _ _ => by kernel_rfl)) ?_
    refine JL.val rfl rfl rfl (.none rfl) (Ev.load1 rfl Tryd.underlying34 rfl (Rd.own memK rfl)) ?_
    refine JL.val rfl rfl rfl (.none rfl) (Ev.bin rfl rfl (rem_u64 (ne_zero64 (by omega)))) ?_
    refine JL.asg ?_
    refine JL.asg ?_
    refine JL.nil ?_
    refine JQ.thenN ?_
    refine JC.ret ?_
    refine JQ.end2 (H' := []) (.inl rfl) rfl (.tmp rfl) (.tmp rfl) ?_ ?_
    · exact Sub.k
    · rw [if_pos hz, hz]

theorem gAddExp_any (g : Gp) (a b : UInt64) (w : World) :
    Calls Tryd.prog 135 #[.agg g.cl.toArray, u64 a, u64 b] w (Ret w (fun v _ => v = .tuple #[u64 (if gcE g g.q [a, b] = 0 then (a + b) % g.q else 0), .int .i64 (gcE g g.q [a, b])])) := by
  refine enter (vs := [.agg g.cl.toArray, u64 a, u64 b]) Tryd.func135 rfl Tryd.ntmps135 rfl ?_
  refine JC.seq ?_
  refine JC.region ?_
  refine JL.new rfl rfl rfl (.none rfl) (En.boxA rfl) (fun b3 hb3 => ?_)
  refine JL.asg ?_
  refine JL.asg ?_
  refine JL.nil ?_
  refine JQ.thenN ?_
  refine JC.seq ?_
  refine JC.seq ?_
  refine JC.cut (X := Unit) (fun _ => [(3, .pointer (some ⟨b3, 0, none⟩)), (1, u64 a), (2, u64 b), (8, .int .i64 (gcE g g.q [a, b]))]) (fun _ => [(b3, Obj.cells g.cl.toArray 53 (0, 0))]) ?_ ?_
  · refine JC.regionA (by kernel_rfl) ?_
    refine JA.mid (X := Nat × Nat) (fun ⟨bl, bs⟩ => True) (fun ⟨bl, bs⟩ => [(15, .slice (some ⟨bs, 0, none⟩) 2 2), (14, u64 b), (13, u64 a), (12, .func (.func 154) #[] #[.pointer (some ⟨bl, 0, none⟩)]), (11, u64 g.q), (10, .pointer (some ⟨b3, 0 + 1, none⟩)), (9, .agg g.cl.toArray), (3, .pointer (some ⟨b3, 0, none⟩)), (1, u64 a), (2, u64 b)]) (fun ⟨bl, bs⟩ => [(bs, Obj.cells #[u64 a, u64 b] 34 (0, 0)), (bl, Obj.cells #[u64 g.q] 34 (0, 0)), (b3, Obj.cells g.cl.toArray 53 (0, 0))]) 2 #[true, true, true, true, true, true, true, false, false] ?_ (fun hmid0 => ?_)
    · -- state [0, 1, 2, 3, 4, 5, 6]
      rintro ⟨bl, bs⟩ _
      refine JA.one 7 ?_
      refine JO.callV rfl (.none rfl) rfl Tryd.call124 (fun w1 hw1 => gcheck_any g g.q bl (some ⟨bs, 0, none⟩) 2 [a, b] w1 (own1 hw1 (by repeat (first | exact List.Mem.head _ | refine List.Mem.tail _ ?_ | refine List.mem_append_right _ ?_))) (cs_block (xs := u64s [a, b]) hw1 (by repeat (first | exact List.Mem.head _ | refine List.Mem.tail _ ?_ | refine List.mem_append_right _ ?_)) (show 2 ≤ 1000000 by decide)) (show 2 ≤ 1000 by decide)) ?_
      refine JA.tkc 8 rfl (.none rfl) (fun _ => (Ev.assign rfl)) ?_
      refine JA.done (by kernel_rfl) ?_
      refine JQ.cutN () ?_ ?_
      · exact Keeps.k
      · exact Sub.k
    refine JA.mid (X := Nat × Nat) (fun ⟨bl, bs⟩ => True) (fun ⟨bl, bs⟩ => [(14, u64 b), (13, u64 a), (12, .func (.func 154) #[] #[.pointer (some ⟨bl, 0, none⟩)]), (11, u64 g.q), (10, .pointer (some ⟨b3, 0 + 1, none⟩)), (9, .agg g.cl.toArray), (3, .pointer (some ⟨b3, 0, none⟩)), (1, u64 a), (2, u64 b)]) (fun ⟨bl, bs⟩ => [(bl, Obj.cells #[u64 g.q] 34 (0, 0)), (b3, Obj.cells g.cl.toArray 53 (0, 0))]) 3 #[true, true, true, true, true, true, false, false, false] ?_ (fun hmid1 => ?_)
    · -- state [0, 1, 2, 3, 4, 5]
      rintro ⟨bl, bs⟩ _
      refine JA.one 6 ?_
      refine JO.new rfl rfl rfl (.none rfl) (En.bsN (e := 34) rfl (fun _ => by kernel_rfl)) (fun b15 hb15 => ?_)
      obtain ⟨bs, rfl⟩ : ∃ b, b = b15 := ⟨_, rfl⟩
      exact JA.weak rfl (by kernel_rfl) (by exact Keeps.k) (by exact Sub.k) (hmid0 (bl, bs) (by trivial))
    refine JA.mid (X := Nat × Nat) (fun ⟨bl, bs⟩ => True) (fun ⟨bl, bs⟩ => [(15, .slice (some ⟨bs, 0, none⟩) 2 2), (14, u64 b), (13, u64 a), (11, u64 g.q), (10, .pointer (some ⟨b3, 0 + 1, none⟩)), (9, .agg g.cl.toArray), (3, .pointer (some ⟨b3, 0, none⟩)), (1, u64 a), (2, u64 b)]) (fun ⟨bl, bs⟩ => [(bs, Obj.cells #[u64 a, u64 b] 34 (0, 0)), (b3, Obj.cells g.cl.toArray 53 (0, 0))]) 3 #[true, true, true, false, true, true, true, false, false] ?_ (fun hmid2 => ?_)
    · -- state [0, 1, 2, 4, 5, 6]
      rintro ⟨bl, bs⟩ _
      refine JA.one 3 ?_
      refine JO.callN rfl (.none rfl) rfl Tryd.call125 (fun w1 hw1 => gbelow_any g.q w1) ?_
      rintro _ _ ⟨bl, rfl, rfl⟩
      exact JA.weak rfl (by kernel_rfl) (by exact Keeps.k) (by exact Sub.k) (hmid0 (bl, bs) (by trivial))
    refine JA.mid (X := Nat × Nat) (fun ⟨bl, bs⟩ => True) (fun ⟨bl, bs⟩ => [(15, .slice (some ⟨bs, 0, none⟩) 2 2), (14, u64 b), (13, u64 a), (12, .func (.func 154) #[] #[.pointer (some ⟨bl, 0, none⟩)]), (11, u64 g.q), (10, .pointer (some ⟨b3, 0 + 1, none⟩)), (3, .pointer (some ⟨b3, 0, none⟩)), (1, u64 a), (2, u64 b)]) (fun ⟨bl, bs⟩ => [(bs, Obj.cells #[u64 a, u64 b] 34 (0, 0)), (bl, Obj.cells #[u64 g.q] 34 (0, 0)), (b3, Obj.cells g.cl.toArray 53 (0, 0))]) 3 #[false, true, true, true, true, true, true, false, false] ?_ (fun hmid3 => ?_)
    · -- state [1, 2, 3, 4, 5, 6]
      rintro ⟨bl, bs⟩ _
      refine JA.one 0 ?_
      refine JO.val rfl rfl rfl (.none rfl) (Ev.lB Tryd.underlying53 Tryd.sizeOf53) ?_
      exact JA.weak rfl (by kernel_rfl) (by exact Keeps.k) (by exact Sub.k) (hmid0 (bl, bs) (by trivial))
    refine JA.mid (X := Nat × Nat) (fun ⟨bl, bs⟩ => True) (fun ⟨bl, bs⟩ => [(14, u64 b), (13, u64 a), (11, u64 g.q), (10, .pointer (some ⟨b3, 0 + 1, none⟩)), (9, .agg g.cl.toArray), (3, .pointer (some ⟨b3, 0, none⟩)), (1, u64 a), (2, u64 b)]) (fun ⟨bl, bs⟩ => [(b3, Obj.cells g.cl.toArray 53 (0, 0))]) 4 #[true, true, true, false, true, true, false, false, false] ?_ (fun hmid4 => ?_)
    · -- state [0, 1, 2, 4, 5]
      rintro ⟨bl, bs⟩ _
      refine JA.branch [3, 6] (by kernel_rfl) rfl ?_
      refine JAll.cons rfl ?_ ?_
      · -- 3
        refine JO.callN rfl (.none rfl) rfl Tryd.call125 (fun w1 hw1 => gbelow_any g.q w1) ?_
        rintro _ _ ⟨bl, rfl, rfl⟩
        exact JA.weak rfl (by kernel_rfl) (by exact Keeps.k) (by exact Sub.k) (hmid1 (bl, 0) (by trivial))
      refine JAll.cons rfl ?_ JAll.nil
      refine JO.new rfl rfl rfl (.none rfl) (En.bsN (e := 34) rfl (fun _ => by kernel_rfl)) (fun b15 hb15 => ?_)
      obtain ⟨bs, rfl⟩ : ∃ b, b = b15 := ⟨_, rfl⟩
      exact JA.weak rfl (by kernel_rfl) (by exact Keeps.k) (by exact Sub.k) (hmid2 (0, bs) (by trivial))
    refine JA.mid (X := Nat × Nat) (fun ⟨bl, bs⟩ => True) (fun ⟨bl, bs⟩ => [(15, .slice (some ⟨bs, 0, none⟩) 2 2), (14, u64 b), (13, u64 a), (10, .pointer (some ⟨b3, 0 + 1, none⟩)), (9, .agg g.cl.toArray), (3, .pointer (some ⟨b3, 0, none⟩)), (1, u64 a), (2, u64 b)]) (fun ⟨bl, bs⟩ => [(bs, Obj.cells #[u64 a, u64 b] 34 (0, 0)), (b3, Obj.cells g.cl.toArray 53 (0, 0))]) 4 #[true, true, false, false, true, true, true, false, false] ?_ (fun hmid5 => ?_)
    · -- state [0, 1, 4, 5, 6]
      rintro ⟨bl, bs⟩ _
      refine JA.one 2 ?_
      refine JO.val rfl rfl rfl (.none rfl) (Ev.load1 rfl Tryd.underlying34 rfl (Rd.own memK rfl)) ?_
      exact JA.weak rfl (by kernel_rfl) (by exact Keeps.k) (by exact Sub.k) (hmid2 (0, bs) (by trivial))
    refine JA.mid (X := Nat × Nat) (fun ⟨bl, bs⟩ => True) (fun ⟨bl, bs⟩ => [(14, u64 b), (13, u64 a), (12, .func (.func 154) #[] #[.pointer (some ⟨bl, 0, none⟩)]), (11, u64 g.q), (10, .pointer (some ⟨b3, 0 + 1, none⟩)), (3, .pointer (some ⟨b3, 0, none⟩)), (1, u64 a), (2, u64 b)]) (fun ⟨bl, bs⟩ => [(bl, Obj.cells #[u64 g.q] 34 (0, 0)), (b3, Obj.cells g.cl.toArray 53 (0, 0))]) 4 #[false, true, true, true, true, true, false, false, false] ?_ (fun hmid6 => ?_)
    · -- state [1, 2, 3, 4, 5]
      rintro ⟨bl, bs⟩ _
      refine JA.branch [0, 6] (by kernel_rfl) rfl ?_
      refine JAll.cons rfl ?_ ?_
      · -- 0
        refine JO.val rfl rfl rfl (.none rfl) (Ev.lB Tryd.underlying53 Tryd.sizeOf53) ?_
        exact JA.weak rfl (by kernel_rfl) (by exact Keeps.k) (by exact Sub.k) (hmid1 (bl, 0) (by trivial))
      refine JAll.cons rfl ?_ JAll.nil
      refine JO.new rfl rfl rfl (.none rfl) (En.bsN (e := 34) rfl (fun _ => by kernel_rfl)) (fun b15 hb15 => ?_)
      obtain ⟨bs, rfl⟩ : ∃ b, b = b15 := ⟨_, rfl⟩
      exact JA.weak rfl (by kernel_rfl) (by exact Keeps.k) (by exact Sub.k) (hmid3 (bl, bs) (by trivial))
    refine JA.mid (X := Nat × Nat) (fun ⟨bl, bs⟩ => True) (fun ⟨bl, bs⟩ => [(15, .slice (some ⟨bs, 0, none⟩) 2 2), (14, u64 b), (13, u64 a), (11, u64 g.q), (10, .pointer (some ⟨b3, 0 + 1, none⟩)), (3, .pointer (some ⟨b3, 0, none⟩)), (1, u64 a), (2, u64 b)]) (fun ⟨bl, bs⟩ => [(bs, Obj.cells #[u64 a, u64 b] 34 (0, 0)), (b3, Obj.cells g.cl.toArray 53 (0, 0))]) 4 #[false, true, true, false, true, true, true, false, false] ?_ (fun hmid7 => ?_)
    · -- state [1, 2, 4, 5, 6]
      rintro ⟨bl, bs⟩ _
      refine JA.branch [0, 3] (by kernel_rfl) rfl ?_
      refine JAll.cons rfl ?_ ?_
      · -- 0
        refine JO.val rfl rfl rfl (.none rfl) (Ev.lB Tryd.underlying53 Tryd.sizeOf53) ?_
        exact JA.weak rfl (by kernel_rfl) (by exact Keeps.k) (by exact Sub.k) (hmid2 (0, bs) (by trivial))
      refine JAll.cons rfl ?_ JAll.nil
      refine JO.callN rfl (.none rfl) rfl Tryd.call125 (fun w1 hw1 => gbelow_any g.q w1) ?_
      rintro _ _ ⟨bl, rfl, rfl⟩
      exact JA.weak rfl (by kernel_rfl) (by exact Keeps.k) (by exact Sub.k) (hmid3 (bl, bs) (by trivial))
    refine JA.mid (X := Nat × Nat) (fun ⟨bl, bs⟩ => True) (fun ⟨bl, bs⟩ => [(14, u64 b), (13, u64 a), (10, .pointer (some ⟨b3, 0 + 1, none⟩)), (9, .agg g.cl.toArray), (3, .pointer (some ⟨b3, 0, none⟩)), (1, u64 a), (2, u64 b)]) (fun ⟨bl, bs⟩ => [(b3, Obj.cells g.cl.toArray 53 (0, 0))]) 5 #[true, true, false, false, true, true, false, false, false] ?_ (fun hmid8 => ?_)
    · -- state [0, 1, 4, 5]
      rintro ⟨bl, bs⟩ _
      refine JA.branch [2, 6] (by kernel_rfl) rfl ?_
      refine JAll.cons rfl ?_ ?_
      · -- 2
        refine JO.val rfl rfl rfl (.none rfl) (Ev.load1 rfl Tryd.underlying34 rfl (Rd.own memK rfl)) ?_
        exact JA.weak rfl (by kernel_rfl) (by exact Keeps.k) (by exact Sub.k) (hmid4 (0, 0) (by trivial))
      refine JAll.cons rfl ?_ JAll.nil
      refine JO.new rfl rfl rfl (.none rfl) (En.bsN (e := 34) rfl (fun _ => by kernel_rfl)) (fun b15 hb15 => ?_)
      obtain ⟨bs, rfl⟩ : ∃ b, b = b15 := ⟨_, rfl⟩
      exact JA.weak rfl (by kernel_rfl) (by exact Keeps.k) (by exact Sub.k) (hmid5 (0, bs) (by trivial))
    refine JA.mid (X := Nat × Nat) (fun ⟨bl, bs⟩ => True) (fun ⟨bl, bs⟩ => [(14, u64 b), (13, u64 a), (11, u64 g.q), (10, .pointer (some ⟨b3, 0 + 1, none⟩)), (3, .pointer (some ⟨b3, 0, none⟩)), (1, u64 a), (2, u64 b)]) (fun ⟨bl, bs⟩ => [(b3, Obj.cells g.cl.toArray 53 (0, 0))]) 5 #[false, true, true, false, true, true, false, false, false] ?_ (fun hmid9 => ?_)
    · -- state [1, 2, 4, 5]
      rintro ⟨bl, bs⟩ _
      refine JA.branch [0, 3, 6] (by kernel_rfl) rfl ?_
      refine JAll.cons rfl ?_ ?_
      · -- 0
        refine JO.val rfl rfl rfl (.none rfl) (Ev.lB Tryd.underlying53 Tryd.sizeOf53) ?_
        exact JA.weak rfl (by kernel_rfl) (by exact Keeps.k) (by exact Sub.k) (hmid4 (0, 0) (by trivial))
      refine JAll.cons rfl ?_ ?_
      · -- 3
        refine JO.callN rfl (.none rfl) rfl Tryd.call125 (fun w1 hw1 => gbelow_any g.q w1) ?_
        rintro _ _ ⟨bl, rfl, rfl⟩
        exact JA.weak rfl (by kernel_rfl) (by exact Keeps.k) (by exact Sub.k) (hmid6 (bl, 0) (by trivial))
      refine JAll.cons rfl ?_ JAll.nil
      refine JO.new rfl rfl rfl (.none rfl) (En.bsN (e := 34) rfl (fun _ => by kernel_rfl)) (fun b15 hb15 => ?_)
      obtain ⟨bs, rfl⟩ : ∃ b, b = b15 := ⟨_, rfl⟩
      exact JA.weak rfl (by kernel_rfl) (by exact Keeps.k) (by exact Sub.k) (hmid7 (0, bs) (by trivial))
    refine JA.mid (X := Nat × Nat) (fun ⟨bl, bs⟩ => True) (fun ⟨bl, bs⟩ => [(15, .slice (some ⟨bs, 0, none⟩) 2 2), (14, u64 b), (13, u64 a), (10, .pointer (some ⟨b3, 0 + 1, none⟩)), (3, .pointer (some ⟨b3, 0, none⟩)), (1, u64 a), (2, u64 b)]) (fun ⟨bl, bs⟩ => [(bs, Obj.cells #[u64 a, u64 b] 34 (0, 0)), (b3, Obj.cells g.cl.toArray 53 (0, 0))]) 5 #[false, true, false, false, true, true, true, false, false] ?_ (fun hmid10 => ?_)
    · -- state [1, 4, 5, 6]
      rintro ⟨bl, bs⟩ _
      refine JA.branch [0, 2] (by kernel_rfl) rfl ?_
      refine JAll.cons rfl ?_ ?_
      · -- 0
        refine JO.val rfl rfl rfl (.none rfl) (Ev.lB Tryd.underlying53 Tryd.sizeOf53) ?_
        exact JA.weak rfl (by kernel_rfl) (by exact Keeps.k) (by exact Sub.k) (hmid5 (0, bs) (by trivial))
      refine JAll.cons rfl ?_ JAll.nil
      refine JO.val rfl rfl rfl (.none rfl) (Ev.load1 rfl Tryd.underlying34 rfl (Rd.own memK rfl)) ?_
      exact JA.weak rfl (by kernel_rfl) (by exact Keeps.k) (by exact Sub.k) (hmid7 (0, bs) (by trivial))
    refine JA.tkc 1 rfl (.none rfl) (fun _ => (Ev.fld 1 rfl (fun _ _ => by kernel_rfl))) ?_
    refine JA.tkc 4 rfl (.none rfl) (fun _ => (Ev.move rfl)) ?_
    refine JA.tkc 5 rfl (.none rfl) (fun _ => (Ev.move rfl)) ?_
    refine JA.branch [0, 2, 6] (by kernel_rfl) rfl ?_
    refine JAll.cons rfl ?_ ?_
    · -- 0
      refine JO.val rfl rfl rfl (.none rfl) (Ev.lB Tryd.underlying53 Tryd.sizeOf53) ?_
      exact JA.weak rfl (by kernel_rfl) (by exact Keeps.k) (by exact Sub.k) (hmid8 (0, 0) (by trivial))
    refine JAll.cons rfl ?_ ?_
    · -- 2
      refine JO.val rfl rfl rfl (.none rfl) (Ev.load1 rfl Tryd.underlying34 rfl (Rd.own memK rfl)) ?_
      exact JA.weak rfl (by kernel_rfl) (by exact Keeps.k) (by exact Sub.k) (hmid9 (0, 0) (by trivial))
    refine JAll.cons rfl ?_ JAll.nil
    refine JO.new rfl rfl rfl (.none rfl) (En.bsN (e := 34) rfl (fun _ => by kernel_rfl)) (fun b15 hb15 => ?_)
    obtain ⟨bs, rfl⟩ : ∃ b, b = b15 := ⟨_, rfl⟩
    exact JA.weak rfl (by kernel_rfl) (by exact Keeps.k) (by exact Sub.k) (hmid10 (0, bs) (by trivial))
  rintro _
  refine JQ.thenN ?_
  refine JC.seq ?_
  refine JC.region ?_
  refine JL.mv ?_
  refine JL.val rfl rfl rfl (.none rfl) (Ev.bin rfl rfl neq_int) ?_
  refine JL.nil ?_
  refine JQ.thenN ?_
  refine JC.cond rfl (fun hc => ?_) (fun hc => ?_)
  · -- t18 True
    replace hc := of_decide_eq_true hc
    have hne : ¬ gcE g g.q [a, b] = 0 := by omega
    refine JC.seq ?_
    refine JC.region ?_
    refine JL.mv ?_
    refine JL.asg ?_
    refine JL.asg ?_
    refine JL.nil ?_
    refine JQ.thenN ?_
    refine JC.ret ?_
    refine JQ.thenR ?_
    refine JQ.end2 (H' := []) (.inl rfl) rfl (.tmp rfl) (.tmp rfl) ?_ ?_
    · exact Sub.k
    · rw [if_neg hne]; rfl
  · -- t18 False
    replace hc := of_decide_eq_false hc
    have hz : gcE g g.q [a, b] = 0 := by omega
    obtain ⟨hok, hlt⟩ := gcE_zero hz
    have hfq := form_q hok
    obtain ⟨f1, f2, f3, f4, f5⟩ := hok
    refine JC.skip ?_
    refine JQ.thenN ?_
    refine JC.seq ?_
    refine JC.region ?_
    refine JL.mv ?_
    refine JL.mv ?_
    refine JL.val rfl rfl rfl (.none rfl) (Ev.bin rfl rfl add_u64) ?_
    refine JL.val rfl rfl rfl (.none rfl) (Ev.fld 1 rfl (fun _ _ => by kernel_rfl)) ?_
    refine JL.val rfl rfl rfl (.none rfl) (Ev.load1 rfl Tryd.underlying34 rfl (Rd.own memK rfl)) ?_
    refine JL.val rfl rfl rfl (.none rfl) (Ev.bin rfl rfl (rem_u64 (ne_zero64 (by omega)))) ?_
    refine JL.asg ?_
    refine JL.asg ?_
    refine JL.nil ?_
    refine JQ.thenN ?_
    refine JC.ret ?_
    refine JQ.end2 (H' := []) (.inl rfl) rfl (.tmp rfl) (.tmp rfl) ?_ ?_
    · exact Sub.k
    · rw [if_pos hz, hz]

theorem gPow_any (g : Gp) (a x : UInt64) (w : World) :
    Calls Tryd.prog 92 #[.agg g.cl.toArray, u64 a, u64 x] w (Ret w (fun v _ => v = .tuple #[u64 (if gcE g g.p [a] = 0 then pw a x g.p else 0), .int .i64 (gcE g g.p [a])])) := by
  refine enter (vs := [.agg g.cl.toArray, u64 a, u64 x]) Tryd.func92 rfl Tryd.ntmps92 rfl ?_
  refine JC.seq ?_
  refine JC.region ?_
  refine JL.new rfl rfl rfl (.none rfl) (En.boxA rfl) (fun b3 hb3 => ?_)
  refine JL.asg ?_
  refine JL.asg ?_
  refine JL.nil ?_
  refine JQ.thenN ?_
  refine JC.seq ?_
  refine JC.seq ?_
  refine JC.cut (X := Unit) (fun _ => [(3, .pointer (some ⟨b3, 0, none⟩)), (1, u64 a), (2, u64 x), (8, .int .i64 (gcE g g.p [a]))]) (fun _ => [(b3, Obj.cells g.cl.toArray 53 (0, 0))]) ?_ ?_
  · refine JC.regionA (by kernel_rfl) ?_
    refine JA.mid (X := Nat × Nat) (fun ⟨bl, bs⟩ => True) (fun ⟨bl, bs⟩ => [(14, .slice (some ⟨bs, 0, none⟩) 1 1), (13, u64 a), (12, .func (.func 154) #[] #[.pointer (some ⟨bl, 0, none⟩)]), (11, u64 g.p), (10, .pointer (some ⟨b3, 0 + 0, none⟩)), (9, .agg g.cl.toArray), (3, .pointer (some ⟨b3, 0, none⟩)), (1, u64 a), (2, u64 x)]) (fun ⟨bl, bs⟩ => [(bs, Obj.cells #[u64 a] 34 (0, 0)), (bl, Obj.cells #[u64 g.p] 34 (0, 0)), (b3, Obj.cells g.cl.toArray 53 (0, 0))]) 2 #[true, true, true, true, true, true, false, false] ?_ (fun hmid0 => ?_)
    · -- state [0, 1, 2, 3, 4, 5]
      rintro ⟨bl, bs⟩ _
      refine JA.one 6 ?_
      refine JO.callV rfl (.none rfl) rfl Tryd.call124 (fun w1 hw1 => gcheck_any g g.p bl (some ⟨bs, 0, none⟩) 1 [a] w1 (own1 hw1 (by repeat (first | exact List.Mem.head _ | refine List.Mem.tail _ ?_ | refine List.mem_append_right _ ?_))) (cs_block (xs := u64s [a]) hw1 (by repeat (first | exact List.Mem.head _ | refine List.Mem.tail _ ?_ | refine List.mem_append_right _ ?_)) (show 1 ≤ 1000000 by decide)) (show 1 ≤ 1000 by decide)) ?_
      refine JA.tkc 7 rfl (.none rfl) (fun _ => (Ev.assign rfl)) ?_
      refine JA.done (by kernel_rfl) ?_
      refine JQ.cutN () ?_ ?_
      · exact Keeps.k
      · exact Sub.k
    refine JA.mid (X := Nat × Nat) (fun ⟨bl, bs⟩ => True) (fun ⟨bl, bs⟩ => [(13, u64 a), (12, .func (.func 154) #[] #[.pointer (some ⟨bl, 0, none⟩)]), (11, u64 g.p), (10, .pointer (some ⟨b3, 0 + 0, none⟩)), (9, .agg g.cl.toArray), (3, .pointer (some ⟨b3, 0, none⟩)), (1, u64 a), (2, u64 x)]) (fun ⟨bl, bs⟩ => [(bl, Obj.cells #[u64 g.p] 34 (0, 0)), (b3, Obj.cells g.cl.toArray 53 (0, 0))]) 3 #[true, true, true, true, true, false, false, false] ?_ (fun hmid1 => ?_)
    · -- state [0, 1, 2, 3, 4]
      rintro ⟨bl, bs⟩ _
      refine JA.one 5 ?_
      refine JO.new rfl rfl rfl (.none rfl) (En.bsN (e := 34) rfl (fun _ => by kernel_rfl)) (fun b14 hb14 => ?_)
      obtain ⟨bs, rfl⟩ : ∃ b, b = b14 := ⟨_, rfl⟩
      exact JA.weak rfl (by kernel_rfl) (by exact Keeps.k) (by exact Sub.k) (hmid0 (bl, bs) (by trivial))
    refine JA.mid (X := Nat × Nat) (fun ⟨bl, bs⟩ => True) (fun ⟨bl, bs⟩ => [(14, .slice (some ⟨bs, 0, none⟩) 1 1), (13, u64 a), (11, u64 g.p), (10, .pointer (some ⟨b3, 0 + 0, none⟩)), (9, .agg g.cl.toArray), (3, .pointer (some ⟨b3, 0, none⟩)), (1, u64 a), (2, u64 x)]) (fun ⟨bl, bs⟩ => [(bs, Obj.cells #[u64 a] 34 (0, 0)), (b3, Obj.cells g.cl.toArray 53 (0, 0))]) 3 #[true, true, true, false, true, true, false, false] ?_ (fun hmid2 => ?_)
    · -- state [0, 1, 2, 4, 5]
      rintro ⟨bl, bs⟩ _
      refine JA.one 3 ?_
      refine JO.callN rfl (.none rfl) rfl Tryd.call125 (fun w1 hw1 => gbelow_any g.p w1) ?_
      rintro _ _ ⟨bl, rfl, rfl⟩
      exact JA.weak rfl (by kernel_rfl) (by exact Keeps.k) (by exact Sub.k) (hmid0 (bl, bs) (by trivial))
    refine JA.mid (X := Nat × Nat) (fun ⟨bl, bs⟩ => True) (fun ⟨bl, bs⟩ => [(14, .slice (some ⟨bs, 0, none⟩) 1 1), (13, u64 a), (12, .func (.func 154) #[] #[.pointer (some ⟨bl, 0, none⟩)]), (11, u64 g.p), (10, .pointer (some ⟨b3, 0 + 0, none⟩)), (3, .pointer (some ⟨b3, 0, none⟩)), (1, u64 a), (2, u64 x)]) (fun ⟨bl, bs⟩ => [(bs, Obj.cells #[u64 a] 34 (0, 0)), (bl, Obj.cells #[u64 g.p] 34 (0, 0)), (b3, Obj.cells g.cl.toArray 53 (0, 0))]) 3 #[false, true, true, true, true, true, false, false] ?_ (fun hmid3 => ?_)
    · -- state [1, 2, 3, 4, 5]
      rintro ⟨bl, bs⟩ _
      refine JA.one 0 ?_
      refine JO.val rfl rfl rfl (.none rfl) (Ev.lB Tryd.underlying53 Tryd.sizeOf53) ?_
      exact JA.weak rfl (by kernel_rfl) (by exact Keeps.k) (by exact Sub.k) (hmid0 (bl, bs) (by trivial))
    refine JA.mid (X := Nat × Nat) (fun ⟨bl, bs⟩ => True) (fun ⟨bl, bs⟩ => [(13, u64 a), (11, u64 g.p), (10, .pointer (some ⟨b3, 0 + 0, none⟩)), (9, .agg g.cl.toArray), (3, .pointer (some ⟨b3, 0, none⟩)), (1, u64 a), (2, u64 x)]) (fun ⟨bl, bs⟩ => [(b3, Obj.cells g.cl.toArray 53 (0, 0))]) 4 #[true, true, true, false, true, false, false, false] ?_ (fun hmid4 => ?_)
    · -- state [0, 1, 2, 4]
      rintro ⟨bl, bs⟩ _
      refine JA.branch [3, 5] (by kernel_rfl) rfl ?_
      refine JAll.cons rfl ?_ ?_
      · -- 3
        refine JO.callN rfl (.none rfl) rfl Tryd.call125 (fun w1 hw1 => gbelow_any g.p w1) ?_
        rintro _ _ ⟨bl, rfl, rfl⟩
        exact JA.weak rfl (by kernel_rfl) (by exact Keeps.k) (by exact Sub.k) (hmid1 (bl, 0) (by trivial))
      refine JAll.cons rfl ?_ JAll.nil
      refine JO.new rfl rfl rfl (.none rfl) (En.bsN (e := 34) rfl (fun _ => by kernel_rfl)) (fun b14 hb14 => ?_)
      obtain ⟨bs, rfl⟩ : ∃ b, b = b14 := ⟨_, rfl⟩
      exact JA.weak rfl (by kernel_rfl) (by exact Keeps.k) (by exact Sub.k) (hmid2 (0, bs) (by trivial))
    refine JA.mid (X := Nat × Nat) (fun ⟨bl, bs⟩ => True) (fun ⟨bl, bs⟩ => [(14, .slice (some ⟨bs, 0, none⟩) 1 1), (13, u64 a), (10, .pointer (some ⟨b3, 0 + 0, none⟩)), (9, .agg g.cl.toArray), (3, .pointer (some ⟨b3, 0, none⟩)), (1, u64 a), (2, u64 x)]) (fun ⟨bl, bs⟩ => [(bs, Obj.cells #[u64 a] 34 (0, 0)), (b3, Obj.cells g.cl.toArray 53 (0, 0))]) 4 #[true, true, false, false, true, true, false, false] ?_ (fun hmid5 => ?_)
    · -- state [0, 1, 4, 5]
      rintro ⟨bl, bs⟩ _
      refine JA.one 2 ?_
      refine JO.val rfl rfl rfl (.none rfl) (Ev.load1 rfl Tryd.underlying34 rfl (Rd.own memK rfl)) ?_
      exact JA.weak rfl (by kernel_rfl) (by exact Keeps.k) (by exact Sub.k) (hmid2 (0, bs) (by trivial))
    refine JA.mid (X := Nat × Nat) (fun ⟨bl, bs⟩ => True) (fun ⟨bl, bs⟩ => [(13, u64 a), (12, .func (.func 154) #[] #[.pointer (some ⟨bl, 0, none⟩)]), (11, u64 g.p), (10, .pointer (some ⟨b3, 0 + 0, none⟩)), (3, .pointer (some ⟨b3, 0, none⟩)), (1, u64 a), (2, u64 x)]) (fun ⟨bl, bs⟩ => [(bl, Obj.cells #[u64 g.p] 34 (0, 0)), (b3, Obj.cells g.cl.toArray 53 (0, 0))]) 4 #[false, true, true, true, true, false, false, false] ?_ (fun hmid6 => ?_)
    · -- state [1, 2, 3, 4]
      rintro ⟨bl, bs⟩ _
      refine JA.branch [0, 5] (by kernel_rfl) rfl ?_
      refine JAll.cons rfl ?_ ?_
      · -- 0
        refine JO.val rfl rfl rfl (.none rfl) (Ev.lB Tryd.underlying53 Tryd.sizeOf53) ?_
        exact JA.weak rfl (by kernel_rfl) (by exact Keeps.k) (by exact Sub.k) (hmid1 (bl, 0) (by trivial))
      refine JAll.cons rfl ?_ JAll.nil
      refine JO.new rfl rfl rfl (.none rfl) (En.bsN (e := 34) rfl (fun _ => by kernel_rfl)) (fun b14 hb14 => ?_)
      obtain ⟨bs, rfl⟩ : ∃ b, b = b14 := ⟨_, rfl⟩
      exact JA.weak rfl (by kernel_rfl) (by exact Keeps.k) (by exact Sub.k) (hmid3 (bl, bs) (by trivial))
    refine JA.mid (X := Nat × Nat) (fun ⟨bl, bs⟩ => True) (fun ⟨bl, bs⟩ => [(14, .slice (some ⟨bs, 0, none⟩) 1 1), (13, u64 a), (11, u64 g.p), (10, .pointer (some ⟨b3, 0 + 0, none⟩)), (3, .pointer (some ⟨b3, 0, none⟩)), (1, u64 a), (2, u64 x)]) (fun ⟨bl, bs⟩ => [(bs, Obj.cells #[u64 a] 34 (0, 0)), (b3, Obj.cells g.cl.toArray 53 (0, 0))]) 4 #[false, true, true, false, true, true, false, false] ?_ (fun hmid7 => ?_)
    · -- state [1, 2, 4, 5]
      rintro ⟨bl, bs⟩ _
      refine JA.branch [0, 3] (by kernel_rfl) rfl ?_
      refine JAll.cons rfl ?_ ?_
      · -- 0
        refine JO.val rfl rfl rfl (.none rfl) (Ev.lB Tryd.underlying53 Tryd.sizeOf53) ?_
        exact JA.weak rfl (by kernel_rfl) (by exact Keeps.k) (by exact Sub.k) (hmid2 (0, bs) (by trivial))
      refine JAll.cons rfl ?_ JAll.nil
      refine JO.callN rfl (.none rfl) rfl Tryd.call125 (fun w1 hw1 => gbelow_any g.p w1) ?_
      rintro _ _ ⟨bl, rfl, rfl⟩
      exact JA.weak rfl (by kernel_rfl) (by exact Keeps.k) (by exact Sub.k) (hmid3 (bl, bs) (by trivial))
    refine JA.mid (X := Nat × Nat) (fun ⟨bl, bs⟩ => True) (fun ⟨bl, bs⟩ => [(13, u64 a), (10, .pointer (some ⟨b3, 0 + 0, none⟩)), (9, .agg g.cl.toArray), (3, .pointer (some ⟨b3, 0, none⟩)), (1, u64 a), (2, u64 x)]) (fun ⟨bl, bs⟩ => [(b3, Obj.cells g.cl.toArray 53 (0, 0))]) 5 #[true, true, false, false, true, false, false, false] ?_ (fun hmid8 => ?_)
    · -- state [0, 1, 4]
      rintro ⟨bl, bs⟩ _
      refine JA.branch [2, 5] (by kernel_rfl) rfl ?_
      refine JAll.cons rfl ?_ ?_
      · -- 2
        refine JO.val rfl rfl rfl (.none rfl) (Ev.load1 rfl Tryd.underlying34 rfl (Rd.own memK rfl)) ?_
        exact JA.weak rfl (by kernel_rfl) (by exact Keeps.k) (by exact Sub.k) (hmid4 (0, 0) (by trivial))
      refine JAll.cons rfl ?_ JAll.nil
      refine JO.new rfl rfl rfl (.none rfl) (En.bsN (e := 34) rfl (fun _ => by kernel_rfl)) (fun b14 hb14 => ?_)
      obtain ⟨bs, rfl⟩ : ∃ b, b = b14 := ⟨_, rfl⟩
      exact JA.weak rfl (by kernel_rfl) (by exact Keeps.k) (by exact Sub.k) (hmid5 (0, bs) (by trivial))
    refine JA.mid (X := Nat × Nat) (fun ⟨bl, bs⟩ => True) (fun ⟨bl, bs⟩ => [(13, u64 a), (11, u64 g.p), (10, .pointer (some ⟨b3, 0 + 0, none⟩)), (3, .pointer (some ⟨b3, 0, none⟩)), (1, u64 a), (2, u64 x)]) (fun ⟨bl, bs⟩ => [(b3, Obj.cells g.cl.toArray 53 (0, 0))]) 5 #[false, true, true, false, true, false, false, false] ?_ (fun hmid9 => ?_)
    · -- state [1, 2, 4]
      rintro ⟨bl, bs⟩ _
      refine JA.branch [0, 3, 5] (by kernel_rfl) rfl ?_
      refine JAll.cons rfl ?_ ?_
      · -- 0
        refine JO.val rfl rfl rfl (.none rfl) (Ev.lB Tryd.underlying53 Tryd.sizeOf53) ?_
        exact JA.weak rfl (by kernel_rfl) (by exact Keeps.k) (by exact Sub.k) (hmid4 (0, 0) (by trivial))
      refine JAll.cons rfl ?_ ?_
      · -- 3
        refine JO.callN rfl (.none rfl) rfl Tryd.call125 (fun w1 hw1 => gbelow_any g.p w1) ?_
        rintro _ _ ⟨bl, rfl, rfl⟩
        exact JA.weak rfl (by kernel_rfl) (by exact Keeps.k) (by exact Sub.k) (hmid6 (bl, 0) (by trivial))
      refine JAll.cons rfl ?_ JAll.nil
      refine JO.new rfl rfl rfl (.none rfl) (En.bsN (e := 34) rfl (fun _ => by kernel_rfl)) (fun b14 hb14 => ?_)
      obtain ⟨bs, rfl⟩ : ∃ b, b = b14 := ⟨_, rfl⟩
      exact JA.weak rfl (by kernel_rfl) (by exact Keeps.k) (by exact Sub.k) (hmid7 (0, bs) (by trivial))
    refine JA.mid (X := Nat × Nat) (fun ⟨bl, bs⟩ => True) (fun ⟨bl, bs⟩ => [(14, .slice (some ⟨bs, 0, none⟩) 1 1), (13, u64 a), (10, .pointer (some ⟨b3, 0 + 0, none⟩)), (3, .pointer (some ⟨b3, 0, none⟩)), (1, u64 a), (2, u64 x)]) (fun ⟨bl, bs⟩ => [(bs, Obj.cells #[u64 a] 34 (0, 0)), (b3, Obj.cells g.cl.toArray 53 (0, 0))]) 5 #[false, true, false, false, true, true, false, false] ?_ (fun hmid10 => ?_)
    · -- state [1, 4, 5]
      rintro ⟨bl, bs⟩ _
      refine JA.branch [0, 2] (by kernel_rfl) rfl ?_
      refine JAll.cons rfl ?_ ?_
      · -- 0
        refine JO.val rfl rfl rfl (.none rfl) (Ev.lB Tryd.underlying53 Tryd.sizeOf53) ?_
        exact JA.weak rfl (by kernel_rfl) (by exact Keeps.k) (by exact Sub.k) (hmid5 (0, bs) (by trivial))
      refine JAll.cons rfl ?_ JAll.nil
      refine JO.val rfl rfl rfl (.none rfl) (Ev.load1 rfl Tryd.underlying34 rfl (Rd.own memK rfl)) ?_
      exact JA.weak rfl (by kernel_rfl) (by exact Keeps.k) (by exact Sub.k) (hmid7 (0, bs) (by trivial))
    refine JA.tkc 1 rfl (.none rfl) (fun _ => (Ev.fld 0 rfl (fun _ _ => by kernel_rfl))) ?_
    refine JA.tkc 4 rfl (.none rfl) (fun _ => (Ev.move rfl)) ?_
    refine JA.branch [0, 2, 5] (by kernel_rfl) rfl ?_
    refine JAll.cons rfl ?_ ?_
    · -- 0
      refine JO.val rfl rfl rfl (.none rfl) (Ev.lB Tryd.underlying53 Tryd.sizeOf53) ?_
      exact JA.weak rfl (by kernel_rfl) (by exact Keeps.k) (by exact Sub.k) (hmid8 (0, 0) (by trivial))
    refine JAll.cons rfl ?_ ?_
    · -- 2
      refine JO.val rfl rfl rfl (.none rfl) (Ev.load1 rfl Tryd.underlying34 rfl (Rd.own memK rfl)) ?_
      exact JA.weak rfl (by kernel_rfl) (by exact Keeps.k) (by exact Sub.k) (hmid9 (0, 0) (by trivial))
    refine JAll.cons rfl ?_ JAll.nil
    refine JO.new rfl rfl rfl (.none rfl) (En.bsN (e := 34) rfl (fun _ => by kernel_rfl)) (fun b14 hb14 => ?_)
    obtain ⟨bs, rfl⟩ : ∃ b, b = b14 := ⟨_, rfl⟩
    exact JA.weak rfl (by kernel_rfl) (by exact Keeps.k) (by exact Sub.k) (hmid10 (0, bs) (by trivial))
  rintro _
  refine JQ.thenN ?_
  refine JC.seq ?_
  refine JC.region ?_
  refine JL.mv ?_
  refine JL.val rfl rfl rfl (.none rfl) (Ev.bin rfl rfl neq_int) ?_
  refine JL.nil ?_
  refine JQ.thenN ?_
  refine JC.cond rfl (fun hc => ?_) (fun hc => ?_)
  · -- t17 True
    replace hc := of_decide_eq_true hc
    have hne : ¬ gcE g g.p [a] = 0 := by omega
    refine JC.seq ?_
    refine JC.region ?_
    refine JL.mv ?_
    refine JL.asg ?_
    refine JL.asg ?_
    refine JL.nil ?_
    refine JQ.thenN ?_
    refine JC.ret ?_
    refine JQ.thenR ?_
    refine JQ.end2 (H' := []) (.inl rfl) rfl (.tmp rfl) (.tmp rfl) ?_ ?_
    · exact Sub.k
    · rw [if_neg hne]; rfl
  · -- t17 False
    replace hc := of_decide_eq_false hc
    have hz : gcE g g.p [a] = 0 := by omega
    obtain ⟨hok, hlt⟩ := gcE_zero hz
    have hfq := form_q hok
    obtain ⟨f1, f2, f3, f4, f5⟩ := hok
    refine JC.skip ?_
    refine JQ.thenN ?_
    refine JC.seq ?_
    refine JC.region ?_
    refine JL.mv ?_
    refine JL.mv ?_
    refine JL.val rfl rfl rfl (.none rfl) (Ev.fld 0 rfl (fun _ _ => by kernel_rfl)) ?_
    refine JL.val rfl rfl rfl (.none rfl) (Ev.load1 rfl Tryd.underlying34 rfl (Rd.own memK rfl)) ?_
    refine JL.callV rfl (.none rfl) rfl Tryd.call90 (fun w1 hw1 => gpower_any a x g.p (by omega) (by omega) w1) ?_
    refine JL.asg ?_
    refine JL.asg ?_
    refine JL.nil ?_
    refine JQ.thenN ?_
    refine JC.ret ?_
    refine JQ.end2 (H' := []) (.inl rfl) rfl (.tmp rfl) (.tmp rfl) ?_ ?_
    · exact Sub.k
    · rw [if_pos hz, hz]

theorem gFromDigest_any (g : Gp) (d : Dig) (w : World) :
    Calls Tryd.prog 95 #[.agg g.cl.toArray, .agg (arr8 d.1)] w (Ret w (fun v _ => v = .tuple #[u64 (fdg g d.1), .int .i64 (formE g)])) := by
  refine enter (vs := [.agg g.cl.toArray, .agg (arr8 d.1)]) Tryd.func95 rfl Tryd.ntmps95 rfl ?_
  refine JC.seq ?_
  refine JC.region ?_
  refine JL.new rfl rfl rfl (.none rfl) (En.boxA rfl) (fun b2 hb2 => ?_)
  refine JL.new rfl rfl rfl (.none rfl) (En.boxA rfl) (fun b3 hb3 => ?_)
  refine JL.asg ?_
  refine JL.asg ?_
  refine JL.nil ?_
  refine JQ.thenN ?_
  refine JC.seq ?_
  refine JC.seq ?_
  refine JC.region ?_
  refine JL.val rfl rfl rfl (.none rfl) (Ev.lB Tryd.underlying53 Tryd.sizeOf53) ?_
  refine JL.callV rfl (.none rfl) rfl Tryd.call88 (fun w1 hw1 => gForm_any g w1) ?_
  refine JL.asg ?_
  refine JL.nil ?_
  refine JQ.thenN ?_
  refine JC.seq ?_
  refine JC.region ?_
  refine JL.mv ?_
  refine JL.val rfl rfl rfl (.none rfl) (Ev.bin rfl rfl neq_int) ?_
  refine JL.nil ?_
  refine JQ.thenN ?_
  refine JC.cond rfl (fun hc => ?_) (fun hc => ?_)
  · -- t13 True
    replace hc := of_decide_eq_true hc
    have hbad : ¬ formB g := fun h => by have := formE_ok h; omega
    refine JC.seq ?_
    refine JC.region ?_
    refine JL.mv ?_
    refine JL.asg ?_
    refine JL.asg ?_
    refine JL.nil ?_
    refine JQ.thenN ?_
    refine JC.ret ?_
    refine JQ.thenR ?_
    refine JQ.end2 (H' := []) (.inl rfl) rfl (.tmp rfl) (.tmp rfl) ?_ ?_
    · exact Sub.k
    · rw [fdg, if_neg hbad]; rfl
  · -- t13 False
    replace hc := of_decide_eq_false hc
    have hok : formB g := Classical.byContradiction fun h => by have := formE_bad h; omega
    refine JC.skip ?_
    refine JQ.thenN ?_
    refine JC.seq ?_
    refine JC.region ?_
    refine JL.asg ?_
    refine JL.nil ?_
    refine JQ.thenN ?_
    refine JC.seq ?_
    refine JC.seq ?_
    refine JC.region ?_
    refine JL.val rfl rfl rfl (.none rfl) (Ev.sliceAHi rfl rfl Tryd.underlying33 Tryd.sizeOf5 (h := 8) rfl (by decide)) ?_
    refine JL.val rfl rfl rfl (.none rfl) (Ev.lenS rfl Tryd.underlying28) ?_
    refine JL.mv ?_
    refine JL.nil ?_
    refine JQ.thenN ?_
    refine JC.block ?_
    refine JC.loop (X := Nat × UInt64)
      (fun ⟨i, n⟩ => [(2, .pointer (some ⟨b2, 0, none⟩)), (7, u64 n), (15, .slice (some ⟨b3, 0, none⟩) 8 32), (16, .int .i64 8), (17, .int .i64 (i : Int))])
      (fun ⟨i, n⟩ => [(b3, Obj.cells (arr8 d.1) 33 (0, 0)), (b2, Obj.cells g.cl.toArray 53 (0, 0))])
      (fun ⟨i, n⟩ => i ≤ 8 ∧ n = hN ((d.1.take 8).take i))
      (fun ⟨i, n⟩ => 8 - i) (0, 0) ?_ ?_ ?_ ?_
    · exact Keeps.k
    · exact Sub.k
    · exact ⟨Nat.zero_le _, rfl⟩
    rintro ⟨i, n⟩ ⟨hi, hn⟩
    refine JC.seq ?_
    refine JC.region ?_
    refine JL.val rfl rfl rfl (.none rfl) (Ev.bin rfl rfl lss_int) ?_
    refine JL.nil ?_
    refine JQ.thenN ?_
    refine JC.seq ?_
    refine JC.cond rfl (fun hc1 => ?_) (fun hc1 => ?_)
    · -- t18 True
      replace hc1 := of_decide_eq_true hc1
      obtain ⟨x, hx⟩ := get_some (l := d.1.take 8) (k := i) (by rw [List.length_take, d.2]; omega)
      have hxd : d.1[i]? = some x := by rw [List.getElem?_take] at hx; split at hx; exact hx; cases hx
      refine JC.skip ?_
      refine JQ.thenN ?_
      refine JC.seq ?_
      refine JC.block ?_
      refine JC.seq ?_
      refine JC.region ?_
      refine JL.val rfl rfl rfl (.none rfl) (Ev.idxS0 rfl rfl Tryd.underlying28 Tryd.sizeOf5 (k := i) rfl (by omega)) ?_
      refine JL.val rfl rfl rfl (.none rfl) (Ev.load1 rfl Tryd.underlying5 rfl (Rd.own memK (arr8_get hxd))) ?_
      refine JL.asg ?_
      refine JL.nil ?_
      refine JQ.thenN ?_
      refine JC.region ?_
      refine JL.mv ?_
      refine JL.val rfl rfl rfl (.none rfl) (Ev.bin rfl rfl (shl_u64 (n := 8) (by decide))) ?_
      refine JL.mv ?_
      refine JL.val rfl rfl rfl (.none rfl) (Ev.conv rfl (conv_u8_u64 Tryd.underlying5 Tryd.underlying34)) ?_
      refine JL.val rfl rfl rfl (.none rfl) (Ev.bin rfl rfl or_u64) ?_
      refine JL.asg ?_
      refine JL.nil ?_
      refine JQ.blockN ?_
      refine JQ.thenN ?_
      refine JC.region ?_
      refine JL.val rfl rfl rfl (.none rfl) (Ev.bin rfl rfl (add_i64 (by omega))) ?_
      refine JL.mv ?_
      refine JL.nil ?_
      refine JQ.loopN (i + 1, n <<< UInt64.ofNat 8 ||| x.toUInt64) ?_ ?_ ?_ ?_
      · exact Keeps.k
      · exact Sub.k
      · exact ⟨by omega, by rw [hN_succ hx, hn]⟩
      · show 8 - (i + 1) < 8 - i; omega
    · -- t18 False
      replace hc1 := of_decide_eq_false hc1
      obtain rfl : i = 8 := by omega
      refine JC.exit ?_
      refine JQ.thenE ?_
      refine JQ.thenE ?_
      refine JQ.blockE ?_
      refine JQ.thenN ?_
      refine JC.seq ?_
      refine JC.region ?_
      refine JL.mv ?_
      refine JL.val rfl rfl rfl (.none rfl) (Ev.fld 1 rfl (fun _ _ => by kernel_rfl)) ?_
      refine JL.val rfl rfl rfl (.none rfl) (Ev.load1 rfl Tryd.underlying34 rfl (Rd.own memK rfl)) ?_
      refine JL.val rfl rfl rfl (.none rfl) (Ev.bin rfl rfl (rem_u64 (ne_zero64 (by have := form_q hok; omega)))) ?_
      refine JL.asg ?_
      refine JL.asg ?_
      refine JL.nil ?_
      refine JQ.thenN ?_
      refine JC.ret ?_
      refine JQ.end2 (H' := []) (.inl rfl) rfl (.tmp rfl) (.tmp rfl) ?_ ?_
      · exact Sub.k
      · rw [hN_all (by rw [List.length_take]; omega)] at hn; rw [fdg, if_pos hok, formE_ok hok, hn]

end Go.Proofs.YtopaednfjjjnbaaDoor
