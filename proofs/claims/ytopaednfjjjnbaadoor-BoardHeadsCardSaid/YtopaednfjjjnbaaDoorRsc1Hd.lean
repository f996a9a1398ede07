/-
  Signatures in the reference: its powers, challenges, signing, verifying.
-/
import Derived.Test.YtopaednfjjjnbaaDoorSgn1Hd
import Derived.Test.YtopaednfjjjnbaaDoorPackCHd
namespace Go.Proofs.YtopaednfjjjnbaaDoor
open Go Go.RowKit
set_option maxRecDepth 100000

theorem pw_zero {a x m : UInt64} (h : x.toNat = 0) : 1 % m = pw a x m := u64_of (by rw [UInt64.toNat_mod, h, Nat.pow_zero]; rfl)
theorem pw_even {a x m : UInt64} (h1 : 2 ≤ m.toNat) (h2 : m.toNat < 4294967296) (hx : (x / 2).toNat = x.toNat / 2) (ho : x.toNat % 2 = 0) : pw a (x / 2) m * pw a (x / 2) m % m = pw a x m := u64_of (by
  have hl := pw_lt a (x / 2) (m := m) (by omega)
  rw [mulmod hl hl h2, pw_nat a (x / 2) (by omega), hx, ← Nat.mul_mod, ← Nat.pow_add, show x.toNat / 2 + x.toNat / 2 = x.toNat by omega])
theorem pw_odd {a x m : UInt64} (h1 : 2 ≤ m.toNat) (h2 : m.toNat < 4294967296) (ha : a.toNat < m.toNat) (hx : (x / 2).toNat = x.toNat / 2) (ho : x.toNat % 2 = 1) : pw a (x / 2) m * pw a (x / 2) m % m * a % m = pw a x m := u64_of (by
  have hl := pw_lt a (x / 2) (m := m) (by omega)
  have hl2 : (pw a (x / 2) m * pw a (x / 2) m % m).toNat < m.toNat := by rw [UInt64.toNat_mod]; exact Nat.mod_lt _ (by omega)
  rw [mulmod hl2 ha h2, mulmod hl hl h2, pw_nat a (x / 2) (by omega), hx, ← Nat.mul_mod, ← Nat.pow_add, Nat.mod_mul_mod, ← Nat.pow_succ]
  show a.toNat ^ (x.toNat / 2 + x.toNat / 2 + 1) % m.toNat = _
  rw [show x.toNat / 2 + x.toNat / 2 + 1 = x.toNat by omega])
theorem mul256 (n : UInt64) (c : UInt8) : 256 * n + c.toUInt64 = n <<< UInt64.ofNat 8 ||| c.toUInt64 := by
  apply UInt64.toNat_inj.1
  have hc := c.toNat_lt
  have hn := n.toNat_lt
  rw [UInt64.toNat_add, UInt64.toNat_mul, UInt64.toNat_or, UInt64.toNat_shiftLeft, UInt8.toNat_toUInt64]
  have e1 : (256 : UInt64).toNat = 256 := rfl
  have e2 : (UInt64.ofNat 8).toNat % 64 = 8 := rfl
  rw [e1, e2, Nat.shiftLeft_eq]
  have e3 : n.toNat * 2 ^ 8 % 2 ^ 64 = 2 ^ 8 * (n.toNat % 2 ^ 56) := by omega
  rw [e3, ← Nat.two_pow_add_eq_or_of_lt (i := 8) (by omega)]
  omega
theorem be8_len (l : List UInt8) (n : UInt64) (i : Nat) : (l ++ be8f n (i + 1)).length = (l ++ be8f n i).length + 1 := by
  rw [List.length_append, List.length_append, be8f_length, be8f_length]
  rfl
theorem be8_map (l : List UInt8) (n : UInt64) (i : Nat) : (l ++ be8f n (i + 1)).map u8 = (l ++ be8f n i).map u8 ++ [u8 (n >>> UInt64.ofNat (56 - 8 * i)).toUInt8] := by
  rw [be8f_succ, ← List.append_assoc, List.map_append]
  rfl

theorem rHas_any (g : Gp) (w : World) :
    Calls Tryd.prog 148 #[.agg g.cl.toArray] w (Ret w (fun v _ => v = .bool (decide (formB g)))) := by
  refine enter (vs := [.agg g.cl.toArray]) Tryd.func148 rfl Tryd.ntmps148 rfl ?_
  refine JC.seq ?_
  refine JC.region ?_
  refine JL.new rfl rfl rfl (.none rfl) (En.boxA rfl) (fun b1 hb1 => ?_)
  refine JL.asg ?_
  refine JL.nil ?_
  refine JQ.thenN ?_
  refine JC.seq ?_
  refine JC.region ?_
  refine JL.val rfl rfl rfl (.none rfl) (Ev.fld 0 rfl (fun _ _ => by kernel_rfl)) ?_
  refine JL.val rfl rfl rfl (.none rfl) (Ev.load1 rfl Tryd.underlying34 rfl (Rd.own memK rfl)) ?_
  refine JL.val rfl rfl rfl (.none rfl) (Ev.bin rfl rfl geq_int) ?_
  refine JL.mv ?_
  refine JL.split (d := 6) rfl (fun hA => ?_) (fun hA => ?_)
  · -- guard 6 true
    have hA := of_decide_eq_true hA
    refine JL.val rfl rfl rfl (.yes rfl rfl rfl) (Ev.fld 0 rfl (fun _ _ => by kernel_rfl)) ?_
    refine JL.val rfl rfl rfl (.yes rfl rfl rfl) (Ev.load1 rfl Tryd.underlying34 rfl (Rd.own memK rfl)) ?_
    refine JL.val rfl rfl rfl (.yes rfl rfl rfl) (Ev.bin rfl rfl lss_int) ?_
    refine JL.val rfl rfl rfl (.none rfl) (Ev.pickT rfl rfl) ?_
    refine JL.mv ?_
    refine JL.split (d := 11) rfl (fun hB => ?_) (fun hB => ?_)
    · -- guard 11 true
      have hB := of_decide_eq_true hB
      refine JL.val rfl rfl rfl (.yes rfl rfl rfl) (Ev.fld 0 rfl (fun _ _ => by kernel_rfl)) ?_
      refine JL.val rfl rfl rfl (.yes rfl rfl rfl) (Ev.load1 rfl Tryd.underlying34 rfl (Rd.own memK rfl)) ?_
      refine JL.val rfl rfl rfl (.yes rfl rfl rfl) (Ev.bin rfl rfl (rem_u64 (y := 2) (by decide))) ?_
      refine JL.val rfl rfl rfl (.yes rfl rfl rfl) (Ev.bin rfl rfl eql_int) ?_
      refine JL.val rfl rfl rfl (.none rfl) (Ev.pickT rfl rfl) ?_
      refine JL.mv ?_
      refine JL.split (d := 17) rfl (fun hC => ?_) (fun hC => ?_)
      · -- guard 17 true
        have hC := of_decide_eq_true hC
        rw [UInt64.toNat_mod] at hC
        have hC2 : g.p.toNat % 2 = 1 := by have h2 : (2 : UInt64).toNat = 2 := rfl; rw [h2] at hC; omega
        refine JL.val rfl rfl rfl (.yes rfl rfl rfl) (Ev.fld 1 rfl (fun _ _ => by kernel_rfl)) ?_
        refine JL.val rfl rfl rfl (.yes rfl rfl rfl) (Ev.load1 rfl Tryd.underlying34 rfl (Rd.own memK rfl)) ?_
        refine JL.val rfl rfl rfl (.yes rfl rfl rfl) (Ev.fld 0 rfl (fun _ _ => by kernel_rfl)) ?_
        refine JL.val rfl rfl rfl (.yes rfl rfl rfl) (Ev.load1 rfl Tryd.underlying34 rfl (Rd.own memK rfl)) ?_
        refine JL.val rfl rfl rfl (.yes rfl rfl rfl) (Ev.bin rfl rfl (quo_u64 (y := 2) (by decide))) ?_
        refine JL.val rfl rfl rfl (.yes rfl rfl rfl) (Ev.bin rfl rfl eql_int) ?_
        refine JL.val rfl rfl rfl (.none rfl) (Ev.pickT rfl rfl) ?_
        refine JL.mv ?_
        refine JL.split (d := 25) rfl (fun hD => ?_) (fun hD => ?_)
        · -- guard 25 true
          have hD := of_decide_eq_true hD
          rw [UInt64.toNat_div] at hD
          have hD2 : g.q.toNat = g.p.toNat / 2 := by have h2 : (2 : UInt64).toNat = 2 := rfl; rw [h2] at hD; omega
          refine JL.val rfl rfl rfl (.yes rfl rfl rfl) (Ev.fld 2 rfl (fun _ _ => by kernel_rfl)) ?_
          refine JL.val rfl rfl rfl (.yes rfl rfl rfl) (Ev.load1 rfl Tryd.underlying34 rfl (Rd.own memK rfl)) ?_
          refine JL.val rfl rfl rfl (.yes rfl rfl rfl) (Ev.bin rfl rfl geq_int) ?_
          refine JL.val rfl rfl rfl (.none rfl) (Ev.pickT rfl rfl) ?_
          refine JL.mv ?_
          refine JL.split (d := 30) rfl (fun hE => ?_) (fun hE => ?_)
          · -- guard 30 true
            have hE := of_decide_eq_true hE
            refine JL.val rfl rfl rfl (.yes rfl rfl rfl) (Ev.fld 2 rfl (fun _ _ => by kernel_rfl)) ?_
            refine JL.val rfl rfl rfl (.yes rfl rfl rfl) (Ev.load1 rfl Tryd.underlying34 rfl (Rd.own memK rfl)) ?_
            refine JL.val rfl rfl rfl (.yes rfl rfl rfl) (Ev.fld 0 rfl (fun _ _ => by kernel_rfl)) ?_
            refine JL.val rfl rfl rfl (.yes rfl rfl rfl) (Ev.load1 rfl Tryd.underlying34 rfl (Rd.own memK rfl)) ?_
            refine JL.val rfl rfl rfl (.yes rfl rfl rfl) (Ev.bin rfl rfl lss_int) ?_
            refine JL.val rfl rfl rfl (.none rfl) (Ev.pickT rfl rfl) ?_
            refine JL.asg ?_
            refine JL.nil ?_
            refine JQ.thenN ?_
            refine JC.ret ?_
            refine JQ.end1 (H' := []) (.inl rfl) rfl (.tmp rfl) ?_ ?_
            · exact Sub.k
            · first | exact congrArg Value.bool (decide_eq_false hbad).symm | exact congrArg Value.bool (decide_eq_decide.2 ⟨fun h => ⟨by omega, by omega, by omega, by omega, by omega⟩, fun hf => by obtain ⟨f1, f2, f3, f4, f5⟩ := hf; omega⟩)
          · -- guard 30 false
            have hE := of_decide_eq_false hE
            have hbad : ¬ formB g := fun hf => by obtain ⟨f1, f2, f3, f4, f5⟩ := hf; omega
            refine JL.skip rfl rfl (.noT rfl rfl rfl) ?_
            refine JL.skip rfl rfl (.noT rfl rfl rfl) ?_
            refine JL.skip rfl rfl (.noT rfl rfl rfl) ?_
            refine JL.skip rfl rfl (.noT rfl rfl rfl) ?_
            refine JL.skip rfl rfl (.noT rfl rfl rfl) ?_
            refine JL.val rfl rfl rfl (.none rfl) (Ev.pickF rfl rfl) ?_
            refine JL.asg ?_
            refine JL.nil ?_
            refine JQ.thenN ?_
            refine JC.ret ?_
            refine JQ.end1 (H' := []) (.inl rfl) rfl (.tmp rfl) ?_ ?_
            · exact Sub.k
            · first | exact congrArg Value.bool (decide_eq_false hbad).symm | exact congrArg Value.bool (decide_eq_decide.2 ⟨fun h => ⟨by omega, by omega, by omega, by omega, by omega⟩, fun hf => by obtain ⟨f1, f2, f3, f4, f5⟩ := hf; omega⟩)
        · -- guard 25 false
          have hD := of_decide_eq_false hD
          rw [UInt64.toNat_div] at hD
          have hbad : ¬ formB g := fun hf => by obtain ⟨f1, f2, f3, f4, f5⟩ := hf; have h2 : (2 : UInt64).toNat = 2 := rfl; rw [h2] at hD; omega
          refine JL.skip rfl rfl (.noT rfl rfl rfl) ?_
          refine JL.skip rfl rfl (.noT rfl rfl rfl) ?_
          refine JL.skip rfl rfl (.noT rfl rfl rfl) ?_
          refine JL.val rfl rfl rfl (.none rfl) (Ev.pickF rfl rfl) ?_
          refine JL.mv ?_
          refine JL.skip rfl rfl (.noT rfl rfl rfl) ?_
          refine JL.skip rfl rfl (.noT rfl rfl rfl) ?_
          refine JL.skip rfl rfl (.noT rfl rfl rfl) ?_
          refine JL.skip rfl rfl (.noT rfl rfl rfl) ?_
          refine JL.skip rfl rfl (.noT rfl rfl rfl) ?_
          refine JL.val rfl rfl rfl (.none rfl) (Ev.pickF rfl rfl) ?_
          refine JL.asg ?_
          refine JL.nil ?_
          refine JQ.thenN ?_
          refine JC.ret ?_
          refine JQ.end1 (H' := []) (.inl rfl) rfl (.tmp rfl) ?_ ?_
          · exact Sub.k
          · first | exact congrArg Value.bool (decide_eq_false hbad).symm | exact congrArg Value.bool (decide_eq_decide.2 ⟨fun h => ⟨by omega, by omega, by omega, by omega, by omega⟩, fun hf => by obtain ⟨f1, f2, f3, f4, f5⟩ := hf; omega⟩)
      · -- guard 17 false
        have hC := of_decide_eq_false hC
        rw [UInt64.toNat_mod] at hC
        have hbad : ¬ formB g := fun hf => by obtain ⟨f1, f2, f3, f4, f5⟩ := hf; have h2 : (2 : UInt64).toNat = 2 := rfl; rw [h2] at hC; omega
        refine JL.skip rfl rfl (.noT rfl rfl rfl) ?_
        refine JL.skip rfl rfl (.noT rfl rfl rfl) ?_
        refine JL.skip rfl rfl (.noT rfl rfl rfl) ?_
        refine JL.skip rfl rfl (.noT rfl rfl rfl) ?_
        refine JL.skip rfl rfl (.noT rfl rfl rfl) ?_
        refine JL.skip rfl rfl (.noT rfl rfl rfl) ?_
        refine JL.val rfl rfl rfl (.none rfl) (Ev.pickF rfl rfl) ?_
        refine JL.mv ?_
        refine JL.skip rfl rfl (.noT rfl rfl rfl) ?_
        refine JL.skip rfl rfl (.noT rfl rfl rfl) ?_
        refine JL.skip rfl rfl (.noT rfl rfl rfl) ?_
        refine JL.val rfl rfl rfl (.none rfl) (Ev.pickF rfl rfl) ?_
        refine JL.mv ?_
        refine JL.skip rfl rfl (.noT rfl rfl rfl) ?_
        refine JL.skip rfl rfl (.noT rfl rfl rfl) ?_
        refine JL.skip rfl rfl (.noT rfl rfl rfl) ?_
        refine JL.skip rfl rfl (.noT rfl rfl rfl) ?_
        refine JL.skip rfl rfl (.noT rfl rfl rfl) ?_
        refine JL.val rfl rfl rfl (.none rfl) (Ev.pickF rfl rfl) ?_
        refine JL.asg ?_
        refine JL.nil ?_
        refine JQ.thenN ?_
        refine JC.ret ?_
        refine JQ.end1 (H' := []) (.inl rfl) rfl (.tmp rfl) ?_ ?_
        · exact Sub.k
        · first | exact congrArg Value.bool (decide_eq_false hbad).symm | exact congrArg Value.bool (decide_eq_decide.2 ⟨fun h => ⟨by omega, by omega, by omega, by omega, by omega⟩, fun hf => by obtain ⟨f1, f2, f3, f4, f5⟩ := hf; omega⟩)
    · -- guard 11 false
      have hB := of_decide_eq_false hB
      have hbad : ¬ formB g := fun hf => by obtain ⟨f1, f2, f3, f4, f5⟩ := hf; omega
      refine JL.skip rfl rfl (.noT rfl rfl rfl) ?_
      refine JL.skip rfl rfl (.noT rfl rfl rfl) ?_
      refine JL.skip rfl rfl (.noT rfl rfl rfl) ?_
      refine JL.skip rfl rfl (.noT rfl rfl rfl) ?_
      refine JL.val rfl rfl rfl (.none rfl) (Ev.pickF rfl rfl) ?_
      refine JL.mv ?_
      refine JL.skip rfl rfl (.noT rfl rfl rfl) ?_
      refine JL.skip rfl rfl (.noT rfl rfl rfl) ?_
      refine JL.skip rfl rfl (.noT rfl rfl rfl) ?_
      refine JL.skip rfl rfl (.noT rfl rfl rfl) ?_
      refine JL.skip rfl rfl (.noT rfl rfl rfl) ?_
      refine JL.skip rfl rfl (.noT rfl rfl rfl) ?_
      refine JL.val rfl rfl rfl (.none rfl) (Ev.pickF rfl rfl) ?_
      refine JL.mv ?_
      refine JL.skip rfl rfl (.noT rfl rfl rfl) ?_
      refine JL.skip rfl rfl (.noT rfl rfl rfl) ?_
      refine JL.skip rfl rfl (.noT rfl rfl rfl) ?_
      refine JL.val rfl rfl rfl (.none rfl) (Ev.pickF rfl rfl) ?_
      refine JL.mv ?_
      refine JL.skip rfl rfl (.noT rfl rfl rfl) ?_
      refine JL.skip rfl rfl (.noT rfl rfl rfl) ?_
      refine JL.skip rfl rfl (.noT rfl rfl rfl) ?_
      refine JL.skip rfl rfl (.noT rfl rfl rfl) ?_
      refine JL.skip rfl rfl (.noT rfl rfl rfl) ?_
      refine JL.val rfl rfl rfl (.none rfl) (Ev.pickF rfl rfl) ?_
      refine JL.asg ?_
      refine JL.nil ?_
      refine JQ.thenN ?_
      refine JC.ret ?_
      refine JQ.end1 (H' := []) (.inl rfl) rfl (.tmp rfl) ?_ ?_
      · exact Sub.k
      · first | exact congrArg Value.bool (decide_eq_false hbad).symm | exact congrArg Value.bool (decide_eq_decide.2 ⟨fun h => ⟨by omega, by omega, by omega, by omega, by omega⟩, fun hf => by obtain ⟨f1, f2, f3, f4, f5⟩ := hf; omega⟩)
  · -- guard 6 false
    have hA := of_decide_eq_false hA
    have hbad : ¬ formB g := fun hf => by obtain ⟨f1, f2, f3, f4, f5⟩ := hf; omega
    refine JL.skip rfl rfl (.noT rfl rfl rfl) ?_
    refine JL.skip rfl rfl (.noT rfl rfl rfl) ?_
    refine JL.skip rfl rfl (.noT rfl rfl rfl) ?_
    refine JL.val rfl rfl rfl (.none rfl) (Ev.pickF rfl rfl) ?_
    refine JL.mv ?_
    refine JL.skip rfl rfl (.noT rfl rfl rfl) ?_
    refine JL.skip rfl rfl (.noT rfl rfl rfl) ?_
    refine JL.skip rfl rfl (.noT rfl rfl rfl) ?_
    refine JL.skip rfl rfl (.noT rfl rfl rfl) ?_
    refine JL.val rfl rfl rfl (.none rfl) (Ev.pickF rfl rfl) ?_
    refine JL.mv ?_
    refine JL.skip rfl rfl (.noT rfl rfl rfl) ?_
    refine JL.skip rfl rfl (.noT rfl rfl rfl) ?_
    refine JL.skip rfl rfl (.noT rfl rfl rfl) ?_
    refine JL.skip rfl rfl (.noT rfl rfl rfl) ?_
    refine JL.skip rfl rfl (.noT rfl rfl rfl) ?_
    refine JL.skip rfl rfl (.noT rfl rfl rfl) ?_
    refine JL.val rfl rfl rfl (.none rfl) (Ev.pickF rfl rfl) ?_
    refine JL.mv ?_
    refine JL.skip rfl rfl (.noT rfl rfl rfl) ?_
    refine JL.skip rfl rfl (.noT rfl rfl rfl) ?_
    refine JL.skip rfl rfl (.noT rfl rfl rfl) ?_
    refine JL.val rfl rfl rfl (.none rfl) (Ev.pickF rfl rfl) ?_
    refine JL.mv ?_
    refine JL.skip rfl rfl (.noT rfl rfl rfl) ?_
    refine JL.skip rfl rfl (.noT rfl rfl rfl) ?_
    refine JL.skip rfl rfl (.noT rfl rfl rfl) ?_
    refine JL.skip rfl rfl (.noT rfl rfl rfl) ?_
    refine JL.skip rfl rfl (.noT rfl rfl rfl) ?_
    refine JL.val rfl rfl rfl (.none rfl) (Ev.pickF rfl rfl) ?_
    refine JL.asg ?_
    refine JL.nil ?_
    refine JQ.thenN ?_
    refine JC.ret ?_
    refine JQ.end1 (H' := []) (.inl rfl) rfl (.tmp rfl) ?_ ?_
    · exact Sub.k
    · first | exact congrArg Value.bool (decide_eq_false hbad).symm | exact congrArg Value.bool (decide_eq_decide.2 ⟨fun h => ⟨by omega, by omega, by omega, by omega, by omega⟩, fun hf => by obtain ⟨f1, f2, f3, f4, f5⟩ := hf; omega⟩)

theorem rPower_any_step (N : Nat) (ih : ∀ (m : UInt64) (a : UInt64) (x : UInt64) (w : World) (_ : 2 ≤ m.toNat) (_ : m.toNat < 4294967296) (_ : a.toNat < m.toNat), x.toNat < N → Calls Tryd.prog 166 #[u64 m, u64 a, u64 x] w (Ret w (fun v _ => v = u64 (pw a x m)))) (m : UInt64) (a : UInt64) (x : UInt64) (w : World) (h1 : 2 ≤ m.toNat) (h2 : m.toNat < 4294967296) (ha : a.toNat < m.toNat) (hN : x.toNat = N) :
    Calls Tryd.prog 166 #[u64 m, u64 a, u64 x] w (Ret w (fun v _ => v = u64 (pw a x m))) := by
  refine enter (vs := [u64 m, u64 a, u64 x]) Tryd.func166 rfl Tryd.ntmps166 rfl ?_
  refine JC.seq ?_
  refine JC.region ?_
  refine JL.asg ?_
  refine JL.nil ?_
  refine JQ.thenN ?_
  refine JC.seq ?_
  refine JC.seq ?_
  refine JC.region ?_
  refine JL.mv ?_
  refine JL.val rfl rfl rfl (.none rfl) (Ev.bin rfl rfl eql_int) ?_
  refine JL.nil ?_
  refine JQ.thenN ?_
  refine JC.cond rfl (fun hc => ?_) (fun hc => ?_)
  · -- t9 True
    replace hc := of_decide_eq_true hc
    have hx : x.toNat = 0 := by omega
    refine JC.seq ?_
    refine JC.region ?_
    refine JL.mv ?_
    refine JL.val rfl rfl rfl (.none rfl) (Ev.bin rfl rfl (rem_u64 (x := 1) (ne_zero64 (by omega)))) ?_
    refine JL.asg ?_
    refine JL.nil ?_
    refine JQ.thenN ?_
    refine JC.ret ?_
    refine JQ.thenR ?_
    refine JQ.end1 (H' := []) (.inl rfl) rfl (.tmp rfl) ?_ ?_
    · exact Sub.k
    · exact congrArg u64 (pw_zero hx)
  · -- t9 False
    replace hc := of_decide_eq_false hc
    have hx : 0 < x.toNat := by omega
    have hx2 : (x / 2).toNat = x.toNat / 2 := by rw [UInt64.toNat_div]; rfl
    refine JC.skip ?_
    refine JQ.thenN ?_
    refine JC.seq ?_
    refine JC.region ?_
    refine JL.mv ?_
    refine JL.mv ?_
    refine JL.mv ?_
    refine JL.val rfl rfl rfl (.none rfl) (Ev.bin rfl rfl (quo_u64 (y := 2) (by decide))) ?_
    refine JL.callV rfl (.none rfl) rfl Tryd.call166 (fun w1 hw1 => ih m a (x / 2) w1 h1 h2 ha (by omega)) ?_
    refine JL.asg ?_
    refine JL.nil ?_
    refine JQ.thenN ?_
    refine JC.seq ?_
    refine JC.region ?_
    refine JL.mv ?_
    refine JL.mv ?_
    refine JL.val rfl rfl rfl (.none rfl) (Ev.bin rfl rfl mul_u64) ?_
    refine JL.mv ?_
    refine JL.val rfl rfl rfl (.none rfl) (Ev.bin rfl rfl (rem_u64 (ne_zero64 (by omega)))) ?_
    refine JL.asg ?_
    refine JL.nil ?_
    refine JQ.thenN ?_
    refine JC.seq ?_
    refine JC.seq ?_
    refine JC.region ?_
    refine JL.mv ?_
    refine JL.val rfl rfl rfl (.none rfl) (Ev.bin rfl rfl (rem_u64 (y := 2) (by decide))) ?_
    refine JL.val rfl rfl rfl (.none rfl) (Ev.bin rfl rfl eql_int) ?_
    refine JL.nil ?_
    refine JQ.thenN ?_
    refine JC.cond rfl (fun ho => ?_) (fun ho => ?_)
    · -- t24 True
      replace ho := of_decide_eq_true ho
      rw [UInt64.toNat_mod] at ho
      have ho1 : x.toNat % 2 = 1 := by have h5 : (2 : UInt64).toNat = 2 := rfl; rw [h5] at ho; omega
      refine JC.region ?_
      refine JL.mv ?_
      refine JL.mv ?_
      refine JL.val rfl rfl rfl (.none rfl) (Ev.bin rfl rfl mul_u64) ?_
      refine JL.mv ?_
      refine JL.val rfl rfl rfl (.none rfl) (Ev.bin rfl rfl (rem_u64 (ne_zero64 (by omega)))) ?_
      refine JL.asg ?_
      refine JL.nil ?_
      refine JQ.thenN ?_
      refine JC.seq ?_
      refine JC.region ?_
      refine JL.mv ?_
      refine JL.asg ?_
      refine JL.nil ?_
      refine JQ.thenN ?_
      refine JC.ret ?_
      refine JQ.end1 (H' := []) (.inl rfl) rfl (.tmp rfl) ?_ ?_
      · exact Sub.k
      · exact congrArg u64 (pw_odd h1 h2 ha hx2 ho1)
    · -- t24 False
      replace ho := of_decide_eq_false ho
      rw [UInt64.toNat_mod] at ho
      have ho1 : x.toNat % 2 = 0 := by have h5 : (2 : UInt64).toNat = 2 := rfl; rw [h5] at ho; omega
      refine JC.skip ?_
      refine JQ.thenN ?_
      refine JC.seq ?_
      refine JC.region ?_
      refine JL.mv ?_
      refine JL.asg ?_
      refine JL.nil ?_
      refine JQ.thenN ?_
      refine JC.ret ?_
      refine JQ.end1 (H' := []) (.inl rfl) rfl (.tmp rfl) ?_ ?_
      · exact Sub.k
      · exact congrArg u64 (pw_even h1 h2 hx2 ho1)
theorem rPower_any (m : UInt64) (a : UInt64) (x : UInt64) (w : World) (h1 : 2 ≤ m.toNat) (h2 : m.toNat < 4294967296) (ha : a.toNat < m.toNat) :
    Calls Tryd.prog 166 #[u64 m, u64 a, u64 x] w (Ret w (fun v _ => v = u64 (pw a x m))) := by
  have key : ∀ (N : Nat) (m : UInt64) (a : UInt64) (x : UInt64) (w : World) (h1 : 2 ≤ m.toNat) (h2 : m.toNat < 4294967296) (ha : a.toNat < m.toNat), x.toNat = N → Calls Tryd.prog 166 #[u64 m, u64 a, u64 x] w (Ret w (fun v _ => v = u64 (pw a x m))) := by
    intro N
    induction N using Nat.strongRecOn with
    | _ N IH =>
      intro m a x w h1 h2 ha hN
      exact rPower_any_step N (fun m a x w h1 h2 ha hlt => IH _ hlt m a x w h1 h2 ha rfl) m a x w h1 h2 ha hN
  exact key _ m a x w h1 h2 ha rfl

theorem rPow_any (g : Gp) (a x : UInt64) (hok : formB g) (ha : a.toNat < g.p.toNat) (w : World) :
    Calls Tryd.prog 144 #[.agg g.cl.toArray, u64 a, u64 x] w (Ret w (fun v _ => v = u64 (pw a x g.p))) := by
  refine enter (vs := [.agg g.cl.toArray, u64 a, u64 x]) Tryd.func144 rfl Tryd.ntmps144 rfl ?_
  refine JC.seq ?_
  refine JC.region ?_
  refine JL.new rfl rfl rfl (.none rfl) (En.boxA rfl) (fun b3 hb3 => ?_)
  refine JL.asg ?_
  refine JL.nil ?_
  refine JQ.thenN ?_
  refine JC.seq ?_
  refine JC.region ?_
  refine JL.val rfl rfl rfl (.none rfl) (Ev.fld 0 rfl (fun _ _ => by kernel_rfl)) ?_
  refine JL.val rfl rfl rfl (.none rfl) (Ev.load1 rfl Tryd.underlying34 rfl (Rd.own memK rfl)) ?_
  refine JL.mv ?_
  refine JL.mv ?_
  refine JL.callV rfl (.none rfl) rfl Tryd.call166 (fun w1 hw1 => rPower_any g.p a x w1 (by have := hok.1; omega) (by have := hok.2.1; omega) ha) ?_
  refine JL.asg ?_
  refine JL.nil ?_
  refine JQ.thenN ?_
  refine JC.ret ?_
  refine JQ.end1 (H' := []) (.inl rfl) rfl (.tmp rfl) ?_ ?_
  · exact Sub.k
  · exact rfl

theorem rSum_any (g : Gp) (a b : UInt64) (hok : formB g) (w : World) :
    Calls Tryd.prog 167 #[.agg g.cl.toArray, u64 a, u64 b] w (Ret w (fun v _ => v = u64 ((a + b) % g.q))) := by
  refine enter (vs := [.agg g.cl.toArray, u64 a, u64 b]) Tryd.func167 rfl Tryd.ntmps167 rfl ?_
  refine JC.seq ?_
  refine JC.region ?_
  refine JL.new rfl rfl rfl (.none rfl) (En.boxA rfl) (fun b3 hb3 => ?_)
  refine JL.asg ?_
  refine JL.nil ?_
  refine JQ.thenN ?_
  refine JC.seq ?_
  refine JC.region ?_
  refine JL.mv ?_
  refine JL.mv ?_
  refine JL.val rfl rfl rfl (.none rfl) (Ev.bin rfl rfl add_u64) ?_
  refine JL.val rfl rfl rfl (.none rfl) (Ev.fld 1 rfl (fun _ _ => by kernel_rfl)) ?_
  refine JL.val rfl rfl rfl (.none rfl) (Ev.load1 rfl Tryd.underlying34 rfl (Rd.own memK rfl)) ?_
  refine JL.val rfl rfl rfl (.none rfl) (Ev.bin rfl rfl (rem_u64 (ne_zero64 (by have := form_q hok; omega)))) ?_
  refine JL.asg ?_
  refine JL.nil ?_
  refine JQ.thenN ?_
  refine JC.ret ?_
  refine JQ.end1 (H' := []) (.inl rfl) rfl (.tmp rfl) ?_ ?_
  · exact Sub.k
  · exact rfl

theorem rProduct_any (g : Gp) (a b : UInt64) (hok : formB g) (w : World) :
    Calls Tryd.prog 168 #[.agg g.cl.toArray, u64 a, u64 b] w (Ret w (fun v _ => v = u64 (a * b % g.q))) := by
  refine enter (vs := [.agg g.cl.toArray, u64 a, u64 b]) Tryd.func168 rfl Tryd.ntmps168 rfl ?_
  refine JC.seq ?_
  refine JC.region ?_
  refine JL.new rfl rfl rfl (.none rfl) (En.boxA rfl) (fun b3 hb3 => ?_)
  refine JL.asg ?_
  refine JL.nil ?_
  refine JQ.thenN ?_
  refine JC.seq ?_
  refine JC.region ?_
  refine JL.mv ?_
  refine JL.mv ?_
  refine JL.val rfl rfl rfl (.none rfl) (Ev.bin rfl rfl mul_u64) ?_
  refine JL.val rfl rfl rfl (.none rfl) (Ev.fld 1 rfl (fun _ _ => by kernel_rfl)) ?_
  refine JL.val rfl rfl rfl (.none rfl) (Ev.load1 rfl Tryd.underlying34 rfl (Rd.own memK rfl)) ?_
  refine JL.val rfl rfl rfl (.none rfl) (Ev.bin rfl rfl (rem_u64 (ne_zero64 (by have := form_q hok; omega)))) ?_
  refine JL.asg ?_
  refine JL.nil ?_
  refine JQ.thenN ?_
  refine JC.ret ?_
  refine JQ.end1 (H' := []) (.inl rfl) rfl (.tmp rfl) ?_ ?_
  · exact Sub.k
  · exact rfl

theorem rIn_any (g : Gp) (a : UInt64) (hok : formB g) (ha : a.toNat < g.p.toNat) (w : World) :
    Calls Tryd.prog 149 #[.agg g.cl.toArray, u64 a] w (Ret w (fun v _ => v = .bool (memR g a))) := by
  refine enter (vs := [.agg g.cl.toArray, u64 a]) Tryd.func149 rfl Tryd.ntmps149 rfl ?_
  refine JC.seq ?_
  refine JC.region ?_
  refine JL.new rfl rfl rfl (.none rfl) (En.boxA rfl) (fun b2 hb2 => ?_)
  refine JL.asg ?_
  refine JL.nil ?_
  refine JQ.thenN ?_
  refine JC.seq ?_
  refine JC.region ?_
  refine JL.mv ?_
  refine JL.val rfl rfl rfl (.none rfl) (Ev.bin rfl rfl gtr_int) ?_
  refine JL.mv ?_
  refine JL.split (d := 7) rfl (fun hA => ?_) (fun hA => ?_)
  · -- guard 7 true
    refine JL.val rfl rfl rfl (.yes rfl rfl rfl) (Ev.fld 0 rfl (fun _ _ => by kernel_rfl)) ?_
    refine JL.val rfl rfl rfl (.yes rfl rfl rfl) (Ev.load1 rfl Tryd.underlying34 rfl (Rd.own memK rfl)) ?_
    refine JL.val rfl rfl rfl (.yes rfl rfl rfl) (Ev.move rfl) ?_
    refine JL.val rfl rfl rfl (.yes rfl rfl rfl) (Ev.fld 1 rfl (fun _ _ => by kernel_rfl)) ?_
    refine JL.val rfl rfl rfl (.yes rfl rfl rfl) (Ev.load1 rfl Tryd.underlying34 rfl (Rd.own memK rfl)) ?_
    refine JL.callV rfl (.yes rfl rfl rfl) rfl Tryd.call166 (fun w1 hw1 => rPower_any g.p a g.q w1 (by have := hok.1; omega) (by have := hok.2.1; omega) ha) ?_
    refine JL.val rfl rfl rfl (.yes rfl rfl rfl) (Ev.bin rfl rfl eql_int) ?_
    refine JL.val rfl rfl rfl (.none rfl) (Ev.pickT rfl rfl) ?_
    refine JL.asg ?_
    refine JL.nil ?_
    refine JQ.thenN ?_
    refine JC.ret ?_
    refine JQ.end1 (H' := []) (.inl rfl) rfl (.tmp rfl) ?_ ?_
    · exact Sub.k
    · first | rw [memR_no (by have := of_decide_eq_false hA; omega)] | rw [memR_yes (by have := of_decide_eq_true hA; omega)]
  · -- guard 7 false
    refine JL.skip rfl rfl (.noT rfl rfl rfl) ?_
    refine JL.skip rfl rfl (.noT rfl rfl rfl) ?_
    refine JL.skip rfl rfl (.noT rfl rfl rfl) ?_
    refine JL.skip rfl rfl (.noT rfl rfl rfl) ?_
    refine JL.skip rfl rfl (.noT rfl rfl rfl) ?_
    refine JL.skip rfl rfl (.noT rfl rfl rfl) ?_
    refine JL.skip rfl rfl (.noT rfl rfl rfl) ?_
    refine JL.val rfl rfl rfl (.none rfl) (Ev.pickF rfl rfl) ?_
    refine JL.asg ?_
    refine JL.nil ?_
    refine JQ.thenN ?_
    refine JC.ret ?_
    refine JQ.end1 (H' := []) (.inl rfl) rfl (.tmp rfl) ?_ ?_
    · exact Sub.k
    · first | rw [memR_no (by have := of_decide_eq_false hA; omega)] | rw [memR_yes (by have := of_decide_eq_true hA; omega)]

theorem rAsked_any (g : Gp) (oa ob : Option Addr) (ca cb : Nat) (es ns : List UInt64) (w : World) (ha : Cs w oa es.length ca (u64s es)) (hb : Cs w ob ns.length cb (u64s ns)) (hl : es.length ≤ 1000) (hm : ns.length ≤ 1000) :
    Calls Tryd.prog 119 #[.agg g.cl.toArray, .slice oa es.length ca, .slice ob ns.length cb] w (Ret w (fun v _ => v = .int .i64 (scE g es ns))) := by
  refine enter (vs := [.agg g.cl.toArray, .slice oa es.length ca, .slice ob ns.length cb]) Tryd.func119 rfl Tryd.ntmps119 rfl ?_
  refine JC.seq ?_
  refine JC.region ?_
  refine JL.new rfl rfl rfl (.none rfl) (En.boxA rfl) (fun b3 hb3 => ?_)
  refine JL.asg ?_
  refine JL.nil ?_
  refine JQ.thenN ?_
  refine JC.seq ?_
  refine JC.seq ?_
  refine JC.region ?_
  refine JL.val rfl rfl rfl (.none rfl) (Ev.lB Tryd.underlying53 Tryd.sizeOf53) ?_
  refine JL.callV rfl (.none rfl) rfl Tryd.call148 (fun w1 hw1 => rHas_any g w1) ?_
  refine JL.val rfl rfl rfl (.none rfl) (Ev.not rfl) ?_
  refine JL.nil ?_
  refine JQ.thenN ?_
  refine JC.cond rfl (fun hc => ?_) (fun hc => ?_)
  · -- t11 True
    have hbad : ¬ formB g := by simpa using hc
    refine JC.seq ?_
    refine JC.region ?_
    refine JL.asg ?_
    refine JL.nil ?_
    refine JQ.thenN ?_
    refine JC.ret ?_
    refine JQ.thenR ?_
    refine JQ.end1 (H' := []) (.inl rfl) rfl (.tmp rfl) ?_ ?_
    · exact Sub.k
    · first | rw [scE_bad hbad] | rw [scE_gr hok (fun h => hq (h.1 x (List.mem_of_getElem? hx)))] | rw [scE_gr hok (fun h => hp (h.2 x (List.mem_of_getElem? hx)))] | rw [scE_ok hok hes hns]
  · -- t11 False
    have hok : formB g := by simpa using hc
    refine JC.skip ?_
    refine JQ.thenN ?_
    refine JC.seq ?_
    refine JC.seq ?_
    refine JC.region ?_
    refine JL.asg ?_
    refine JL.nil ?_
    refine JQ.thenN ?_
    refine JC.block ?_
    refine JC.loop (X := Nat)
      (fun i => [(3, .pointer (some ⟨b3, 0, none⟩)), (1, .slice oa es.length ca), (2, .slice ob ns.length cb), (7, .int .i64 (i : Int))])
      (fun i => [(b3, Obj.cells g.cl.toArray 53 (0, 0))])
      (fun i => i ≤ es.length ∧ ∀ j x, j < i → es[j]? = some x → x.toNat < g.q.toNat)
      (fun i => es.length - i) 0 ?_ ?_ ?_ ?_
    · exact Keeps.k
    · exact Sub.k
    · exact ⟨Nat.zero_le _, fun j x hj => by omega⟩
    rintro i ⟨hi, hall⟩
    refine JC.seq ?_
    refine JC.seq ?_
    refine JC.region ?_
    refine JL.mv ?_
    refine JL.mv ?_
    refine JL.val rfl rfl rfl (.none rfl) (Ev.lenS rfl Tryd.underlying138) ?_
    refine JL.val rfl rfl rfl (.none rfl) (Ev.bin rfl rfl lss_int) ?_
    refine JL.nil ?_
    refine JQ.thenN ?_
    refine JC.cond rfl (fun hc1 => ?_) (fun hc1 => ?_)
    · -- t15 True
      replace hc1 := of_decide_eq_true hc1
      obtain ⟨a, rfl⟩ := ha.get_some (by omega)
      obtain ⟨x, hx⟩ := get_some (l := es) (k := i) (by omega)
      refine JC.skip ?_
      refine JQ.thenN ?_
      refine JC.seq ?_
      refine JC.block ?_
      refine JC.seq ?_
      refine JC.regionQ (by kernel_rfl) (by kernel_rfl) ?_
      refine JW.val rfl rfl (.none rfl) (Ev.move rfl) ?_
      refine JW.val rfl rfl (.none rfl) (Ev.move rfl) ?_
      refine JW.val rfl rfl (.none rfl) (Ev.idxS1 rfl rfl Tryd.underlying138 Tryd.sizeOf34 (k := i) rfl (by omega)) ?_
      refine JW.val rfl rfl (.none rfl) (Ev.load1 rfl Tryd.underlying34 rfl ((Rds.old (ha.mem _ rfl)).at (k := i) (u64s_get hx))) ?_
      refine JW.val rfl rfl (.none rfl) (Ev.fld 1 rfl (fun _ _ => by kernel_rfl)) ?_
      refine JW.val rfl rfl (.none rfl) (Ev.load1 rfl Tryd.underlying34 rfl (Rd.own memK rfl)) ?_
      refine JW.val rfl rfl (.none rfl) (Ev.bin rfl rfl geq_int) ?_
      refine JW.nilQ ?_
      refine JQ.thenN ?_
      refine JC.cond rfl (fun hq => ?_) (fun hq => ?_)
      · -- t24 True
        replace hq := of_decide_eq_true hq
        have hq : ¬ x.toNat < g.q.toNat := by omega
        refine JC.seq ?_
        refine JC.region ?_
        refine JL.asg ?_
        refine JL.nil ?_
        refine JQ.thenN ?_
        refine JC.ret ?_
        refine JQ.blockR ?_
        refine JQ.thenR ?_
        refine JQ.thenR ?_
        refine JQ.blockR ?_
        refine JQ.thenR ?_
        refine JQ.end1 (H' := []) (.inl rfl) rfl (.tmp rfl) ?_ ?_
        · exact Sub.k
        · first | rw [scE_bad hbad] | rw [scE_gr hok (fun h => hq (h.1 x (List.mem_of_getElem? hx)))] | rw [scE_gr hok (fun h => hp (h.2 x (List.mem_of_getElem? hx)))] | rw [scE_ok hok hes hns]
      · -- t24 False
        replace hq := of_decide_eq_false hq
        have hq : x.toNat < g.q.toNat := by omega
        refine JC.skip ?_
        refine JQ.blockN ?_
        refine JQ.thenN ?_
        refine JC.region ?_
        refine JL.mv ?_
        refine JL.val rfl rfl rfl (.none rfl) (Ev.bin rfl rfl (add_i64 (by omega))) ?_
        refine JL.asg ?_
        refine JL.nil ?_
        refine JQ.loopN (i + 1) ?_ ?_ ?_ ?_
        · exact Keeps.k
        · exact Sub.k
        · exact ⟨by omega, all_next hall hx hq⟩
        · show es.length - (i + 1) < es.length - i; omega
    · -- t15 False
      replace hc1 := of_decide_eq_false hc1
      obtain rfl : i = es.length := by omega
      have hes := all_get hall
      refine JC.exit ?_
      refine JQ.thenE ?_
      refine JQ.thenE ?_
      refine JQ.blockE ?_
      refine JQ.thenN ?_
      refine JC.seq ?_
      refine JC.seq ?_
      refine JC.region ?_
      refine JL.asg ?_
      refine JL.nil ?_
      refine JQ.thenN ?_
      refine JC.block ?_
      refine JC.loop (X := Nat)
        (fun i => [(3, .pointer (some ⟨b3, 0, none⟩)), (2, .slice ob ns.length cb), (8, .int .i64 (i : Int))])
        (fun i => [(b3, Obj.cells g.cl.toArray 53 (0, 0))])
        (fun i => i ≤ ns.length ∧ ∀ j x, j < i → ns[j]? = some x → x.toNat < g.p.toNat)
        (fun i => ns.length - i) 0 ?_ ?_ ?_ ?_
      · exact Keeps.k
      · exact Sub.k
      · exact ⟨Nat.zero_le _, fun j x hj => by omega⟩
      rintro i ⟨hi, hall⟩
      refine JC.seq ?_
      refine JC.seq ?_
      refine JC.region ?_
      refine JL.mv ?_
      refine JL.mv ?_
      refine JL.val rfl rfl rfl (.none rfl) (Ev.lenS rfl Tryd.underlying138) ?_
      refine JL.val rfl rfl rfl (.none rfl) (Ev.bin rfl rfl lss_int) ?_
      refine JL.nil ?_
      refine JQ.thenN ?_
      refine JC.cond rfl (fun hc2 => ?_) (fun hc2 => ?_)
      · -- t28 True
        replace hc2 := of_decide_eq_true hc2
        obtain ⟨b, rfl⟩ := hb.get_some (by omega)
        obtain ⟨x, hx⟩ := get_some (l := ns) (k := i) (by omega)
        refine JC.skip ?_
        refine JQ.thenN ?_
        refine JC.seq ?_
        refine JC.block ?_
        refine JC.seq ?_
        refine JC.regionQ (by kernel_rfl) (by kernel_rfl) ?_
        refine JW.val rfl rfl (.none rfl) (Ev.move rfl) ?_
        refine JW.val rfl rfl (.none rfl) (Ev.move rfl) ?_
        refine JW.val rfl rfl (.none rfl) (Ev.idxS1 rfl rfl Tryd.underlying138 Tryd.sizeOf34 (k := i) rfl (by omega)) ?_
        refine JW.val rfl rfl (.none rfl) (Ev.load1 rfl Tryd.underlying34 rfl ((Rds.old (hb.mem _ rfl)).at (k := i) (u64s_get hx))) ?_
        refine JW.val rfl rfl (.none rfl) (Ev.fld 0 rfl (fun _ _ => by kernel_rfl)) ?_
        refine JW.val rfl rfl (.none rfl) (Ev.load1 rfl Tryd.underlying34 rfl (Rd.own memK rfl)) ?_
        refine JW.val rfl rfl (.none rfl) (Ev.bin rfl rfl geq_int) ?_
        refine JW.nilQ ?_
        refine JQ.thenN ?_
        refine JC.cond rfl (fun hp => ?_) (fun hp => ?_)
        · -- t37 True
          replace hp := of_decide_eq_true hp
          have hp : ¬ x.toNat < g.p.toNat := by omega
          refine JC.seq ?_
          refine JC.region ?_
          refine JL.asg ?_
          refine JL.nil ?_
          refine JQ.thenN ?_
          refine JC.ret ?_
          refine JQ.blockR ?_
          refine JQ.thenR ?_
          refine JQ.thenR ?_
          refine JQ.blockR ?_
          refine JQ.thenR ?_
          refine JQ.end1 (H' := []) (.inl rfl) rfl (.tmp rfl) ?_ ?_
          · exact Sub.k
          · first | rw [scE_bad hbad] | rw [scE_gr hok (fun h => hq (h.1 x (List.mem_of_getElem? hx)))] | rw [scE_gr hok (fun h => hp (h.2 x (List.mem_of_getElem? hx)))] | rw [scE_ok hok hes hns]
        · -- t37 False
          replace hp := of_decide_eq_false hp
          have hq : x.toNat < g.p.toNat := by omega
          refine JC.skip ?_
          refine JQ.blockN ?_
          refine JQ.thenN ?_
          refine JC.region ?_
          refine JL.mv ?_
          refine JL.val rfl rfl rfl (.none rfl) (Ev.bin rfl rfl (add_i64 (by omega))) ?_
          refine JL.asg ?_
          refine JL.nil ?_
          refine JQ.loopN (i + 1) ?_ ?_ ?_ ?_
          · exact Keeps.k
          · exact Sub.k
          · exact ⟨by omega, all_next hall hx hq⟩
          · show ns.length - (i + 1) < ns.length - i; omega
      · -- t28 False
        replace hc2 := of_decide_eq_false hc2
        obtain rfl : i = ns.length := by omega
        have hns := all_get hall
        refine JC.exit ?_
        refine JQ.thenE ?_
        refine JQ.thenE ?_
        refine JQ.blockE ?_
        refine JQ.thenN ?_
        refine JC.seq ?_
        refine JC.region ?_
        refine JL.asg ?_
        refine JL.nil ?_
        refine JQ.thenN ?_
        refine JC.ret ?_
        refine JQ.end1 (H' := []) (.inl rfl) rfl (.tmp rfl) ?_ ?_
        · exact Sub.k
        · first | rw [scE_bad hbad] | rw [scE_gr hok (fun h => hq (h.1 x (List.mem_of_getElem? hx)))] | rw [scE_gr hok (fun h => hp (h.2 x (List.mem_of_getElem? hx)))] | rw [scE_ok hok hes hns]

theorem rkey_any (g : Gp) (x : UInt64) (w : World) :
    Calls Tryd.prog 115 #[.agg g.cl.toArray, u64 x] w (Ret w (fun v _ => v = .int .i64 (kyE g x))) := by
  refine enter (vs := [.agg g.cl.toArray, u64 x]) Tryd.func115 rfl Tryd.ntmps115 rfl ?_
  refine JC.seq ?_
  refine JC.region ?_
  refine JL.new rfl rfl rfl (.none rfl) (En.boxA rfl) (fun b2 hb2 => ?_)
  refine JL.asg ?_
  refine JL.nil ?_
  refine JQ.thenN ?_
  refine JC.seq ?_
  refine JC.region ?_
  refine JL.val rfl rfl rfl (.none rfl) (Ev.lB Tryd.underlying53 Tryd.sizeOf53) ?_
  refine JL.mv ?_
  refine JL.new rfl rfl rfl (.none rfl) (En.bsN (e := 34) rfl (fun _ => by kernel_rfl)) (fun b8 hb8 => ?_)
  refine JL.callV rfl (.none rfl) rfl Tryd.call119 (fun w1 hw1 => rAsked_any g (some ⟨b8, 0, none⟩) none 1 0 [x] [] w1 (cs_block (xs := u64s [x]) hw1 (by repeat (first | exact List.Mem.head _ | refine List.Mem.tail _ ?_ | refine List.mem_append_right _ ?_)) (show 1 ≤ 1000000 by decide)) cs_nil (show 1 ≤ 1000 by decide) (show 0 ≤ 1000 by decide)) ?_
  refine JL.asg ?_
  refine JL.nil ?_
  refine JQ.thenN ?_
  refine JC.seq ?_
  refine JC.seq ?_
  refine JC.region ?_
  refine JL.mv ?_
  refine JL.val rfl rfl rfl (.none rfl) (Ev.bin rfl rfl eql_int) ?_
  refine JL.mv ?_
  refine JL.split (d := 12) rfl (fun hA => ?_) (fun hA => ?_)
  · -- guard 12 true
    have hz : scE g [x] [] = 0 := of_decide_eq_true hA
    refine JL.val rfl rfl rfl (.yes rfl rfl rfl) (Ev.move rfl) ?_
    refine JL.val rfl rfl rfl (.yes rfl rfl rfl) (Ev.bin rfl rfl eql_int) ?_
    refine JL.val rfl rfl rfl (.none rfl) (Ev.pickT rfl rfl) ?_
    refine JL.nil ?_
    refine JQ.thenN ?_
    refine JC.cond rfl (fun hx => ?_) (fun hx => ?_)
    · -- t15 True
      replace hx := of_decide_eq_true hx
      have hx0 : x.toNat = 0 := by omega
      refine JC.seq ?_
      refine JC.region ?_
      refine JL.asg ?_
      refine JL.nil ?_
      refine JQ.thenN ?_
      refine JC.ret ?_
      refine JQ.thenR ?_
      refine JQ.end1 (H' := []) (.inl rfl) rfl (.tmp rfl) ?_ ?_
      · exact Sub.k
      · first | rw [kyE_ne hne] | rw [kyE_zero hz hx0] | rw [kyE_ok hz hx0, hz]
    · -- t15 False
      replace hx := of_decide_eq_false hx
      have hx0 : ¬ x.toNat = 0 := by omega
      refine JC.skip ?_
      refine JQ.thenN ?_
      refine JC.seq ?_
      refine JC.region ?_
      refine JL.mv ?_
      refine JL.asg ?_
      refine JL.nil ?_
      refine JQ.thenN ?_
      refine JC.ret ?_
      refine JQ.end1 (H' := []) (.inl rfl) rfl (.tmp rfl) ?_ ?_
      · exact Sub.k
      · first | rw [kyE_ne hne] | rw [kyE_zero hz hx0] | rw [kyE_ok hz hx0, hz]
  · -- guard 12 false
    have hne : scE g [x] [] ≠ 0 := of_decide_eq_false hA
    refine JL.skip rfl rfl (.noT rfl rfl rfl) ?_
    refine JL.skip rfl rfl (.noT rfl rfl rfl) ?_
    refine JL.val rfl rfl rfl (.none rfl) (Ev.pickF rfl rfl) ?_
    refine JL.nil ?_
    refine JQ.thenN ?_
    refine JC.condF rfl ?_
    refine JC.skip ?_
    refine JQ.thenN ?_
    refine JC.seq ?_
    refine JC.region ?_
    refine JL.mv ?_
    refine JL.asg ?_
    refine JL.nil ?_
    refine JQ.thenN ?_
    refine JC.ret ?_
    refine JQ.end1 (H' := []) (.inl rfl) rfl (.tmp rfl) ?_ ?_
    · exact Sub.k
    · first | rw [kyE_ne hne] | rw [kyE_zero hz hx0] | rw [kyE_ok hz hx0, hz]

theorem rEight_any (oa : Option Addr) (cap : Nat) (l : List UInt8) (n : UInt64) (w : World) (hb : Bs w oa cap l) (hl : l.length ≤ 10000) :
    Calls Tryd.prog 165 #[.slice oa l.length cap, u64 n] w (Ret w (fun v H => ∃ r : Option Row, v = Row.v (l ++ be8 n).length r ∧ H = Row.b 5 r ∧ Row.ok 1 (l ++ be8 n).length ((l ++ be8 n).map u8) r)) := by
  refine enter (vs := [.slice oa l.length cap, u64 n]) Tryd.func165 rfl Tryd.ntmps165 rfl ?_
  refine JC.seq ?_
  refine JC.region ?_
  refine JL.asg ?_
  refine JL.nil ?_
  refine JQ.thenN ?_
  refine JC.seq ?_
  refine JC.region ?_
  refine JL.new rfl rfl rfl (.none rfl) (En.bsN (e := 5) rfl (fun _ => by kernel_rfl)) (fun b7 hb7 => ?_)
  refine JL.mv ?_
  refine JL.gen rfl rfl rfl (.none rfl) (Eg.append (r := (some ⟨b7, 0, #[]⟩)) (n := 0) (m := l.length) (xs := []) (news := l.map u8) (z := (.int .u8 0)) (s := 1) (bytes := 1) rfl rfl rfl Cut.k Tryd.underlying28 (by kernel_rfl) rfl (by decide) (by decide) ⟨rfl, Nat.le_refl _, Nat.zero_le _, rfl, rfl⟩ (by simp) (fun a ha => Rds.old (hb.mem a ha)) (fun h => by have := hb.le; have := hb.empty h; omega) (u8s_one l) (by omega)) ?_
  rintro _ _ ⟨r1, rfl, rfl, hr1, _⟩
  refine JL.re (d := 9) (v' := Row.v (l ++ be8f n 0).length r1) rfl (congrArg (fun k => Row.v k r1) (by rw [List.length_append, be8f_length]; omega)) ?_
  have hr10 : Row.ok 1 (l ++ be8f n 0).length ((l ++ be8f n 0).map u8) r1 := by have e : (l ++ be8f n 0) = l := List.append_nil _; rw [e]; rw [Nat.zero_add] at hr1; exact hr1
  refine JL.asg ?_
  refine JL.nil ?_
  refine JQ.thenN ?_
  refine JC.seq ?_
  refine JC.seq ?_
  refine JC.region ?_
  refine JL.asg ?_
  refine JL.nil ?_
  refine JQ.thenN ?_
  refine JC.block ?_
  refine JC.loop (X := Nat × Option Row)
    (fun ⟨i, r⟩ => [(1, u64 n), (5, Row.v (l ++ be8f n i).length r), (6, .int .i64 (i : Int))])
    (fun ⟨i, r⟩ => Row.b 5 r)
    (fun ⟨i, r⟩ => i ≤ 8 ∧ Row.ok 1 (l ++ be8f n i).length ((l ++ be8f n i).map u8) r)
    (fun ⟨i, r⟩ => 8 - i) (0, r1) ?_ ?_ ?_ ?_
  · exact Keeps.k
  · exact Sub.k
  · exact ⟨Nat.zero_le _, hr10⟩
  rintro ⟨i, r⟩ ⟨hi, hr⟩
  refine JC.seq ?_
  refine JC.seq ?_
  refine JC.region ?_
  refine JL.mv ?_
  refine JL.val rfl rfl rfl (.none rfl) (Ev.bin rfl rfl lss_int) ?_
  refine JL.nil ?_
  refine JQ.thenN ?_
  refine JC.cond rfl (fun hc1 => ?_) (fun hc1 => ?_)
  · -- t11 True
    replace hc1 := of_decide_eq_true hc1
    have hol : (l ++ be8f n i).length = l.length + i := by rw [List.length_append, be8f_length]
    refine JC.skip ?_
    refine JQ.thenN ?_
    refine JC.seq ?_
    refine JC.block ?_
    refine JC.region ?_
    refine JL.mv ?_
    refine JL.mv ?_
    refine JL.mv ?_
    refine JL.val rfl rfl rfl (.none rfl) (Ev.bin rfl rfl (mul_i64 (by omega))) ?_
    refine JL.val rfl rfl rfl (.none rfl) (Ev.cast (v' := .int .i64 ((56 - 8 * i : Nat) : Int)) (congrArg (Value.int .i64) (by omega)) (Ev.bin rfl rfl (sub_i64 (by omega)))) ?_
    refine JL.val rfl rfl rfl (.none rfl) (Ev.bin rfl rfl (shr_u64 (by omega))) ?_
    refine JL.val rfl rfl rfl (.none rfl) (Ev.conv rfl (conv_u64_u8 Tryd.underlying34 Tryd.underlying5)) ?_
    refine JL.new rfl rfl rfl (.none rfl) (En.bsN (e := 5) rfl (fun _ => by kernel_rfl)) (fun b21 hb21 => ?_)
    refine JL.gen rfl rfl rfl (.none rfl) (Eg.append1 (z := (.int .u8 0)) (s := 1) (bytes := 1) rfl rfl rfl Cut.k Tryd.underlying28 (by kernel_rfl) rfl (by decide) (by decide) hr (Rds.all memK) rfl (by decide) (u8s_one [(n >>> UInt64.ofNat (56 - 8 * i)).toUInt8]) (by omega)) ?_
    rintro _ _ ⟨rn, rfl, rfl, hrn⟩
    refine JL.asg ?_
    refine JL.nil ?_
    refine JQ.blockN ?_
    refine JQ.thenN ?_
    refine JC.region ?_
    refine JL.mv ?_
    refine JL.val rfl rfl rfl (.none rfl) (Ev.bin rfl rfl (add_i64 (by omega))) ?_
    refine JL.asg ?_
    refine JL.nil ?_
    refine JQ.loopN (i + 1, some rn) ?_ ?_ ?_ ?_
    · (dsimp only; rw [be8_len]; exact Keeps.k)
    · exact Sub.of_cnt (fun a => by (try dsimp only); simp only [cntA]; omega)
    · exact ⟨by omega, by rw [be8_len, be8_map]; exact hrn⟩
    · show 8 - (i + 1) < 8 - i; omega
  · -- t11 False
    replace hc1 := of_decide_eq_false hc1
    obtain rfl : i = 8 := by omega
    refine JC.exit ?_
    refine JQ.thenE ?_
    refine JQ.thenE ?_
    refine JQ.blockE ?_
    refine JQ.thenN ?_
    refine JC.seq ?_
    refine JC.region ?_
    refine JL.mv ?_
    refine JL.asg ?_
    refine JL.nil ?_
    refine JQ.thenN ?_
    refine JC.ret ?_
    refine JQ.end1 (H' := (Row.b 5 r)) (.inl rfl) rfl (.tmp rfl) ?_ ?_
    · first | exact Sub.all | exact Sub.of_cnt (fun a => by (try dsimp only); simp only [cntA]; omega)
    · exact ⟨r, rfl, rfl, hr⟩

theorem rOf30_any (g : Gp) (d : Dig) (hok : formB g) (w : World) :
    Calls Tryd.prog 169 #[.agg g.cl.toArray, .agg (arr8 d.1)] w (Ret w (fun v _ => v = u64 (hN (d.1.take 8) % g.q))) := by
  refine enter (vs := [.agg g.cl.toArray, .agg (arr8 d.1)]) Tryd.func169 rfl Tryd.ntmps169 rfl ?_
  refine JC.seq ?_
  refine JC.region ?_
  refine JL.new rfl rfl rfl (.none rfl) (En.boxA rfl) (fun b2 hb2 => ?_)
  refine JL.new rfl rfl rfl (.none rfl) (En.boxA rfl) (fun b3 hb3 => ?_)
  refine JL.asg ?_
  refine JL.nil ?_
  refine JQ.thenN ?_
  refine JC.seq ?_
  refine JC.region ?_
  refine JL.asg ?_
  refine JL.nil ?_
  refine JQ.thenN ?_
  refine JC.seq ?_
  refine JC.seq ?_
  refine JC.region ?_
  refine JL.asg ?_
  refine JL.nil ?_
  refine JQ.thenN ?_
  refine JC.block ?_
  refine JC.loop (X := Nat × UInt64)
    (fun ⟨i, n⟩ => [(2, .pointer (some ⟨b2, 0, none⟩)), (3, .pointer (some ⟨b3, 0, none⟩)), (5, u64 n), (6, .int .i64 (i : Int))])
    (fun ⟨i, n⟩ => [(b3, Obj.cells (arr8 d.1) 33 (0, 0)), (b2, Obj.cells g.cl.toArray 53 (0, 0))])
    (fun ⟨i, n⟩ => i ≤ 8 ∧ n = hN ((d.1.take 8).take i))
    (fun ⟨i, n⟩ => 8 - i) (0, 0) ?_ ?_ ?_ ?_
  · exact Keeps.k
  · exact Sub.k
  · exact ⟨Nat.zero_le _, rfl⟩
  rintro ⟨i, n⟩ ⟨hi, hn⟩
  refine JC.seq ?_
  refine JC.seq ?_
  refine JC.region ?_
  refine JL.mv ?_
  refine JL.val rfl rfl rfl (.none rfl) (Ev.bin rfl rfl lss_int) ?_
  refine JL.nil ?_
  refine JQ.thenN ?_
  refine JC.cond rfl (fun hc1 => ?_) (fun hc1 => ?_)
  · -- t8 True
    replace hc1 := of_decide_eq_true hc1
    obtain ⟨x, hx⟩ := get_some (l := d.1.take 8) (k := i) (by rw [List.length_take, d.2]; omega)
    have hxd : d.1[i]? = some x := by rw [List.getElem?_take] at hx; split at hx; exact hx; cases hx
    refine JC.skip ?_
    refine JQ.thenN ?_
    refine JC.seq ?_
    refine JC.block ?_
    refine JC.region ?_
    refine JL.mv ?_
    refine JL.val rfl rfl rfl (.none rfl) (Ev.bin rfl rfl (mul_u64 (x := 256))) ?_
    refine JL.mv ?_
    refine JL.val rfl rfl rfl (.none rfl) (Ev.idxB1 rfl rfl Tryd.underlying33 Tryd.sizeOf5 (k := i) rfl (by omega)) ?_
    refine JL.val rfl rfl rfl (.none rfl) (Ev.load1 rfl Tryd.underlying5 rfl (Rd.own memK (arr8_get hxd))) ?_
    refine JL.val rfl rfl rfl (.none rfl) (Ev.conv rfl (conv_u8_u64 Tryd.underlying5 Tryd.underlying34)) ?_
    refine JL.val rfl rfl rfl (.none rfl) (Ev.bin rfl rfl add_u64) ?_
    refine JL.asg ?_
    refine JL.nil ?_
    refine JQ.blockN ?_
    refine JQ.thenN ?_
    refine JC.region ?_
    refine JL.mv ?_
    refine JL.val rfl rfl rfl (.none rfl) (Ev.bin rfl rfl (add_i64 (by omega))) ?_
    refine JL.asg ?_
    refine JL.nil ?_
    refine JQ.loopN (i + 1, 256 * n + x.toUInt64) ?_ ?_ ?_ ?_
    · exact Keeps.k
    · exact Sub.k
    · exact ⟨by omega, by rw [hN_succ hx, ← hn]; exact mul256 n x⟩
    · show 8 - (i + 1) < 8 - i; omega
  · -- t8 False
    replace hc1 := of_decide_eq_false hc1
    obtain rfl : i = 8 := by omega
    refine JC.exit ?_
    refine JQ.thenE ?_
    refine JQ.thenE ?_
    refine JQ.blockE ?_
    refine JQ.thenN ?_
    refine JC.seq ?_
    refine JC.region ?_
    refine JL.mv ?_
    refine JL.val rfl rfl rfl (.none rfl) (Ev.fld 1 rfl (fun _ _ => by kernel_rfl)) ?_
    refine JL.val rfl rfl rfl (.none rfl) (Ev.load1 rfl Tryd.underlying34 rfl (Rd.own memK rfl)) ?_
    refine JL.val rfl rfl rfl (.none rfl) (Ev.bin rfl rfl (rem_u64 (ne_zero64 (by have := form_q hok; omega)))) ?_
    refine JL.asg ?_
    refine JL.nil ?_
    refine JQ.thenN ?_
    refine JC.ret ?_
    refine JQ.end1 (H' := []) (.inl rfl) rfl (.tmp rfl) ?_ ?_
    · exact Sub.k
    · rw [hN_all (by rw [List.length_take]; omega)] at hn; rw [hn]

theorem rOf31_any (g : Gp) (oa ob : Option Addr) (ca cb : Nat) (ns : List UInt64) (t : List UInt8) (hok : formB g) (w : World) (ha : Cs w oa ns.length ca (u64s ns)) (hb : Bs w ob cb t) (hl : ns.length ≤ 1000) (ht : t.length ≤ 8000) :
    Calls Tryd.prog 146 #[.agg g.cl.toArray, .slice oa ns.length ca, .slice ob t.length cb] w (Ret w (fun v _ => v = u64 (hN ((sha (be8s ns ++ t)).take 8) % g.q))) := by
  refine enter (vs := [.agg g.cl.toArray, .slice oa ns.length ca, .slice ob t.length cb]) Tryd.func146 rfl Tryd.ntmps146 rfl ?_
  refine JC.seq ?_
  refine JC.region ?_
  refine JL.new rfl rfl rfl (.none rfl) (En.boxA rfl) (fun b3 hb3 => ?_)
  refine JL.asg ?_
  refine JL.nil ?_
  refine JQ.thenN ?_
  refine JC.seq ?_
  refine JC.region ?_
  refine JL.asg ?_
  refine JL.nil ?_
  refine JQ.thenN ?_
  refine JC.seq ?_
  refine JC.seq ?_
  refine JC.region ?_
  refine JL.asg ?_
  refine JL.nil ?_
  refine JQ.thenN ?_
  refine JC.block ?_
  refine JC.loop (X := Nat × List UInt8 × Option Row)
    (fun ⟨i, out, r⟩ => [(1, .slice oa ns.length ca), (2, .slice ob t.length cb), (3, .pointer (some ⟨b3, 0, none⟩)), (7, Row.v out.length r), (8, .int .i64 (i : Int))])
    (fun ⟨i, out, r⟩ => (b3, Obj.cells g.cl.toArray 53 (0, 0)) :: Row.b 5 r)
    (fun ⟨i, out, r⟩ => i ≤ ns.length ∧ out = be8s (ns.take i) ∧ Row.ok 1 out.length (out.map u8) r)
    (fun ⟨i, out, r⟩ => ns.length - i) (0, [], none) ?_ ?_ ?_ ?_
  · exact Keeps.k
  · exact Sub.of_cnt (fun a => by (try dsimp only); simp only [cntA]; omega)
  · exact ⟨Nat.zero_le _, rfl, Row.ok0⟩
  rintro ⟨i, out, r⟩ ⟨hi, ho, hr⟩
  refine JC.seq ?_
  refine JC.seq ?_
  refine JC.region ?_
  refine JL.mv ?_
  refine JL.mv ?_
  refine JL.val rfl rfl rfl (.none rfl) (Ev.lenS rfl Tryd.underlying138) ?_
  refine JL.val rfl rfl rfl (.none rfl) (Ev.bin rfl rfl lss_int) ?_
  refine JL.nil ?_
  refine JQ.thenN ?_
  refine JC.cond rfl (fun hc1 => ?_) (fun hc1 => ?_)
  · -- t12 True
    replace hc1 := of_decide_eq_true hc1
    obtain ⟨a, rfl⟩ := ha.get_some (by omega)
    obtain ⟨x, hx⟩ := get_some (l := ns) (k := i) (by omega)
    have hout : out.length ≤ 8000 := by rw [ho, be8s_length, List.length_take]; omega
    refine JC.skip ?_
    refine JQ.thenN ?_
    refine JC.seq ?_
    refine JC.block ?_
    refine JC.region ?_
    refine JL.mv ?_
    refine JL.mv ?_
    refine JL.mv ?_
    refine JL.val rfl rfl rfl (.none rfl) (Ev.idxS1 rfl rfl Tryd.underlying138 Tryd.sizeOf34 (k := i) rfl (by omega)) ?_
    refine JL.val rfl rfl rfl (.none rfl) (Ev.load1 rfl Tryd.underlying34 rfl ((Rds.old (ha.mem _ rfl)).at (k := i) (u64s_get hx))) ?_
    obtain ⟨o3, c3, e3, _, hC3⟩ := Row.vw (e := 5) hr
    refine JL.re (d := 15) rfl e3 ?_
    refine JL.callN rfl (.none rfl) rfl Tryd.call165 (fun w1 hw1 => rEight_any o3 c3 out x w1 ((hC3 w1 hw1 (fun p hp => by simp [hp])).bs rfl) (by omega)) ?_
    rintro _ _ ⟨rn, rfl, rfl, hrn⟩
    refine JL.asg ?_
    refine JL.nil ?_
    refine JQ.blockN ?_
    refine JQ.thenN ?_
    refine JC.region ?_
    refine JL.mv ?_
    refine JL.val rfl rfl rfl (.none rfl) (Ev.bin rfl rfl (add_i64 (by omega))) ?_
    refine JL.asg ?_
    refine JL.nil ?_
    refine JQ.loopN (i + 1, out ++ be8 x, rn) ?_ ?_ ?_ ?_
    · exact Keeps.k
    · exact Sub.of_cnt (fun a => by (try dsimp only); simp only [cntA]; omega)
    · exact ⟨by omega, by rw [ho]; exact be8s_next hx, hrn⟩
    · show ns.length - (i + 1) < ns.length - i; omega
  · -- t12 False
    replace hc1 := of_decide_eq_false hc1
    obtain rfl : i = ns.length := by omega
    rw [List.take_of_length_le (Nat.le_refl _)] at ho
    subst ho
    have hout : (be8s ns).length ≤ 8000 := by rw [be8s_length]; omega
    refine JC.exit ?_
    refine JQ.thenE ?_
    refine JQ.thenE ?_
    refine JQ.blockE ?_
    refine JQ.thenN ?_
    refine JC.seq ?_
    refine JC.cut (X := Unit) (fun _ => [(6, u64 (hN ((sha (be8s ns ++ t)).take 8) % g.q))]) (fun _ => []) ?_ ?_
    · refine JC.regionA (by kernel_rfl) ?_
      refine JA.tkc 1 rfl (.none rfl) (fun _ => (Ev.move rfl)) ?_
      refine JA.tkc 2 rfl (.none rfl) (fun _ => (Ev.move rfl)) ?_
      refine JA.branch [0, 3] (by kernel_rfl) rfl ?_
      refine JAll.cons rfl ?_ ?_
      · -- 0
        refine JO.val rfl rfl rfl (.none rfl) (Ev.lB Tryd.underlying53 Tryd.sizeOf53) ?_
        refine JA.one 3 ?_
        refine JO.gen rfl rfl rfl (.none rfl) (Eg.append (r := r) (n := (be8s ns).length) (m := t.length) (xs := (be8s ns).map u8) (news := t.map u8) (z := (.int .u8 0)) (s := 1) (bytes := 1) rfl rfl rfl Cut.k Tryd.underlying28 (by kernel_rfl) rfl (by decide) (by decide) hr (by simp) (fun a ha => Rds.old (hb.mem a ha)) (fun h => by have := hb.le; have := hb.empty h; omega) (u8s_one t) (by have := hout; omega)) ?_
        rintro _ _ ⟨r2, rfl, rfl, hr2, _⟩
        refine JA.one 4 ?_
        obtain ⟨o2, c2, e2, _, hC2⟩ := Row.vw (e := 5) hr2
        refine JO.re (d := 24) rfl e2 ?_
        have hlt : (be8s ns).length + t.length = ((be8s ns) ++ t).length := (List.length_append ..).symm
        refine JO.re (d := 24) (v' := .slice o2 ((be8s ns) ++ t).length c2) rfl (congrArg (fun n => Value.slice o2 n c2) hlt) ?_
        refine JO.callV rfl (.none rfl) rfl Tryd.call112 (fun w1 hw1 => of_any o2 c2 ((be8s ns) ++ t) w1 (Cs.bs (by rw [List.map_append]; exact hC2 w1 hw1 (fun p hp => by simp [hp])) (by rw [List.length_append])) (by rw [List.length_append]; have := hout; omega)) ?_
        refine JA.one 5 ?_
        refine JO.callV rfl (.none rfl) rfl Tryd.call169 (fun w1 hw1 => rOf30_any g ⟨sha (be8s ns ++ t), sha_length _⟩ hok w1) ?_
        refine JA.tkc 6 rfl (.none rfl) (fun _ => (Ev.assign rfl)) ?_
        refine JA.done (by kernel_rfl) ?_
        refine JQ.cutN () ?_ ?_
        · exact Keeps.k
        · exact Sub.nil
      refine JAll.cons rfl ?_ JAll.nil
      refine JO.gen rfl rfl rfl (.none rfl) (Eg.append (r := r) (n := (be8s ns).length) (m := t.length) (xs := (be8s ns).map u8) (news := t.map u8) (z := (.int .u8 0)) (s := 1) (bytes := 1) rfl rfl rfl Cut.k Tryd.underlying28 (by kernel_rfl) rfl (by decide) (by decide) hr (by simp) (fun a ha => Rds.old (hb.mem a ha)) (fun h => by have := hb.le; have := hb.empty h; omega) (u8s_one t) (by have := hout; omega)) ?_
      rintro _ _ ⟨r2, rfl, rfl, hr2, _⟩
      refine JA.branch [0, 4] (by kernel_rfl) rfl ?_
      refine JAll.cons rfl ?_ ?_
      · -- 0
        refine JO.val rfl rfl rfl (.none rfl) (Ev.lB Tryd.underlying53 Tryd.sizeOf53) ?_
        refine JA.one 4 ?_
        obtain ⟨o2, c2, e2, _, hC2⟩ := Row.vw (e := 5) hr2
        refine JO.re (d := 24) rfl e2 ?_
        have hlt : (be8s ns).length + t.length = ((be8s ns) ++ t).length := (List.length_append ..).symm
        refine JO.re (d := 24) (v' := .slice o2 ((be8s ns) ++ t).length c2) rfl (congrArg (fun n => Value.slice o2 n c2) hlt) ?_
        refine JO.callV rfl (.none rfl) rfl Tryd.call112 (fun w1 hw1 => of_any o2 c2 ((be8s ns) ++ t) w1 (Cs.bs (by rw [List.map_append]; exact hC2 w1 hw1 (fun p hp => by simp [hp])) (by rw [List.length_append])) (by rw [List.length_append]; have := hout; omega)) ?_
        refine JA.one 5 ?_
        refine JO.callV rfl (.none rfl) rfl Tryd.call169 (fun w1 hw1 => rOf30_any g ⟨sha (be8s ns ++ t), sha_length _⟩ hok w1) ?_
        refine JA.tkc 6 rfl (.none rfl) (fun _ => (Ev.assign rfl)) ?_
        refine JA.done (by kernel_rfl) ?_
        refine JQ.cutN () ?_ ?_
        · exact Keeps.k
        · exact Sub.nil
      refine JAll.cons rfl ?_ JAll.nil
      obtain ⟨o2, c2, e2, _, hC2⟩ := Row.vw (e := 5) hr2
      refine JO.re (d := 24) rfl e2 ?_
      have hlt : (be8s ns).length + t.length = ((be8s ns) ++ t).length := (List.length_append ..).symm
      refine JO.re (d := 24) (v' := .slice o2 ((be8s ns) ++ t).length c2) rfl (congrArg (fun n => Value.slice o2 n c2) hlt) ?_
      refine JO.callV rfl (.none rfl) rfl Tryd.call112 (fun w1 hw1 => of_any o2 c2 ((be8s ns) ++ t) w1 (Cs.bs (by rw [List.map_append]; exact hC2 w1 hw1 (fun p hp => by simp [hp])) (by rw [List.length_append])) (by rw [List.length_append]; have := hout; omega)) ?_
      refine JA.one 0 ?_
      refine JO.val rfl rfl rfl (.none rfl) (Ev.lB Tryd.underlying53 Tryd.sizeOf53) ?_
      refine JA.one 5 ?_
      refine JO.callV rfl (.none rfl) rfl Tryd.call169 (fun w1 hw1 => rOf30_any g ⟨sha (be8s ns ++ t), sha_length _⟩ hok w1) ?_
      refine JA.tkc 6 rfl (.none rfl) (fun _ => (Ev.assign rfl)) ?_
      refine JA.done (by kernel_rfl) ?_
      refine JQ.cutN () ?_ ?_
      · exact Keeps.k
      · exact Sub.nil
    rintro _
    refine JQ.thenN ?_
    refine JC.ret ?_
    refine JQ.end1 (H' := []) (.inl rfl) rfl (.tmp rfl) ?_ ?_
    · exact Sub.k
    · exact rfl

theorem rTold_any (g : Gp) (x k c : UInt64) (hok : formB g) (w : World) :
    Calls Tryd.prog 145 #[.agg g.cl.toArray, u64 x, u64 k, u64 c] w (Ret w (fun v _ => v = u64 ((k + c * x % g.q) % g.q))) := by
  refine enter (vs := [.agg g.cl.toArray, u64 x, u64 k, u64 c]) Tryd.func145 rfl Tryd.ntmps145 rfl ?_
  refine JC.seq ?_
  refine JC.region ?_
  refine JL.new rfl rfl rfl (.none rfl) (En.boxA rfl) (fun b4 hb4 => ?_)
  refine JL.asg ?_
  refine JL.nil ?_
  refine JQ.thenN ?_
  refine JC.seq ?_
  refine JC.regionQ (by kernel_rfl) (by kernel_rfl) ?_
  refine JW.val rfl rfl (.none rfl) (Ev.lB Tryd.underlying53 Tryd.sizeOf53) ?_
  refine JW.val rfl rfl (.none rfl) (Ev.move rfl) ?_
  refine JW.val rfl rfl (.none rfl) (Ev.lB Tryd.underlying53 Tryd.sizeOf53) ?_
  refine JW.val rfl rfl (.none rfl) (Ev.move rfl) ?_
  refine JW.val rfl rfl (.none rfl) (Ev.move rfl) ?_
  refine JW.call rfl (.none rfl) rfl Tryd.call168 (fun w1 hw1 => rProduct_any g c x hok w1) ?_
  refine JW.call rfl (.none rfl) rfl Tryd.call167 (fun w1 hw1 => rSum_any g k (c * x % g.q) hok w1) ?_
  refine JW.val rfl rfl (.none rfl) (Ev.assign rfl) ?_
  refine JW.nilQ ?_
  refine JQ.thenN ?_
  refine JC.ret ?_
  refine JQ.end1 (H' := []) (.inl rfl) rfl (.tmp rfl) ?_ ?_
  · exact Sub.k
  · exact rfl

theorem rEven_any (g : Gp) (a y r c s : UInt64) (hok : formB g) (ha : a.toNat < g.p.toNat) (hy : y.toNat < g.p.toNat) (w : World) :
    Calls Tryd.prog 150 #[.agg g.cl.toArray, u64 a, u64 y, u64 r, u64 c, u64 s] w (Ret w (fun v _ => v = .bool (decide (pw a s g.p = r * pw y c g.p % g.p)))) := by
  refine enter (vs := [.agg g.cl.toArray, u64 a, u64 y, u64 r, u64 c, u64 s]) Tryd.func150 rfl Tryd.ntmps150 rfl ?_
  refine JC.seq ?_
  refine JC.region ?_
  refine JL.new rfl rfl rfl (.none rfl) (En.boxA rfl) (fun b6 hb6 => ?_)
  refine JL.asg ?_
  refine JL.nil ?_
  refine JQ.thenN ?_
  refine JC.seq ?_
  refine JC.regionQ (by kernel_rfl) (by kernel_rfl) ?_
  refine JW.val rfl rfl (.none rfl) (Ev.lB Tryd.underlying53 Tryd.sizeOf53) ?_
  refine JW.val rfl rfl (.none rfl) (Ev.move rfl) ?_
  refine JW.val rfl rfl (.none rfl) (Ev.move rfl) ?_
  refine JW.call rfl (.none rfl) rfl Tryd.call144 (fun w1 hw1 => rPow_any g a s hok ha w1) ?_
  refine JW.val rfl rfl (.none rfl) (Ev.move rfl) ?_
  refine JW.val rfl rfl (.none rfl) (Ev.lB Tryd.underlying53 Tryd.sizeOf53) ?_
  refine JW.val rfl rfl (.none rfl) (Ev.move rfl) ?_
  refine JW.val rfl rfl (.none rfl) (Ev.move rfl) ?_
  refine JW.call rfl (.none rfl) rfl Tryd.call144 (fun w1 hw1 => rPow_any g y c hok hy w1) ?_
  refine JW.val rfl rfl (.none rfl) (Ev.bin rfl rfl mul_u64) ?_
  refine JW.val rfl rfl (.none rfl) (Ev.fld 0 rfl (fun _ _ => by kernel_rfl)) ?_
  refine JW.val rfl rfl (.none rfl) (Ev.load1 rfl Tryd.underlying34 rfl (Rd.own memK rfl)) ?_
  refine JW.val rfl rfl (.none rfl) (Ev.bin rfl rfl (rem_u64 (ne_zero64 (by have := hok.1; omega)))) ?_
  refine JW.val rfl rfl (.none rfl) (Ev.bin rfl rfl eql_int) ?_
  refine JW.val rfl rfl (.none rfl) (Ev.assign rfl) ?_
  refine JW.nilQ ?_
  refine JQ.thenN ?_
  refine JC.ret ?_
  refine JQ.end1 (H' := []) (.inl rfl) rfl (.tmp rfl) ?_ ?_
  · exact Sub.k
  · exact congrArg Value.bool (decide_eq_decide.2 ⟨fun h => UInt64.toNat_inj.1 (by omega), fun h => by rw [h]⟩)

theorem rNonce_any (g : Gp) (x : UInt64) (ob : Option Addr) (cb : Nat) (t : List UInt8) (hok : formB g) (w : World) (hb : Bs w ob cb t) (ht : t.length ≤ 8000) :
    Calls Tryd.prog 143 #[.agg g.cl.toArray, u64 x, .slice ob t.length cb] w (Ret w (fun v _ => v = u64 (nonceR g x t))) := by
  refine enter (vs := [.agg g.cl.toArray, u64 x, .slice ob t.length cb]) Tryd.func143 rfl Tryd.ntmps143 rfl ?_
  refine JC.seq ?_
  refine JC.region ?_
  refine JL.new rfl rfl rfl (.none rfl) (En.boxA rfl) (fun b3 hb3 => ?_)
  refine JL.asg ?_
  refine JL.nil ?_
  refine JQ.thenN ?_
  refine JC.seq ?_
  refine JC.region ?_
  refine JL.mv ?_
  refine JL.callN rfl (.none rfl) rfl Tryd.call165 (fun w1 hw1 => rEight_any none 0 [] x w1 bs_nil (by decide)) ?_
  rintro _ _ ⟨r1, rfl, rfl, hr1⟩
  have hout : (be8 x).length ≤ 8000 := by rw [be8_length]; decide
  refine JL.mv ?_
  refine JL.gen rfl rfl rfl (.none rfl) (Eg.append (r := r1) (n := (be8 x).length) (m := t.length) (xs := (be8 x).map u8) (news := t.map u8) (z := (.int .u8 0)) (s := 1) (bytes := 1) rfl rfl rfl Cut.k Tryd.underlying28 (by kernel_rfl) rfl (by decide) (by decide) hr1 (by simp) (fun a ha => Rds.old (hb.mem a ha)) (fun h => by have := hb.le; have := hb.empty h; omega) (u8s_one t) (by have := hout; omega)) ?_
  rintro _ _ ⟨r2, rfl, rfl, hr2, _⟩
  obtain ⟨o2, c2, e2, _, hC2⟩ := Row.vw (e := 5) hr2
  refine JL.re (d := 13) rfl e2 ?_
  have hlt : (be8 x).length + t.length = ((be8 x) ++ t).length := (List.length_append ..).symm
  refine JL.re (d := 13) (v' := .slice o2 ((be8 x) ++ t).length c2) rfl (congrArg (fun n => Value.slice o2 n c2) hlt) ?_
  refine JL.callV rfl (.none rfl) rfl Tryd.call112 (fun w1 hw1 => of_any o2 c2 ((be8 x) ++ t) w1 (Cs.bs (by rw [List.map_append]; exact hC2 w1 hw1 (fun p hp => by simp [hp])) (by rw [List.length_append])) (by rw [List.length_append]; have := hout; omega)) ?_
  refine JL.new rfl rfl rfl (.none rfl) (En.allocZ (cs := arr8 (List.replicate 32 0)) Tryd.zeroValue33 rfl) (fun b7 hb7 => ?_)
  refine JL.sto rfl rfl (.none rfl) (Es.sA Tryd.sizeOf33) ?_
  refine JL.nil ?_
  refine JQ.thenN ?_
  refine JC.seq ?_
  refine JC.region ?_
  refine JL.asg ?_
  refine JL.nil ?_
  refine JQ.thenN ?_
  refine JC.seq ?_
  refine JC.seq ?_
  refine JC.region ?_
  refine JL.asg ?_
  refine JL.nil ?_
  refine JQ.thenN ?_
  refine JC.block ?_
  refine JC.loop (X := Nat × UInt64)
    (fun ⟨i, n⟩ => [(3, .pointer (some ⟨b3, 0, none⟩)), (7, .pointer (some ⟨b7, 0, none⟩)), (8, u64 n), (9, .int .i64 (i : Int))])
    (fun ⟨i, n⟩ => [(b7, Obj.cells (arr8 (sha (be8 x ++ t))) 33 (0, 0)), (b3, Obj.cells g.cl.toArray 53 (0, 0))])
    (fun ⟨i, n⟩ => i ≤ 8 ∧ n = hN (((sha (be8 x ++ t)).take 8).take i))
    (fun ⟨i, n⟩ => 8 - i) (0, 0) ?_ ?_ ?_ ?_
  · exact Keeps.k
  · exact Sub.k
  · exact ⟨Nat.zero_le _, rfl⟩
  rintro ⟨i, n⟩ ⟨hi, hn⟩
  refine JC.seq ?_
  refine JC.seq ?_
  refine JC.region ?_
  refine JL.mv ?_
  refine JL.val rfl rfl rfl (.none rfl) (Ev.bin rfl rfl lss_int) ?_
  refine JL.nil ?_
  refine JQ.thenN ?_
  refine JC.cond rfl (fun hc1 => ?_) (fun hc1 => ?_)
  · -- t16 True
    replace hc1 := of_decide_eq_true hc1
    obtain ⟨x1, hx⟩ := get_some (l := (sha (be8 x ++ t)).take 8) (k := i) (by rw [List.length_take, sha_length]; omega)
    have hxd : (sha (be8 x ++ t))[i]? = some x1 := by rw [List.getElem?_take] at hx; split at hx; exact hx; cases hx
    refine JC.skip ?_
    refine JQ.thenN ?_
    refine JC.seq ?_
    refine JC.block ?_
    refine JC.region ?_
    refine JL.mv ?_
    refine JL.val rfl rfl rfl (.none rfl) (Ev.bin rfl rfl (mul_u64 (x := 256))) ?_
    refine JL.mv ?_
    refine JL.val rfl rfl rfl (.none rfl) (Ev.idxB1 rfl rfl Tryd.underlying33 Tryd.sizeOf5 (k := i) rfl (by omega)) ?_
    refine JL.val rfl rfl rfl (.none rfl) (Ev.load1 rfl Tryd.underlying5 rfl (Rd.own memK (arr8_get hxd))) ?_
    refine JL.val rfl rfl rfl (.none rfl) (Ev.conv rfl (conv_u8_u64 Tryd.underlying5 Tryd.underlying34)) ?_
    refine JL.val rfl rfl rfl (.none rfl) (Ev.bin rfl rfl add_u64) ?_
    refine JL.asg ?_
    refine JL.nil ?_
    refine JQ.blockN ?_
    refine JQ.thenN ?_
    refine JC.region ?_
    refine JL.mv ?_
    refine JL.val rfl rfl rfl (.none rfl) (Ev.bin rfl rfl (add_i64 (by omega))) ?_
    refine JL.asg ?_
    refine JL.nil ?_
    refine JQ.loopN (i + 1, 256 * n + x1.toUInt64) ?_ ?_ ?_ ?_
    · exact Keeps.k
    · exact Sub.k
    · exact ⟨by omega, by rw [hN_succ hx, ← hn]; exact mul256 n x1⟩
    · show 8 - (i + 1) < 8 - i; omega
  · -- t16 False
    replace hc1 := of_decide_eq_false hc1
    obtain rfl : i = 8 := by omega
    refine JC.exit ?_
    refine JQ.thenE ?_
    refine JQ.thenE ?_
    refine JQ.blockE ?_
    refine JQ.thenN ?_
    refine JC.seq ?_
    refine JC.region ?_
    refine JL.mv ?_
    refine JL.val rfl rfl rfl (.none rfl) (Ev.fld 1 rfl (fun _ _ => by kernel_rfl)) ?_
    refine JL.val rfl rfl rfl (.none rfl) (Ev.load1 rfl Tryd.underlying34 rfl (Rd.own memK rfl)) ?_
    refine JL.val rfl rfl rfl (.none rfl) (Ev.bin rfl rfl (sub_u64 (y := 1))) ?_
    refine JL.val rfl rfl rfl (.none rfl) (Ev.bin rfl rfl (rem_u64 (ne_zero64 (by rw [sub1 (by have := form_q hok; omega)]; have := form_q hok; omega)))) ?_
    refine JL.val rfl rfl rfl (.none rfl) (Ev.bin rfl rfl (add_u64 (y := 1))) ?_
    refine JL.asg ?_
    refine JL.nil ?_
    refine JQ.thenN ?_
    refine JC.ret ?_
    refine JQ.end1 (H' := []) (.inl rfl) rfl (.tmp rfl) ?_ ?_
    · exact Sub.k
    · rw [hN_all (by rw [List.length_take]; omega)] at hn; rw [nonceR, hn]

end Go.Proofs.YtopaednfjjjnbaaDoor
