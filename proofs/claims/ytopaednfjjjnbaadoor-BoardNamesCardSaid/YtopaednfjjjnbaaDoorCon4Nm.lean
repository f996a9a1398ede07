/-
  Consistency in the program: the way down, lengths, following, verifying.
-/
import Derived.Test.YtopaednfjjjnbaaDoorCon3Nm
namespace Go.Proofs.YtopaednfjjjnbaaDoor
open Go Go.RowKit
set_option maxRecDepth 100000

section
variable {c : Cx} {σ : Slots} {H : Blocks} {ty : TypeId} {pos : String} {af : Array Edge} {gd : Option (Nat × Bool)} {dst : Option Nat}
theorem En.bs1T {T e : TypeId} {x : Operand} {t : Tn} {z : Value} (hx : ev σ x = some (.agg (tcl t).toArray)) (hT : c.P.underlying T = some (.slice e)) (hs : ∀ w, (sizeOf e).run c.P w = .ok 4 w)
    (hz : ∀ w, (zeroValue e).run c.P w = .ok z w) :
    En c σ H ⟨dst, .buildSlice T 1 #[(0, x)], ty, pos, af, gd⟩ (fun g => .slice (some ⟨g, 0, none⟩) 1 1) (.cells (tcl t).toArray e (0, 0)) := by
  have h := En.bsA (c := c) (σ := σ) (H := H) (dst := dst) (ty := ty) (pos := pos) (af := af) (gd := gd) (parts := [(0, x)]) (vs := [.agg (tcl t).toArray]) (n := 1) (s := 4) (by simp [evs, hx]) rfl hT hs hz (fun v hv => by
    obtain rfl := List.mem_singleton.1 hv
    rfl) (by decide) (by decide) (by decide)
  exact h
theorem Ev.lenRow {T : TypeId} {x : Operand} {n : Nat} {r : Option Row} {e : TypeId} (hx : ev σ x = some (Row.v n r)) (hu : c.P.underlying T = some (.slice e)) {s : Nat} {xs : List Value} (hr : Row.ok s n xs r) : Ev c σ H ⟨dst, .call { callee := .builtin .len, args := #[x], argTypes := #[T] }, ty, pos, af, gd⟩ (.int .i64 (n : Int)) := by
  cases r with
  | none => obtain rfl := hr.1; exact Ev.lenS hx hu
  | some q => exact Ev.lenS hx hu
end

theorem down_any (M N : Nat) (w : World) (hm1 : 1 ≤ M) (hm2 : M ≤ N) (hmx : N ≤ 1024) :
    Calls Tryd.prog 99 #[.int .i64 (M : Int), .int .i64 (N : Int)] w (Ret w (fun v H => ∃ r : Option Row, v = .tuple #[Row.v (downW M N 0).length r, .bool (downF M N true), .int .i64 ((downA M N 0 : Nat) : Int)] ∧ H = Row.b 154 r ∧ Row.ok 4 (downW M N 0).length (ft (downW M N 0)) r)) := by
  refine enter (vs := [.int .i64 (M : Int), .int .i64 (N : Int)]) Tryd.func99 rfl Tryd.ntmps99 rfl ?_
  refine JC.seq ?_
  refine JC.region ?_
  refine JL.asg ?_
  refine JL.asg ?_
  refine JL.asg ?_
  refine JL.nil ?_
  refine JQ.thenN ?_
  refine JC.scope ?_
  refine JC.seq ?_
  refine JC.region ?_
  refine JL.asg ?_
  refine JL.nil ?_
  refine JQ.thenN ?_
  refine JC.seq ?_
  refine JC.label ?_
  refine JQ.thenN ?_
  refine JC.seq ?_
  refine JC.block ?_
  refine JC.loop (X := Nat × Nat × Nat × Bool × List Tn × Option Row)
    (fun ⟨m, n, fm, fr, pre, r⟩ => [(0, .int .i64 (m : Int)), (1, .int .i64 (n : Int)), (4, Row.v pre.length r), (5, .bool fr), (6, .int .i64 (fm : Int))])
    (fun ⟨m, n, fm, fr, pre, r⟩ => Row.b 154 r)
    (fun ⟨m, n, fm, fr, pre, r⟩ => 1 ≤ m ∧ m ≤ n ∧ n ≤ N ∧ fm + n ≤ N ∧ pre.length + n ≤ N ∧ Row.ok 4 pre.length (ft pre) r ∧ pre ++ downW m n fm = downW M N 0 ∧ downF m n fr = downF M N true ∧ downA m n fm = downA M N 0)
    (fun ⟨m, n, fm, fr, pre, r⟩ => n) (M, N, 0, true, [], none) ?_ ?_ ?_ ?_
  · exact Keeps.k
  · exact Sub.nil
  · exact ⟨hm1, hm2, Nat.le_refl _, by omega, Nat.le_of_eq (Nat.zero_add _), Row.ok0, rfl, rfl, rfl⟩
  rintro ⟨m, n, fm, fr, pre, r⟩ ⟨hi1, hi2, hi3, hi4, hi5, hr, e1, e2, e3⟩
  refine JC.block ?_
  refine JC.seq ?_
  refine JC.region ?_
  refine JL.asg ?_
  refine JL.nil ?_
  refine JQ.thenN ?_
  refine JC.seq ?_
  refine JC.seq ?_
  refine JC.region ?_
  refine JL.mv ?_
  refine JL.val rfl rfl rfl (.none rfl) (Ev.bin rfl rfl gtr_int) ?_
  refine JL.nil ?_
  refine JQ.thenN ?_
  refine JC.cond rfl (fun hc1 => ?_) (fun hc1 => ?_)
  · -- t9 True
    replace hc1 := of_decide_eq_true hc1
    have h2 : 2 ≤ n := by omega
    have hbl := bel_lt h2
    have hbp := bel_pos n
    refine JC.region ?_
    refine JL.mv ?_
    refine JL.callV rfl (.none rfl) rfl Tryd.call127 (fun w1 hw1 => kbelow_any n (by omega) (by omega) w1) ?_
    refine JL.asg ?_
    refine JL.nil ?_
    refine JQ.thenN ?_
    refine JC.block ?_
    refine JC.seq ?_
    refine JC.region ?_
    refine JL.mv ?_
    refine JL.mv ?_
    refine JL.val rfl rfl rfl (.none rfl) (Ev.bin rfl rfl eql_int) ?_
    refine JL.asg ?_
    refine JL.nil ?_
    refine JQ.thenN ?_
    refine JC.cond rfl (fun hc2 => ?_) (fun hc2 => ?_)
    · -- t28 True
      replace hc2 := of_decide_eq_true hc2
      have he : m = n := by omega
      refine JC.exit ?_
      refine JQ.blockO rfl ?_
      refine JQ.blockO rfl ?_
      refine JQ.thenE ?_
      refine JQ.blockE ?_
      refine JQ.thenN ?_
      refine JC.seq ?_
      refine JC.region ?_
      refine JL.mv ?_
      refine JL.mv ?_
      refine JL.mv ?_
      refine JL.asg ?_
      refine JL.asg ?_
      refine JL.asg ?_
      refine JL.nil ?_
      refine JQ.thenN ?_
      refine JC.ret ?_
      refine JQ.scR ?_
      refine JQ.end3 (H' := (Row.b 154 r)) (.inl rfl) rfl (.tmp rfl) (.tmp rfl) (.tmp rfl) ?_ ?_
      · exact Sub.all
      · obtain ⟨t1, t2, t3⟩ := down_top (fm := fm) (fr := fr) he; rw [t1, List.append_nil] at e1; rw [t2] at e2; rw [t3] at e3; exact ⟨r, by rw [e1, e2, e3], rfl, by rw [← e1]; exact hr⟩
    · -- t28 False
      replace hc2 := of_decide_eq_false hc2
      have hne : m ≠ n := by omega
      refine JC.seq ?_
      refine JC.region ?_
      refine JL.mv ?_
      refine JL.mv ?_
      refine JL.val rfl rfl rfl (.none rfl) (Ev.bin rfl rfl leq_int) ?_
      refine JL.asg ?_
      refine JL.nil ?_
      refine JQ.thenN ?_
      refine JC.cond rfl (fun hc3 => ?_) (fun hc3 => ?_)
      · -- t32 True
        replace hc3 := of_decide_eq_true hc3
        have hl : m ≤ bel n := by omega
        obtain ⟨ed1, ed2, ed3⟩ := down_left (fm := fm) (fr := fr) hi1 (show m < n by omega) hl
        refine JC.seq ?_
        refine JC.region ?_
        refine JL.mv ?_
        refine JL.mv ?_
        refine JL.mv ?_
        refine JL.mv ?_
        refine JL.val rfl rfl rfl (.none rfl) (Ev.cast (v' := .agg (tcl ⟨fm, n, bel n, false⟩).toArray) (rfl) (Ev.buN rfl (fun _ => by kernel_rfl))) ?_
        refine JL.new rfl rfl rfl (.none rfl) (En.bs1T rfl Tryd.underlying147 Tryd.sizeOf154 Tryd.zeroValue154) (fun b41 hb41 => ?_)
        refine JL.gen rfl rfl rfl (.none rfl) (Eg.append1 (r := r) (n := pre.length) (xs := ft pre) (news := tcl ⟨fm, n, bel n, false⟩) (z := (.agg #[.int .i64 0, .int .i64 0, .int .i64 0, .bool false])) (s := 4) (bytes := 32) rfl rfl rfl Cut.k Tryd.underlying147 (by kernel_rfl) rfl (by decide) (by decide) hr (Rds.all memK) rfl (by decide) (by intro u hu; simp only [tcl, List.mem_cons, List.not_mem_nil, or_false] at hu; rcases hu with rfl | rfl | rfl | rfl <;> rfl) (by omega)) ?_
        rintro _ _ ⟨rn, rfl, rfl, hrn⟩
        refine JL.asg ?_
        refine JL.nil ?_
        refine JQ.thenN ?_
        refine JC.region ?_
        refine JL.mv ?_
        refine JL.asg ?_
        refine JL.nil ?_
        refine JQ.blockN ?_
        refine JQ.blockN ?_
        refine JQ.loopN (m, bel n, fm, fr, pre ++ [⟨fm, n, bel n, false⟩], some rn) ?_ ?_ ?_ ?_
        · (dsimp only; (try rw [List.length_append, List.length_singleton]); exact Keeps.k)
        · exact Sub.of_cnt (fun a => by (try dsimp only); simp only [cntA]; omega)
        · exact ⟨hi1, hl, by omega, by omega, by rw [List.length_append, List.length_singleton]; omega, by rw [List.length_append, ft_append]; exact hrn, by rw [List.append_assoc, ← e1, ed1]; rfl, by rw [← e2, ed2], by rw [← e3, ed3]⟩
        · first | exact hbl | (show n - bel n < n; omega)
      · -- t32 False
        replace hc3 := of_decide_eq_false hc3
        have hl : ¬ m ≤ bel n := by omega
        obtain ⟨ed1, ed2, ed3⟩ := down_right (fm := fm) (fr := fr) hi1 (show m < n by omega) hl
        refine JC.seq ?_
        refine JC.region ?_
        refine JL.mv ?_
        refine JL.mv ?_
        refine JL.mv ?_
        refine JL.mv ?_
        refine JL.val rfl rfl rfl (.none rfl) (Ev.cast (v' := .agg (tcl ⟨fm, n, bel n, true⟩).toArray) (rfl) (Ev.buN rfl (fun _ => by kernel_rfl))) ?_
        refine JL.new rfl rfl rfl (.none rfl) (En.bs1T rfl Tryd.underlying147 Tryd.sizeOf154 Tryd.zeroValue154) (fun b17 hb17 => ?_)
        refine JL.gen rfl rfl rfl (.none rfl) (Eg.append1 (r := r) (n := pre.length) (xs := ft pre) (news := tcl ⟨fm, n, bel n, true⟩) (z := (.agg #[.int .i64 0, .int .i64 0, .int .i64 0, .bool false])) (s := 4) (bytes := 32) rfl rfl rfl Cut.k Tryd.underlying147 (by kernel_rfl) rfl (by decide) (by decide) hr (Rds.all memK) rfl (by decide) (by intro u hu; simp only [tcl, List.mem_cons, List.not_mem_nil, or_false] at hu; rcases hu with rfl | rfl | rfl | rfl <;> rfl) (by omega)) ?_
        rintro _ _ ⟨rn, rfl, rfl, hrn⟩
        refine JL.asg ?_
        refine JL.nil ?_
        refine JQ.thenN ?_
        refine JC.region ?_
        refine JL.mv ?_
        refine JL.mv ?_
        refine JL.val rfl rfl rfl (.none rfl) (Ev.cast (v' := .int .i64 ((fm + bel n : Nat) : Int)) (congrArg (Value.int .i64) (by omega)) (Ev.bin rfl rfl (add_i64 (by omega)))) ?_
        refine JL.mv ?_
        refine JL.mv ?_
        refine JL.val rfl rfl rfl (.none rfl) (Ev.cast (v' := .int .i64 ((m - bel n : Nat) : Int)) (congrArg (Value.int .i64) (by omega)) (Ev.bin rfl rfl (sub_i64 (by omega)))) ?_
        refine JL.mv ?_
        refine JL.mv ?_
        refine JL.val rfl rfl rfl (.none rfl) (Ev.cast (v' := .int .i64 ((n - bel n : Nat) : Int)) (congrArg (Value.int .i64) (by omega)) (Ev.bin rfl rfl (sub_i64 (by omega)))) ?_
        refine JL.asg ?_
        refine JL.asg ?_
        refine JL.asg ?_
        refine JL.asg ?_
        refine JL.nil ?_
        refine JQ.blockN ?_
        refine JQ.blockN ?_
        refine JQ.loopN (m - bel n, n - bel n, fm + bel n, false, pre ++ [⟨fm, n, bel n, true⟩], some rn) ?_ ?_ ?_ ?_
        · (dsimp only; (try rw [List.length_append, List.length_singleton]); exact Keeps.k)
        · exact Sub.of_cnt (fun a => by (try dsimp only); simp only [cntA]; omega)
        · exact ⟨by omega, by omega, by omega, by omega, by rw [List.length_append, List.length_singleton]; omega, by rw [List.length_append, ft_append]; exact hrn, by rw [List.append_assoc, ← e1, ed1]; rfl, by rw [← e2, ed2], by rw [← e3, ed3]⟩
        · first | exact hbl | (show n - bel n < n; omega)
  · -- t9 False
    replace hc1 := of_decide_eq_false hc1
    have h2 : n = 1 := by omega
    refine JC.skip ?_
    refine JQ.thenN ?_
    refine JC.block ?_
    refine JC.seq ?_
    refine JC.region ?_
    refine JL.mv ?_
    refine JL.mv ?_
    refine JL.val rfl rfl rfl (.none rfl) (Ev.bin rfl rfl eql_int) ?_
    refine JL.asg ?_
    refine JL.nil ?_
    refine JQ.thenN ?_
    refine JC.cond rfl (fun hc4 => ?_) (fun hc4 => ?_)
    · -- t28 True
      replace hc4 := of_decide_eq_true hc4
      have he : m = n := by omega
      refine JC.exit ?_
      refine JQ.blockO rfl ?_
      refine JQ.blockO rfl ?_
      refine JQ.thenE ?_
      refine JQ.blockE ?_
      refine JQ.thenN ?_
      refine JC.seq ?_
      refine JC.region ?_
      refine JL.mv ?_
      refine JL.mv ?_
      refine JL.mv ?_
      refine JL.asg ?_
      refine JL.asg ?_
      refine JL.asg ?_
      refine JL.nil ?_
      refine JQ.thenN ?_
      refine JC.ret ?_
      refine JQ.scR ?_
      refine JQ.end3 (H' := (Row.b 154 r)) (.inl rfl) rfl (.tmp rfl) (.tmp rfl) (.tmp rfl) ?_ ?_
      · exact Sub.all
      · obtain ⟨t1, t2, t3⟩ := down_top (fm := fm) (fr := fr) he; rw [t1, List.append_nil] at e1; rw [t2] at e2; rw [t3] at e3; exact ⟨r, by rw [e1, e2, e3], rfl, by rw [← e1]; exact hr⟩
    · -- t28 False
      replace hc4 := of_decide_eq_false hc4
      exfalso; omega

theorem cProofLen_any (i n : Int) (hib : -9223372036854775808 ≤ i ∧ i ≤ 9223372036854775807) (hnb : -9223372036854775808 ≤ n ∧ n ≤ 9223372036854775807) (w : World) :
    Calls Tryd.prog 131 #[.int .i64 i, .int .i64 n] w (Ret w (fun v _ => v = .tuple #[.int .i64 (pcV i n : Int), .int .i64 (pcE i n)])) := by
  refine enter (vs := [.int .i64 i, .int .i64 n]) Tryd.func131 rfl Tryd.ntmps131 rfl ?_
  refine JC.seq ?_
  refine JC.region ?_
  refine JL.asg ?_
  refine JL.asg ?_
  refine JL.nil ?_
  refine JQ.thenN ?_
  refine JC.seq ?_
  refine JC.seq ?_
  refine JC.region ?_
  refine JL.mv ?_
  refine JL.val rfl rfl rfl (.none rfl) (Ev.bin rfl rfl lss_int) ?_
  refine JL.mv ?_
  refine JL.split (d := 11) rfl (fun hg1 => ?_) (fun hg1 => ?_)
  · -- guard 11 true
    have hbad : badC i n := .inl (by have := of_decide_eq_true hg1; omega)
    refine JL.skip rfl rfl (.noF rfl rfl rfl) ?_
    refine JL.skip rfl rfl (.noF rfl rfl rfl) ?_
    refine JL.val rfl rfl rfl (.none rfl) (Ev.pickT rfl rfl) ?_
    refine JL.mv ?_
    refine JL.skip rfl rfl (.noF rfl rfl rfl) ?_
    refine JL.skip rfl rfl (.noF rfl rfl rfl) ?_
    refine JL.val rfl rfl rfl (.none rfl) (Ev.pickT rfl rfl) ?_
    refine JL.mv ?_
    refine JL.skip rfl rfl (.noF rfl rfl rfl) ?_
    refine JL.skip rfl rfl (.noF rfl rfl rfl) ?_
    refine JL.skip rfl rfl (.noF rfl rfl rfl) ?_
    refine JL.val rfl rfl rfl (.none rfl) (Ev.pickT rfl rfl) ?_
    refine JL.nil ?_
    refine JQ.thenN ?_
    refine JC.condT rfl ?_
    refine JC.seq ?_
    refine JC.region ?_
    refine JL.asg ?_
    refine JL.asg ?_
    refine JL.nil ?_
    refine JQ.thenN ?_
    refine JC.ret ?_
    refine JQ.thenR ?_
    refine JQ.end2 (H' := []) (.inl rfl) rfl (.tmp rfl) (.tmp rfl) ?_ ?_
    · exact Sub.k
    · rw [pcV_bad hbad, pcE_bad hbad]; rfl
  · -- guard 11 false
    have hg1 := of_decide_eq_false hg1
    refine JL.val rfl rfl rfl (.yes rfl rfl rfl) (Ev.move rfl) ?_
    refine JL.val rfl rfl rfl (.yes rfl rfl rfl) (Ev.bin rfl rfl gtr_int) ?_
    refine JL.val rfl rfl rfl (.none rfl) (Ev.pickF rfl rfl) ?_
    refine JL.mv ?_
    refine JL.split (d := 15) rfl (fun hg2 => ?_) (fun hg2 => ?_)
    · -- guard 15 true
      have hbad : badC i n := .inr (.inl (by have := of_decide_eq_true hg2; omega))
      refine JL.skip rfl rfl (.noF rfl rfl rfl) ?_
      refine JL.skip rfl rfl (.noF rfl rfl rfl) ?_
      refine JL.val rfl rfl rfl (.none rfl) (Ev.pickT rfl rfl) ?_
      refine JL.mv ?_
      refine JL.skip rfl rfl (.noF rfl rfl rfl) ?_
      refine JL.skip rfl rfl (.noF rfl rfl rfl) ?_
      refine JL.skip rfl rfl (.noF rfl rfl rfl) ?_
      refine JL.val rfl rfl rfl (.none rfl) (Ev.pickT rfl rfl) ?_
      refine JL.nil ?_
      refine JQ.thenN ?_
      refine JC.condT rfl ?_
      refine JC.seq ?_
      refine JC.region ?_
      refine JL.asg ?_
      refine JL.asg ?_
      refine JL.nil ?_
      refine JQ.thenN ?_
      refine JC.ret ?_
      refine JQ.thenR ?_
      refine JQ.end2 (H' := []) (.inl rfl) rfl (.tmp rfl) (.tmp rfl) ?_ ?_
      · exact Sub.k
      · rw [pcV_bad hbad, pcE_bad hbad]; rfl
    · -- guard 15 false
      have hg2 := of_decide_eq_false hg2
      refine JL.val rfl rfl rfl (.yes rfl rfl rfl) (Ev.move rfl) ?_
      refine JL.val rfl rfl rfl (.yes rfl rfl rfl) (Ev.bin rfl rfl lss_int) ?_
      refine JL.val rfl rfl rfl (.none rfl) (Ev.pickF rfl rfl) ?_
      refine JL.mv ?_
      refine JL.split (d := 19) rfl (fun hg3 => ?_) (fun hg3 => ?_)
      · -- guard 19 true
        have hbad : badC i n := .inr (.inr (.inl (by have := of_decide_eq_true hg3; omega)))
        refine JL.skip rfl rfl (.noF rfl rfl rfl) ?_
        refine JL.skip rfl rfl (.noF rfl rfl rfl) ?_
        refine JL.skip rfl rfl (.noF rfl rfl rfl) ?_
        refine JL.val rfl rfl rfl (.none rfl) (Ev.pickT rfl rfl) ?_
        refine JL.nil ?_
        refine JQ.thenN ?_
        refine JC.condT rfl ?_
        refine JC.seq ?_
        refine JC.region ?_
        refine JL.asg ?_
        refine JL.asg ?_
        refine JL.nil ?_
        refine JQ.thenN ?_
        refine JC.ret ?_
        refine JQ.thenR ?_
        refine JQ.end2 (H' := []) (.inl rfl) rfl (.tmp rfl) (.tmp rfl) ?_ ?_
        · exact Sub.k
        · rw [pcV_bad hbad, pcE_bad hbad]; rfl
      · -- guard 19 false
        have hg3 := of_decide_eq_false hg3
        refine JL.val rfl rfl rfl (.yes rfl rfl rfl) (Ev.move rfl) ?_
        refine JL.val rfl rfl rfl (.yes rfl rfl rfl) (Ev.move rfl) ?_
        refine JL.val rfl rfl rfl (.yes rfl rfl rfl) (Ev.bin rfl rfl gtr_int) ?_
        refine JL.val rfl rfl rfl (.none rfl) (Ev.pickF rfl rfl) ?_
        refine JL.nil ?_
        refine JQ.thenN ?_
        refine JC.cond rfl (fun hc1 => ?_) (fun hc1 => ?_)
        · -- t23 True
          replace hc1 := of_decide_eq_true hc1
          have hbad : badC i n := .inr (.inr (.inr (by omega)))
          refine JC.seq ?_
          refine JC.region ?_
          refine JL.asg ?_
          refine JL.asg ?_
          refine JL.nil ?_
          refine JQ.thenN ?_
          refine JC.ret ?_
          refine JQ.thenR ?_
          refine JQ.end2 (H' := []) (.inl rfl) rfl (.tmp rfl) (.tmp rfl) ?_ ?_
          · exact Sub.k
          · rw [pcV_bad hbad, pcE_bad hbad]; rfl
        · -- t23 False
          replace hc1 := of_decide_eq_false hc1
          have hok : ¬ badC i n := by unfold badC; omega
          obtain ⟨I, rfl⟩ : ∃ m : Nat, i = (m : Int) := ⟨i.toNat, by omega⟩
          obtain ⟨N, rfl⟩ : ∃ m : Nat, n = (m : Int) := ⟨n.toNat, by omega⟩
          have hin : 1 ≤ I ∧ I ≤ N ∧ N ≤ 1024 := by omega
          have hst := down_steps N I N 0 true (Nat.le_refl _) hin.1 hin.2.1
          have hdl := down_len (fm := 0) hin.1 hin.2.1
          refine JC.skip ?_
          refine JQ.thenN ?_
          refine JC.seq ?_
          refine JC.region ?_
          refine JL.mv ?_
          refine JL.mv ?_
          refine JL.callN rfl (.none rfl) rfl Tryd.call99 (fun w1 hw1 => down_any I N w1 hin.1 hin.2.1 hin.2.2) ?_
          rintro _ _ ⟨r1, rfl, rfl, hr1⟩
          refine JL.mv ?_
          refine JL.val rfl rfl rfl (.none rfl) (Ev.ex0 rfl) ?_
          refine JL.val rfl rfl rfl (.none rfl) (Ev.ex1 rfl) ?_
          refine JL.val rfl rfl rfl (.none rfl) (Ev.ex2 rfl) ?_
          refine JL.asg ?_
          refine JL.asg ?_
          refine JL.asg ?_
          refine JL.nil ?_
          refine JQ.thenN ?_
          refine JC.seq ?_
          refine JC.seq ?_
          refine JC.region ?_
          refine JL.mv ?_
          refine JL.nil ?_
          refine JQ.thenN ?_
          refine JC.cond rfl (fun hfr => ?_) (fun hfr => ?_)
          · -- t31 True
            rw [hfr, if_pos rfl] at hst
            refine JC.seq ?_
            refine JC.region ?_
            refine JL.mv ?_
            refine JL.val rfl rfl rfl (.none rfl) (Ev.lenRow rfl Tryd.underlying147 hr1) ?_
            refine JL.asg ?_
            refine JL.asg ?_
            refine JL.nil ?_
            refine JQ.thenN ?_
            refine JC.ret ?_
            refine JQ.thenR ?_
            refine JQ.end2 (H' := []) (.inl rfl) rfl (.tmp rfl) (.tmp rfl) ?_ ?_
            · exact Sub.k
            · rw [pcV_ok hok, pcE_ok hok, hst]; rfl
          · -- t31 False
            rw [hfr] at hst
            simp only [Bool.false_eq_true, if_false] at hst
            refine JC.skip ?_
            refine JQ.thenN ?_
            refine JC.seq ?_
            refine JC.region ?_
            refine JL.mv ?_
            refine JL.val rfl rfl rfl (.none rfl) (Ev.lenRow rfl Tryd.underlying147 hr1) ?_
            refine JL.val rfl rfl rfl (.none rfl) (Ev.bin rfl rfl (add_i64 (by omega))) ?_
            refine JL.asg ?_
            refine JL.asg ?_
            refine JL.nil ?_
            refine JQ.thenN ?_
            refine JC.ret ?_
            refine JQ.end2 (H' := []) (.inl rfl) rfl (.tmp rfl) (.tmp rfl) ?_ ?_
            · exact Sub.k
            · rw [pcV_ok hok, pcE_ok hok, hst]; rfl

theorem backT_any (v0 : Value) (w : World) (hv : v0.cells = #[v0]) :
    Calls Tryd.prog 100 #[v0] w (Ret w (fun v H => ∃ b, v = .func (.func 128) #[] #[.pointer (some ⟨b, 0, none⟩)] ∧ H = [(b, .cells #[v0] 147 (0, 0))])) := by
  refine enter (vs := [v0]) Tryd.func100 rfl Tryd.ntmps100 rfl ?_
  refine JC.seq ?_
  refine JC.region ?_
  refine JL.new rfl rfl rfl (.none rfl) (En.box1 rfl hv) (fun b1 hb1 => ?_)
  refine JL.asg ?_
  refine JL.nil ?_
  refine JQ.thenN ?_
  refine JC.seq ?_
  refine JC.region ?_
  refine JL.val rfl rfl rfl (.none rfl) (Ev.makeFunc rfl) ?_
  refine JL.asg ?_
  refine JL.nil ?_
  refine JQ.thenN ?_
  refine JC.ret ?_
  refine JQ.end1 (H' := [(b1, .cells #[v0] 147 (0, 0))]) (.inl rfl) rfl (.tmp rfl) ?_ ?_
  · exact Sub.k
  · exact ⟨b1, rfl, rfl⟩

theorem backTI_any (ts : List Tn) (r : Option Row) (b : Nat) (htl : ts.length ≤ 100000) (X : Type) (A : X → Blocks) (Inv : Nat → X → Prop) (Z : Blocks → Prop) (l : Nat) (x0 : X) (w0 w : World) (hi : Inv 0 x0) (hw : Hp w0 (((b, Obj.cells #[Row.v ts.length r] 147 (0, 0)) :: Row.b 154 r) ++ A x0) w) (hy : ∀ k x vs O w1, k < ts.length → Inv k x → (fun k vs _ => ∃ t : Tn, ts[ts.length - 1 - k]? = some t ∧ vs = [.int .i64 ((ts.length : Int) - 1 - (k : Int)), .agg (tcl t).toArray]) k vs O → Hp w0 (O ++ A x) w1 → YieldOk Tryd.prog l vs.toArray w1 (fun e w' => (∃ x', Inv (k + 1) x' ∧ e = .returned (.bool true) ∧ Hp w0 (O ++ A x') w') ∨ (∃ B, Z B ∧ e = .returned (.bool false) ∧ Hp w0 (O ++ B) w'))) (hr : Row.ok 4 ts.length (ft ts) r) :
    Calls Tryd.prog 128 #[.func (.yield l) #[] #[], .pointer (some ⟨b, 0, none⟩)] w (Ret w0 (fun _ H' => (∃ x O, Inv (ts.length) x ∧ H' = O ++ A x) ∨ (∃ B O, Z B ∧ H' = O ++ B))) := by
  refine enterAt (vs := [.func (.yield l) #[] #[], .pointer (some ⟨b, 0, none⟩)]) Tryd.func128 rfl Tryd.ntmps128 rfl hw ?_
  refine JC.seq ?_
  refine JC.region ?_
  refine JL.val rfl rfl rfl (.none rfl) (Ev.load1 rfl Tryd.underlying147 rfl (Rd.own memK rfl)) ?_
  refine JL.val rfl rfl rfl (.none rfl) (Ev.cast (v' := .int .i64 (ts.length : Int)) (by rfl) (Ev.lenRow rfl Tryd.underlying147 hr)) ?_
  refine JL.val rfl rfl rfl (.none rfl) (Ev.cast (v' := .int .i64 ((ts.length : Int) - 1 - ((0 : Nat) : Int))) (congrArg (Value.int .i64) (by omega)) (Ev.bin rfl rfl (sub_i64 (by omega)))) ?_
  refine JL.asg ?_
  refine JL.nil ?_
  refine JQ.thenN ?_
  refine JC.block ?_
  refine JC.loop (X := Nat × X)
    (fun ⟨k, x⟩ => [(0, .func (.yield l) #[] #[]), (1, .pointer (some ⟨b, 0, none⟩)), (3, .int .i64 ((ts.length : Int) - 1 - (k : Int)))])
    (fun ⟨k, x⟩ => ((b, Obj.cells #[Row.v ts.length r] 147 (0, 0)) :: Row.b 154 r) ++ A x)
    (fun ⟨k, x⟩ => k ≤ ts.length ∧ Inv k x)
    (fun ⟨k, x⟩ => ts.length - k) (0, x0) ?_ ?_ ?_ ?_
  · exact Keeps.k
  · exact Sub.all
  · exact ⟨Nat.zero_le _, hi⟩
  rintro ⟨k, x⟩ ⟨hkk, hix⟩
  refine JC.seq ?_
  refine JC.seq ?_
  refine JC.region ?_
  refine JL.mv ?_
  refine JL.val rfl rfl rfl (.none rfl) (Ev.bin rfl rfl geq_int) ?_
  refine JL.nil ?_
  refine JQ.thenN ?_
  refine JC.cond rfl (fun hc1 => ?_) (fun hc1 => ?_)
  · -- t8 True
    replace hc1 := of_decide_eq_true hc1
    have hkl : k < ts.length := by omega
    obtain ⟨q, rfl⟩ : ∃ q, r = some q := by cases r with | none => (have := hr.1; omega) | some q => exact ⟨q, rfl⟩
    obtain ⟨t, ht⟩ := get_some (l := ts) (k := ts.length - 1 - k) (by omega)
    refine JC.skip ?_
    refine JQ.thenN ?_
    refine JC.seq ?_
    refine JC.block ?_
    refine JC.seq ?_
    refine JC.region ?_
    refine JL.mv ?_
    refine JL.mv ?_
    refine JL.val rfl rfl rfl (.none rfl) (Ev.load1 rfl Tryd.underlying147 rfl (Rd.own memK rfl)) ?_
    refine JL.mv ?_
    refine JL.val rfl rfl rfl (.none rfl) (Ev.idxS (a := ⟨q.g, 0, none⟩) (len := ts.length) (cap := q.cap) (k := ts.length - 1 - k) rfl rfl Tryd.underlying147 Tryd.sizeOf154 (by omega) (by omega)) ?_
    refine JL.val rfl rfl rfl (.none rfl) (Ev.loadA rfl Tryd.underlying154 rfl Tryd.sizeOf154 (Row.rdT (e := 154) hr (List.mem_append_left _ (List.mem_cons_of_mem _ (List.mem_singleton.2 rfl))) ht) rfl) ?_
    refine JL.yieldG rfl rfl (.none rfl) rfl rfl (fun w1 hw1 => hy k x _ ((b, Obj.cells #[Row.v ts.length (some q)] 147 (0, 0)) :: Row.b 154 (some q)) w1 hkl hix ⟨t, ht, rfl⟩ (by simpa using hw1)) ?_ ?_
    · -- yield true
      rintro x2 hi2
      refine JL.val rfl rfl rfl (.none rfl) (Ev.not rfl) ?_
      refine JL.nil ?_
      refine JQ.thenN ?_
      refine JC.condF rfl ?_
      refine JC.skip ?_
      refine JQ.blockN ?_
      refine JQ.thenN ?_
      refine JC.region ?_
      refine JL.mv ?_
      refine JL.val rfl rfl rfl (.none rfl) (Ev.cast (v' := .int .i64 ((ts.length : Int) - 1 - ((k + 1 : Nat) : Int))) (congrArg (Value.int .i64) (by omega)) (Ev.bin rfl rfl (sub_i64 (by omega)))) ?_
      refine JL.asg ?_
      refine JL.nil ?_
      refine JQ.loopN (k + 1, x2) ?_ ?_ ?_ ?_
      · exact Keeps.k
      · exact Sub.of_cnt (fun a => by (try dsimp only); simp only [cntA]; omega)
      · exact ⟨hkl, hi2⟩
      · show ts.length - (k + 1) < ts.length - k; omega
    · -- yield false
      rintro B hz
      refine JL.val rfl rfl rfl (.none rfl) (Ev.not rfl) ?_
      refine JL.nil ?_
      refine JQ.thenN ?_
      refine JC.condT rfl ?_
      refine JC.ret ?_
      refine JQ.blockR ?_
      refine JQ.thenR ?_
      refine JQ.thenR ?_
      refine JQ.blockR ?_
      refine JQ.end0 (H' := (((b, Obj.cells #[Row.v ts.length (some q)] 147 (0, 0)) :: Row.b 154 (some q)) ++ B)) (.inl rfl) rfl  ?_ ?_
      · exact Sub.of_cnt (fun a => by (try dsimp only); simp only [cntA]; omega)
      · exact .inr ⟨B, _, hz, rfl⟩
  · -- t8 False
    replace hc1 := of_decide_eq_false hc1
    obtain rfl : k = ts.length := by omega
    refine JC.exit ?_
    refine JQ.thenE ?_
    refine JQ.thenE ?_
    refine JQ.blockE ?_
    refine JQ.end0 (H' := (((b, Obj.cells #[Row.v ts.length r] 147 (0, 0)) :: Row.b 154 r) ++ A x)) (.inr rfl) rfl  ?_ ?_
    · exact Sub.of_cnt (fun a => by (try dsimp only); simp only [cntA]; omega)
    · exact .inl ⟨x, _, hix, rfl⟩

theorem bleft_any (a b y : Dig) (w : World) (hk : KMem 1 w) (hf : FMem 0 w) :
    Calls Tryd.prog 132 #[.agg (fp [(a, b)]).toArray, .agg (arr8 y.1)] w (Ret w (fun v _ => v = .agg (fp [(a, nodeD b y)]).toArray)) := by
  refine enter (vs := [.agg (fp [(a, b)]).toArray, .agg (arr8 y.1)]) Tryd.func132 rfl Tryd.ntmps132 rfl ?_
  refine JC.seq ?_
  refine JC.region ?_
  refine JL.new rfl rfl rfl (.none rfl) (En.boxA rfl) (fun b2 hb2 => ?_)
  refine JL.new rfl rfl rfl (.none rfl) (En.boxA rfl) (fun b3 hb3 => ?_)
  refine JL.new rfl rfl rfl (.none rfl) (En.allocZ (cs := (fp [(zeroD, zeroD)]).toArray) Tryd.zeroValue189 rfl) (fun b4 hb4 => ?_)
  refine JL.nil ?_
  refine JQ.thenN ?_
  refine JC.seq ?_
  refine JC.regionT 7 (by kernel_rfl) (by kernel_rfl) (List.take_append_drop 7 _).symm rfl ?_
  refine JW.val rfl rfl (.none rfl) (Ev.fld 0 rfl (fun _ _ => by kernel_rfl)) ?_
  refine JW.val rfl rfl (.none rfl) (Ev.loadD rfl Tryd.underlying33 rfl Tryd.sizeOf33 (Rds.half0 (p := (a, b)) (by repeat (first | exact List.Mem.head _ | refine List.Mem.tail _ ?_)))) ?_
  refine JW.val rfl rfl (.none rfl) (Ev.fld 32 rfl (fun _ _ => by kernel_rfl)) ?_
  refine JW.val rfl rfl (.none rfl) (Ev.loadD rfl Tryd.underlying33 rfl Tryd.sizeOf33 (Rds.half1 (p := (a, b)) (by repeat (first | exact List.Mem.head _ | refine List.Mem.tail _ ?_)))) ?_
  refine JW.val rfl rfl (.none rfl) (Ev.loadD rfl Tryd.underlying33 rfl Tryd.sizeOf33 (Rds.all (vs := y.1.map u8) (by repeat (first | exact List.Mem.head _ | refine List.Mem.tail _ ?_)))) ?_
  refine JW.call rfl (.none rfl) rfl Tryd.call104 (fun w1 hw1 => nodeG_any _ _ w1 (hk.old hw1) (hf.old hw1)) ?_
  refine JW.val rfl rfl (.none rfl) (Ev.buS rfl rfl Tryd.underlying189 (fun _ => by kernel_rfl) Tryd.zeroValue189 rfl) ?_
  refine JW.tail ?_
  refine JL.sto rfl rfl (.none rfl) (Es.storeA rfl rfl Tryd.sizeOf189 Upd.k (fp1_size _) (fp1_size _) (fp1_one _)) ?_
  refine JL.nil ?_
  refine JQ.thenN ?_
  refine JC.ret ?_
  refine JQ.end1 (H' := []) (.inl rfl) rfl (.agg rfl memK Tryd.underlying189 rfl Tryd.sizeOf189 (fp1_size _)) ?_ ?_
  · exact Sub.k
  · exact rfl

theorem bright_any (a b y : Dig) (w : World) (hk : KMem 1 w) (hf : FMem 0 w) :
    Calls Tryd.prog 133 #[.agg (fp [(a, b)]).toArray, .agg (arr8 y.1)] w (Ret w (fun v _ => v = .agg (fp [(nodeD y a, nodeD y b)]).toArray)) := by
  refine enter (vs := [.agg (fp [(a, b)]).toArray, .agg (arr8 y.1)]) Tryd.func133 rfl Tryd.ntmps133 rfl ?_
  refine JC.seq ?_
  refine JC.region ?_
  refine JL.new rfl rfl rfl (.none rfl) (En.boxA rfl) (fun b2 hb2 => ?_)
  refine JL.new rfl rfl rfl (.none rfl) (En.boxA rfl) (fun b3 hb3 => ?_)
  refine JL.new rfl rfl rfl (.none rfl) (En.allocZ (cs := (fp [(zeroD, zeroD)]).toArray) Tryd.zeroValue189 rfl) (fun b4 hb4 => ?_)
  refine JL.nil ?_
  refine JQ.thenN ?_
  refine JC.seq ?_
  refine JC.regionT 9 (by kernel_rfl) (by kernel_rfl) (List.take_append_drop 9 _).symm rfl ?_
  refine JW.val rfl rfl (.none rfl) (Ev.loadD rfl Tryd.underlying33 rfl Tryd.sizeOf33 (Rds.all (vs := y.1.map u8) (by repeat (first | exact List.Mem.head _ | refine List.Mem.tail _ ?_)))) ?_
  refine JW.val rfl rfl (.none rfl) (Ev.fld 0 rfl (fun _ _ => by kernel_rfl)) ?_
  refine JW.val rfl rfl (.none rfl) (Ev.loadD rfl Tryd.underlying33 rfl Tryd.sizeOf33 (Rds.half0 (p := (a, b)) (by repeat (first | exact List.Mem.head _ | refine List.Mem.tail _ ?_)))) ?_
  refine JW.call rfl (.none rfl) rfl Tryd.call104 (fun w1 hw1 => nodeG_any _ _ w1 (hk.old hw1) (hf.old hw1)) ?_
  refine JW.val rfl rfl (.none rfl) (Ev.loadD rfl Tryd.underlying33 rfl Tryd.sizeOf33 (Rds.all (vs := y.1.map u8) (by repeat (first | exact List.Mem.head _ | refine List.Mem.tail _ ?_)))) ?_
  refine JW.val rfl rfl (.none rfl) (Ev.fld 32 rfl (fun _ _ => by kernel_rfl)) ?_
  refine JW.val rfl rfl (.none rfl) (Ev.loadD rfl Tryd.underlying33 rfl Tryd.sizeOf33 (Rds.half1 (p := (a, b)) (by repeat (first | exact List.Mem.head _ | refine List.Mem.tail _ ?_)))) ?_
  refine JW.call rfl (.none rfl) rfl Tryd.call104 (fun w1 hw1 => nodeG_any _ _ w1 (hk.old hw1) (hf.old hw1)) ?_
  refine JW.val rfl rfl (.none rfl) (Ev.buS rfl rfl Tryd.underlying189 (fun _ => by kernel_rfl) Tryd.zeroValue189 rfl) ?_
  refine JW.tail ?_
  refine JL.sto rfl rfl (.none rfl) (Es.storeA rfl rfl Tryd.sizeOf189 Upd.k (fp1_size _) (fp1_size _) (fp1_one _)) ?_
  refine JL.nil ?_
  refine JQ.thenN ?_
  refine JC.ret ?_
  refine JQ.end1 (H' := []) (.inl rfl) rfl (.agg rfl memK Tryd.underlying189 rfl Tryd.sizeOf189 (fp1_size _)) ?_ ?_
  · exact Sub.k
  · exact rfl

end Go.Proofs.YtopaednfjjjnbaaDoor
