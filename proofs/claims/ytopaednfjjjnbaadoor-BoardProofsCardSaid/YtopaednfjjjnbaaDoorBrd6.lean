/-
  Boards: paths and consistency proofs as the reference has them; the law that both agree.
-/
import Derived.Test.YtopaednfjjjnbaaDoorBrd5
namespace Go.Proofs.YtopaednfjjjnbaaDoor
open Go Go.RowKit
set_option maxRecDepth 100000

theorem fcE_ne2 {i n : Int} {ds : List Dig} (h : ¬ badC i n) : ¬ fcE i n ds = 2 := by
  unfold fcE
  rw [if_neg h]
  split <;> decide
theorem prV_le' (ds : List Dig) (i : Int) : (prV ds i).length ≤ ds.length := by
  unfold prV
  split
  · exact Nat.zero_le _
  · split
    · exact Nat.zero_le _
    · exact proofC_le _ _ (by omega) (by omega)
theorem bpV_le (xs : List Ent) (i : Int) : (bpV xs i).length ≤ 1100000 := by
  unfold bpV
  split
  · rename_i h
    refine Nat.le_trans (pathV_le _ _) ?_
    have := h.1
    rw [leavesE, List.length_map]
    omega
  · exact Nat.zero_le _
theorem bxV_le (xs : List Ent) (i : Int) : (bxV xs i).length ≤ 1100000 := by
  unfold bxV
  split
  · rename_i h
    refine Nat.le_trans (prV_le' _ _) ?_
    have := h.1
    rw [leavesE, List.length_map]
    omega
  · exact Nat.zero_le _

theorem rbProve_any (oa : Option Addr) (cap : Nat) (xs : List Et) (i : Int) (hib : -9223372036854775808 ≤ i ∧ i ≤ 9223372036854775807) (w : World) (hb : Bd w oa cap xs) :
    Calls Tryd.prog 49 #[.agg #[.slice oa xs.length cap], .int .i64 i] w (Ret w (fun v H => ∃ r : Option Row, v = .tuple #[Row.v (bpV (xs.map Et.e) i).length r, .int .i64 (bpE (xs.map Et.e) i)] ∧ H = Row.b 33 r ∧ Row.ok 32 (bpV (xs.map Et.e) i).length (fl (bpV (xs.map Et.e) i)) r)) := by
  refine enter (vs := [.agg #[.slice oa xs.length cap], .int .i64 i]) Tryd.func49 rfl Tryd.ntmps49 rfl ?_
  refine JC.seq ?_
  refine JC.region ?_
  refine JL.new rfl rfl rfl (.none rfl) (En.boxA rfl) (fun b2 hb2 => ?_)
  refine JL.asg ?_
  refine JL.asg ?_
  refine JL.nil ?_
  refine JQ.thenN ?_
  refine JC.seq ?_
  refine JC.seq ?_
  refine JC.region ?_
  refine JL.val rfl rfl rfl (.none rfl) (Ev.lB Tryd.underlying24 Tryd.sizeOf24) ?_
  refine JL.callV rfl (.none rfl) rfl Tryd.call72 (fun w1 hw1 => may_any oa cap xs w1 (hb.old hw1)) ?_
  refine JL.val rfl rfl rfl (.none rfl) (Ev.not rfl) ?_
  refine JL.nil ?_
  refine JQ.thenN ?_
  refine JC.cond rfl (fun hc => ?_) (fun hc => ?_)
  · -- t8 True
    have hbad : ¬ okB (xs.map Et.e) := by simpa using hc
    refine JC.seq ?_
    refine JC.region ?_
    refine JL.asg ?_
    refine JL.asg ?_
    refine JL.nil ?_
    refine JQ.thenN ?_
    refine JC.ret ?_
    refine JQ.thenR ?_
    refine JQ.end2 (H' := []) (.inl rfl) rfl (.tmp rfl) (.tmp rfl) ?_ ?_
    · first | exact Sub.all | exact Sub.nil | exact Sub.of_cnt (fun a => by (try dsimp only); simp only [cntA]; omega)
    · exact ⟨none, by rw [bpV_bad hbad, bpE_bad hbad]; rfl, rfl, by rw [bpV_bad hbad]; exact Row.ok0⟩
  · -- t8 False
    have hok : okB (xs.map Et.e) := by simpa using hc
    have hlen := okB_len hok
    have hsz := okB_sz hok
    have hll := leaves_len xs
    have hgr : ¬ 1024 < (leavesE (xs.map Et.e)).length := by omega
    refine JC.skip ?_
    refine JQ.thenN ?_
    refine JC.seq ?_
    refine JC.seq ?_
    refine JC.region ?_
    refine JL.mv ?_
    refine JL.val rfl rfl rfl (.none rfl) (Ev.bin rfl rfl lss_int) ?_
    refine JL.mv ?_
    refine JL.split (d := 11) rfl (fun hgA => ?_) (fun hgA => ?_)
    · -- guard 11 true
      have hbi : i < 0 ∨ ((leavesE (xs.map Et.e)).length : Int) ≤ i := .inl (of_decide_eq_true hgA)
      refine JL.skip rfl rfl (.noF rfl rfl rfl) ?_
      refine JL.skip rfl rfl (.noF rfl rfl rfl) ?_
      refine JL.skip rfl rfl (.noF rfl rfl rfl) ?_
      refine JL.skip rfl rfl (.noF rfl rfl rfl) ?_
      refine JL.skip rfl rfl (.noF rfl rfl rfl) ?_
      refine JL.val rfl rfl rfl (.none rfl) (Ev.pickT rfl rfl) ?_
      refine JL.nil ?_
      refine JQ.thenN ?_
      refine JC.condT rfl ?_
      refine JC.seq ?_
      refine JC.region ?_
      refine JL.asg ?_
      refine JL.asg ?_
      refine JL.nil ?_
      refine JQ.thenN ?_
      refine JC.ret ?_
      refine JQ.thenR ?_
      refine JQ.end2 (H' := []) (.inl rfl) rfl (.tmp rfl) (.tmp rfl) ?_ ?_
      · first | exact Sub.all | exact Sub.nil | exact Sub.of_cnt (fun a => by (try dsimp only); simp only [cntA]; omega)
      · exact ⟨none, by rw [bpV_ok hok, bpE_ok hok, pathV_bad hgr hbi, pathE_bad hgr hbi]; rfl, rfl, by rw [bpV_ok hok, pathV_bad hgr hbi]; exact Row.ok0⟩
    · -- guard 11 false
      have hgA := of_decide_eq_false hgA
      refine JL.val rfl rfl rfl (.yes rfl rfl rfl) (Ev.move rfl) ?_
      refine JL.val rfl rfl rfl (.yes rfl rfl rfl) (Ev.fld 0 rfl (fun _ _ => by kernel_rfl)) ?_
      refine JL.val rfl rfl rfl (.yes rfl rfl rfl) (Ev.load1 rfl Tryd.underlying22 rfl (Rd.own memK rfl)) ?_
      refine JL.val rfl rfl rfl (.yes rfl rfl rfl) (Ev.lenS rfl Tryd.underlying22) ?_
      refine JL.val rfl rfl rfl (.yes rfl rfl rfl) (Ev.bin rfl rfl geq_int) ?_
      refine JL.val rfl rfl rfl (.none rfl) (Ev.pickF rfl rfl) ?_
      refine JL.nil ?_
      refine JQ.thenN ?_
      refine JC.cond rfl (fun hc1 => ?_) (fun hc1 => ?_)
      · -- t17 True
        replace hc1 := of_decide_eq_true hc1
        have hbi : i < 0 ∨ ((leavesE (xs.map Et.e)).length : Int) ≤ i := .inr (by omega)
        refine JC.seq ?_
        refine JC.region ?_
        refine JL.asg ?_
        refine JL.asg ?_
        refine JL.nil ?_
        refine JQ.thenN ?_
        refine JC.ret ?_
        refine JQ.thenR ?_
        refine JQ.end2 (H' := []) (.inl rfl) rfl (.tmp rfl) (.tmp rfl) ?_ ?_
        · first | exact Sub.all | exact Sub.nil | exact Sub.of_cnt (fun a => by (try dsimp only); simp only [cntA]; omega)
        · exact ⟨none, by rw [bpV_ok hok, bpE_ok hok, pathV_bad hgr hbi, pathE_bad hgr hbi]; rfl, rfl, by rw [bpV_ok hok, pathV_bad hgr hbi]; exact Row.ok0⟩
      · -- t17 False
        replace hc1 := of_decide_eq_false hc1
        obtain ⟨n, rfl⟩ : ∃ n : Nat, i = (n : Int) := ⟨i.toNat, by omega⟩
        have hin : n < (leavesE (xs.map Et.e)).length := by omega
        have hbo : ¬ ((n : Int) < 0 ∨ ((leavesE (xs.map Et.e)).length : Int) ≤ (n : Int)) := by omega
        refine JC.skip ?_
        refine JQ.thenN ?_
        refine JC.seq ?_
        refine JC.region ?_
        refine JL.val rfl rfl rfl (.none rfl) (Ev.lB Tryd.underlying24 Tryd.sizeOf24) ?_
        refine JL.callN rfl (.none rfl) rfl Tryd.call75 (fun w1 hw1 => eleaves_any oa cap xs w1 (hb.old hw1) hsz (by omega)) ?_
        rintro _ _ ⟨r1, rfl, rfl, hr1⟩
        refine JL.mv ?_
        obtain ⟨o1, c1, e1, _, hC1⟩ := Row.vw (e := 33) hr1
        refine JL.re (d := 19) rfl e1 ?_
        refine JL.callN rfl (.none rfl) rfl Tryd.call84 (fun w1 hw1 => rTo_any o1 c1 (leavesE (xs.map Et.e)) n w1 (hC1 w1 hw1 (fun p hp => by simp [hp])) (by omega) hin) ?_
        rintro _ _ ⟨r2, rfl, rfl, hr2⟩
        refine JL.asg ?_
        refine JL.asg ?_
        refine JL.nil ?_
        refine JQ.thenN ?_
        refine JC.ret ?_
        refine JQ.end2 (H' := (Row.b 33 r2)) (.inl rfl) rfl (.tmp rfl) (.tmp rfl) ?_ ?_
        · first | exact Sub.all | exact Sub.nil | exact Sub.of_cnt (fun a => by (try dsimp only); simp only [cntA]; omega)
        · exact ⟨r2, by rw [bpV_ok hok, bpE_ok hok, pathV_ok hgr hbo, pathE_ok hgr hbo, Int.toNat_natCast], rfl, by rw [bpV_ok hok, pathV_ok hgr hbo, Int.toNat_natCast]; exact hr2⟩

theorem rbExtend_any (oa : Option Addr) (cap : Nat) (xs : List Et) (i : Int) (hib : -9223372036854775808 ≤ i ∧ i ≤ 9223372036854775807) (w : World) (hb : Bd w oa cap xs) :
    Calls Tryd.prog 50 #[.agg #[.slice oa xs.length cap], .int .i64 i] w (Ret w (fun v H => ∃ r : Option Row, v = .tuple #[Row.v (bxV (xs.map Et.e) i).length r, .int .i64 (bxE (xs.map Et.e) i)] ∧ H = Row.b 33 r ∧ Row.ok 32 (bxV (xs.map Et.e) i).length (fl (bxV (xs.map Et.e) i)) r)) := by
  refine enter (vs := [.agg #[.slice oa xs.length cap], .int .i64 i]) Tryd.func50 rfl Tryd.ntmps50 rfl ?_
  refine JC.seq ?_
  refine JC.region ?_
  refine JL.new rfl rfl rfl (.none rfl) (En.boxA rfl) (fun b2 hb2 => ?_)
  refine JL.asg ?_
  refine JL.asg ?_
  refine JL.nil ?_
  refine JQ.thenN ?_
  refine JC.seq ?_
  refine JC.seq ?_
  refine JC.region ?_
  refine JL.val rfl rfl rfl (.none rfl) (Ev.lB Tryd.underlying24 Tryd.sizeOf24) ?_
  refine JL.callV rfl (.none rfl) rfl Tryd.call72 (fun w1 hw1 => may_any oa cap xs w1 (hb.old hw1)) ?_
  refine JL.val rfl rfl rfl (.none rfl) (Ev.not rfl) ?_
  refine JL.nil ?_
  refine JQ.thenN ?_
  refine JC.cond rfl (fun hc => ?_) (fun hc => ?_)
  · -- t8 True
    have hbad : ¬ okB (xs.map Et.e) := by simpa using hc
    refine JC.seq ?_
    refine JC.region ?_
    refine JL.asg ?_
    refine JL.asg ?_
    refine JL.nil ?_
    refine JQ.thenN ?_
    refine JC.ret ?_
    refine JQ.thenR ?_
    refine JQ.end2 (H' := []) (.inl rfl) rfl (.tmp rfl) (.tmp rfl) ?_ ?_
    · first | exact Sub.all | exact Sub.nil | exact Sub.of_cnt (fun a => by (try dsimp only); simp only [cntA]; omega)
    · exact ⟨none, by rw [bxV_bad hbad, bxE_bad hbad]; rfl, rfl, by rw [bxV_bad hbad]; exact Row.ok0⟩
  · -- t8 False
    have hok : okB (xs.map Et.e) := by simpa using hc
    have hlen := okB_len hok
    have hsz := okB_sz hok
    have hll := leaves_len xs
    have hgr : ¬ 1024 < (leavesE (xs.map Et.e)).length := by omega
    refine JC.skip ?_
    refine JQ.thenN ?_
    refine JC.seq ?_
    refine JC.seq ?_
    refine JC.region ?_
    refine JL.mv ?_
    refine JL.val rfl rfl rfl (.none rfl) (Ev.bin rfl rfl lss_int) ?_
    refine JL.mv ?_
    refine JL.split (d := 11) rfl (fun hgA => ?_) (fun hgA => ?_)
    · -- guard 11 true
      have hbi : i < 1 ∨ ((leavesE (xs.map Et.e)).length : Int) < i := .inl (of_decide_eq_true hgA)
      refine JL.skip rfl rfl (.noF rfl rfl rfl) ?_
      refine JL.skip rfl rfl (.noF rfl rfl rfl) ?_
      refine JL.skip rfl rfl (.noF rfl rfl rfl) ?_
      refine JL.skip rfl rfl (.noF rfl rfl rfl) ?_
      refine JL.skip rfl rfl (.noF rfl rfl rfl) ?_
      refine JL.val rfl rfl rfl (.none rfl) (Ev.pickT rfl rfl) ?_
      refine JL.nil ?_
      refine JQ.thenN ?_
      refine JC.condT rfl ?_
      refine JC.seq ?_
      refine JC.region ?_
      refine JL.asg ?_
      refine JL.asg ?_
      refine JL.nil ?_
      refine JQ.thenN ?_
      refine JC.ret ?_
      refine JQ.thenR ?_
      refine JQ.end2 (H' := []) (.inl rfl) rfl (.tmp rfl) (.tmp rfl) ?_ ?_
      · first | exact Sub.all | exact Sub.nil | exact Sub.of_cnt (fun a => by (try dsimp only); simp only [cntA]; omega)
      · exact ⟨none, by rw [bxV_ok hok, bxE_ok hok, prV_bad hgr hbi, prE_bad hgr hbi]; rfl, rfl, by rw [bxV_ok hok, prV_bad hgr hbi]; exact Row.ok0⟩
    · -- guard 11 false
      have hgA := of_decide_eq_false hgA
      refine JL.val rfl rfl rfl (.yes rfl rfl rfl) (Ev.move rfl) ?_
      refine JL.val rfl rfl rfl (.yes rfl rfl rfl) (Ev.fld 0 rfl (fun _ _ => by kernel_rfl)) ?_
      refine JL.val rfl rfl rfl (.yes rfl rfl rfl) (Ev.load1 rfl Tryd.underlying22 rfl (Rd.own memK rfl)) ?_
      refine JL.val rfl rfl rfl (.yes rfl rfl rfl) (Ev.lenS rfl Tryd.underlying22) ?_
      refine JL.val rfl rfl rfl (.yes rfl rfl rfl) (Ev.bin rfl rfl gtr_int) ?_
      refine JL.val rfl rfl rfl (.none rfl) (Ev.pickF rfl rfl) ?_
      refine JL.nil ?_
      refine JQ.thenN ?_
      refine JC.cond rfl (fun hc1 => ?_) (fun hc1 => ?_)
      · -- t17 True
        replace hc1 := of_decide_eq_true hc1
        have hbi : i < 1 ∨ ((leavesE (xs.map Et.e)).length : Int) < i := .inr (by omega)
        refine JC.seq ?_
        refine JC.region ?_
        refine JL.asg ?_
        refine JL.asg ?_
        refine JL.nil ?_
        refine JQ.thenN ?_
        refine JC.ret ?_
        refine JQ.thenR ?_
        refine JQ.end2 (H' := []) (.inl rfl) rfl (.tmp rfl) (.tmp rfl) ?_ ?_
        · first | exact Sub.all | exact Sub.nil | exact Sub.of_cnt (fun a => by (try dsimp only); simp only [cntA]; omega)
        · exact ⟨none, by rw [bxV_ok hok, bxE_ok hok, prV_bad hgr hbi, prE_bad hgr hbi]; rfl, rfl, by rw [bxV_ok hok, prV_bad hgr hbi]; exact Row.ok0⟩
      · -- t17 False
        replace hc1 := of_decide_eq_false hc1
        obtain ⟨n, rfl⟩ : ∃ n : Nat, i = (n : Int) := ⟨i.toNat, by omega⟩
        have hn1 : 1 ≤ n := by omega
        have hin : n ≤ (leavesE (xs.map Et.e)).length := by omega
        have hbo : ¬ ((n : Int) < 1 ∨ ((leavesE (xs.map Et.e)).length : Int) < (n : Int)) := by omega
        refine JC.skip ?_
        refine JQ.thenN ?_
        refine JC.seq ?_
        refine JC.region ?_
        refine JL.val rfl rfl rfl (.none rfl) (Ev.lB Tryd.underlying24 Tryd.sizeOf24) ?_
        refine JL.callN rfl (.none rfl) rfl Tryd.call75 (fun w1 hw1 => eleaves_any oa cap xs w1 (hb.old hw1) hsz (by omega)) ?_
        rintro _ _ ⟨r1, rfl, rfl, hr1⟩
        refine JL.mv ?_
        obtain ⟨o1, c1, e1, _, hC1⟩ := Row.vw (e := 33) hr1
        refine JL.re (d := 19) rfl e1 ?_
        refine JL.callN rfl (.none rfl) rfl Tryd.call85 (fun w1 hw1 => rcOf_any o1 c1 (leavesE (xs.map Et.e)) n true w1 (hC1 w1 hw1 (fun p hp => by simp [hp])) (by omega) hn1 hin) ?_
        rintro _ _ ⟨r2, rfl, rfl, hr2⟩
        refine JL.asg ?_
        refine JL.asg ?_
        refine JL.nil ?_
        refine JQ.thenN ?_
        refine JC.ret ?_
        refine JQ.end2 (H' := (Row.b 33 r2)) (.inl rfl) rfl (.tmp rfl) (.tmp rfl) ?_ ?_
        · first | exact Sub.all | exact Sub.nil | exact Sub.of_cnt (fun a => by (try dsimp only); simp only [cntA]; omega)
        · exact ⟨r2, by rw [bxV_ok hok, bxE_ok hok, prV_ok hgr hbo, prE_ok hgr hbo, Int.toNat_natCast], rfl, by rw [bxV_ok hok, prV_ok hgr hbo, Int.toNat_natCast]; exact hr2⟩

theorem rbIncludes_any (h : Hd) (x : Et) (i : Int) (oa : Option Addr) (cap : Nat) (ds : List Dig) (w : World) (hd : Dl w oa cap ds) (hx : Bs w x.o x.cap x.l) :
    Calls Tryd.prog 51 #[.agg h.cl.toArray, .agg x.cl.toArray, .int .i64 i, .slice oa ds.length cap] w (Ret w (fun v _ => v = .tuple #[.bool (inV h x.e i ds), .int .i64 (inE h x.e i)])) := by
  refine enter (vs := [.agg h.cl.toArray, .agg x.cl.toArray, .int .i64 i, .slice oa ds.length cap]) Tryd.func51 rfl Tryd.ntmps51 rfl ?_
  refine JC.seq ?_
  refine JC.region ?_
  refine JL.new rfl rfl rfl (.none rfl) (En.boxA rfl) (fun b4 hb4 => ?_)
  refine JL.new rfl rfl rfl (.none rfl) (En.boxA rfl) (fun b5 hb5 => ?_)
  refine JL.asg ?_
  refine JL.asg ?_
  refine JL.nil ?_
  refine JQ.thenN ?_
  refine JC.seq ?_
  refine JC.seq ?_
  refine JC.region ?_
  refine JL.val rfl rfl rfl (.none rfl) (Ev.lB Tryd.underlying30 Tryd.sizeOf30) ?_
  refine JL.callV rfl (.none rfl) rfl Tryd.call70 (fun w1 hw1 => eone_any x w1) ?_
  refine JL.val rfl rfl rfl (.none rfl) (Ev.not rfl) ?_
  refine JL.mv ?_
  refine JL.split (d := 15) rfl (fun hgA => ?_) (fun hgA => ?_)
  · -- guard 15 true
    have hbad : badI h x.e i := .inl (by simpa using hgA)
    refine JL.skip rfl rfl (.noF rfl rfl rfl) ?_
    refine JL.skip rfl rfl (.noF rfl rfl rfl) ?_
    refine JL.skip rfl rfl (.noF rfl rfl rfl) ?_
    refine JL.val rfl rfl rfl (.none rfl) (Ev.pickT rfl rfl) ?_
    refine JL.mv ?_
    refine JL.skip rfl rfl (.noF rfl rfl rfl) ?_
    refine JL.skip rfl rfl (.noF rfl rfl rfl) ?_
    refine JL.skip rfl rfl (.noF rfl rfl rfl) ?_
    refine JL.val rfl rfl rfl (.none rfl) (Ev.pickT rfl rfl) ?_
    refine JL.mv ?_
    refine JL.skip rfl rfl (.noF rfl rfl rfl) ?_
    refine JL.skip rfl rfl (.noF rfl rfl rfl) ?_
    refine JL.val rfl rfl rfl (.none rfl) (Ev.pickT rfl rfl) ?_
    refine JL.mv ?_
    refine JL.skip rfl rfl (.noF rfl rfl rfl) ?_
    refine JL.skip rfl rfl (.noF rfl rfl rfl) ?_
    refine JL.skip rfl rfl (.noF rfl rfl rfl) ?_
    refine JL.skip rfl rfl (.noF rfl rfl rfl) ?_
    refine JL.val rfl rfl rfl (.none rfl) (Ev.pickT rfl rfl) ?_
    refine JL.nil ?_
    refine JQ.thenN ?_
    refine JC.condT rfl ?_
    refine JC.seq ?_
    refine JC.region ?_
    refine JL.asg ?_
    refine JL.asg ?_
    refine JL.nil ?_
    refine JQ.thenN ?_
    refine JC.ret ?_
    refine JQ.thenR ?_
    refine JQ.end2 (H' := []) (.inl rfl) rfl (.tmp rfl) (.tmp rfl) ?_ ?_
    · exact Sub.k
    · first | (rw [inV_bad hbad, inE_bad hbad]; done) | (rw [inV_e hok he, inE_ok hok]; done) | (rw [inV_o hok he, inE_ok hok]; done)
  · -- guard 15 false
    have hv : okE x.e = true := by simpa using hgA
    have hl := okE_len hv
    refine JL.val rfl rfl rfl (.yes rfl rfl rfl) (Ev.fld 0 rfl (fun _ _ => by kernel_rfl)) ?_
    refine JL.val rfl rfl rfl (.yes rfl rfl rfl) (Ev.load1 rfl Tryd.underlying3 rfl (Rd.own memK (Hd.get0 h))) ?_
    refine JL.val rfl rfl rfl (.yes rfl rfl rfl) (Ev.bin rfl rfl lss_int) ?_
    refine JL.val rfl rfl rfl (.none rfl) (Ev.pickF rfl rfl) ?_
    refine JL.mv ?_
    refine JL.split (d := 20) rfl (fun hgB => ?_) (fun hgB => ?_)
    · -- guard 20 true
      have hbad : badI h x.e i := .inr (by simp at hgB; unfold badT; omega)
      refine JL.skip rfl rfl (.noF rfl rfl rfl) ?_
      refine JL.skip rfl rfl (.noF rfl rfl rfl) ?_
      refine JL.skip rfl rfl (.noF rfl rfl rfl) ?_
      refine JL.val rfl rfl rfl (.none rfl) (Ev.pickT rfl rfl) ?_
      refine JL.mv ?_
      refine JL.skip rfl rfl (.noF rfl rfl rfl) ?_
      refine JL.skip rfl rfl (.noF rfl rfl rfl) ?_
      refine JL.val rfl rfl rfl (.none rfl) (Ev.pickT rfl rfl) ?_
      refine JL.mv ?_
      refine JL.skip rfl rfl (.noF rfl rfl rfl) ?_
      refine JL.skip rfl rfl (.noF rfl rfl rfl) ?_
      refine JL.skip rfl rfl (.noF rfl rfl rfl) ?_
      refine JL.skip rfl rfl (.noF rfl rfl rfl) ?_
      refine JL.val rfl rfl rfl (.none rfl) (Ev.pickT rfl rfl) ?_
      refine JL.nil ?_
      refine JQ.thenN ?_
      refine JC.condT rfl ?_
      refine JC.seq ?_
      refine JC.region ?_
      refine JL.asg ?_
      refine JL.asg ?_
      refine JL.nil ?_
      refine JQ.thenN ?_
      refine JC.ret ?_
      refine JQ.thenR ?_
      refine JQ.end2 (H' := []) (.inl rfl) rfl (.tmp rfl) (.tmp rfl) ?_ ?_
      · exact Sub.k
      · first | (rw [inV_bad hbad, inE_bad hbad]; done) | (rw [inV_e hok he, inE_ok hok]; done) | (rw [inV_o hok he, inE_ok hok]; done)
    · -- guard 20 false
      have hgB := of_decide_eq_false hgB
      refine JL.val rfl rfl rfl (.yes rfl rfl rfl) (Ev.fld 0 rfl (fun _ _ => by kernel_rfl)) ?_
      refine JL.val rfl rfl rfl (.yes rfl rfl rfl) (Ev.load1 rfl Tryd.underlying3 rfl (Rd.own memK (Hd.get0 h))) ?_
      refine JL.val rfl rfl rfl (.yes rfl rfl rfl) (Ev.bin rfl rfl gtr_int) ?_
      refine JL.val rfl rfl rfl (.none rfl) (Ev.pickF rfl rfl) ?_
      refine JL.mv ?_
      refine JL.split (d := 25) rfl (fun hgC => ?_) (fun hgC => ?_)
      · -- guard 25 true
        have hbad : badI h x.e i := .inr (by simp at hgC; unfold badT; omega)
        refine JL.skip rfl rfl (.noF rfl rfl rfl) ?_
        refine JL.skip rfl rfl (.noF rfl rfl rfl) ?_
        refine JL.val rfl rfl rfl (.none rfl) (Ev.pickT rfl rfl) ?_
        refine JL.mv ?_
        refine JL.skip rfl rfl (.noF rfl rfl rfl) ?_
        refine JL.skip rfl rfl (.noF rfl rfl rfl) ?_
        refine JL.skip rfl rfl (.noF rfl rfl rfl) ?_
        refine JL.skip rfl rfl (.noF rfl rfl rfl) ?_
        refine JL.val rfl rfl rfl (.none rfl) (Ev.pickT rfl rfl) ?_
        refine JL.nil ?_
        refine JQ.thenN ?_
        refine JC.condT rfl ?_
        refine JC.seq ?_
        refine JC.region ?_
        refine JL.asg ?_
        refine JL.asg ?_
        refine JL.nil ?_
        refine JQ.thenN ?_
        refine JC.ret ?_
        refine JQ.thenR ?_
        refine JQ.end2 (H' := []) (.inl rfl) rfl (.tmp rfl) (.tmp rfl) ?_ ?_
        · exact Sub.k
        · first | (rw [inV_bad hbad, inE_bad hbad]; done) | (rw [inV_e hok he, inE_ok hok]; done) | (rw [inV_o hok he, inE_ok hok]; done)
      · -- guard 25 false
        have hgC := of_decide_eq_false hgC
        refine JL.val rfl rfl rfl (.yes rfl rfl rfl) (Ev.move rfl) ?_
        refine JL.val rfl rfl rfl (.yes rfl rfl rfl) (Ev.bin rfl rfl lss_int) ?_
        refine JL.val rfl rfl rfl (.none rfl) (Ev.pickF rfl rfl) ?_
        refine JL.mv ?_
        refine JL.split (d := 29) rfl (fun hgD => ?_) (fun hgD => ?_)
        · -- guard 29 true
          have hbad : badI h x.e i := .inr (by simp at hgD; unfold badT; omega)
          refine JL.skip rfl rfl (.noF rfl rfl rfl) ?_
          refine JL.skip rfl rfl (.noF rfl rfl rfl) ?_
          refine JL.skip rfl rfl (.noF rfl rfl rfl) ?_
          refine JL.skip rfl rfl (.noF rfl rfl rfl) ?_
          refine JL.val rfl rfl rfl (.none rfl) (Ev.pickT rfl rfl) ?_
          refine JL.nil ?_
          refine JQ.thenN ?_
          refine JC.condT rfl ?_
          refine JC.seq ?_
          refine JC.region ?_
          refine JL.asg ?_
          refine JL.asg ?_
          refine JL.nil ?_
          refine JQ.thenN ?_
          refine JC.ret ?_
          refine JQ.thenR ?_
          refine JQ.end2 (H' := []) (.inl rfl) rfl (.tmp rfl) (.tmp rfl) ?_ ?_
          · exact Sub.k
          · first | (rw [inV_bad hbad, inE_bad hbad]; done) | (rw [inV_e hok he, inE_ok hok]; done) | (rw [inV_o hok he, inE_ok hok]; done)
        · -- guard 29 false
          have hgD := of_decide_eq_false hgD
          refine JL.val rfl rfl rfl (.yes rfl rfl rfl) (Ev.move rfl) ?_
          refine JL.val rfl rfl rfl (.yes rfl rfl rfl) (Ev.fld 0 rfl (fun _ _ => by kernel_rfl)) ?_
          refine JL.val rfl rfl rfl (.yes rfl rfl rfl) (Ev.load1 rfl Tryd.underlying3 rfl (Rd.own memK (Hd.get0 h))) ?_
          refine JL.val rfl rfl rfl (.yes rfl rfl rfl) (Ev.bin rfl rfl geq_int) ?_
          refine JL.val rfl rfl rfl (.none rfl) (Ev.pickF rfl rfl) ?_
          refine JL.nil ?_
          refine JQ.thenN ?_
          refine JC.cond rfl (fun hc1 => ?_) (fun hc1 => ?_)
          · -- t34 True
            replace hc1 := of_decide_eq_true hc1
            have hbad : badI h x.e i := .inr (by unfold badT; omega)
            refine JC.seq ?_
            refine JC.region ?_
            refine JL.asg ?_
            refine JL.asg ?_
            refine JL.nil ?_
            refine JQ.thenN ?_
            refine JC.ret ?_
            refine JQ.thenR ?_
            refine JQ.end2 (H' := []) (.inl rfl) rfl (.tmp rfl) (.tmp rfl) ?_ ?_
            · exact Sub.k
            · first | (rw [inV_bad hbad, inE_bad hbad]; done) | (rw [inV_e hok he, inE_ok hok]; done) | (rw [inV_o hok he, inE_ok hok]; done)
          · -- t34 False
            replace hc1 := of_decide_eq_false hc1
            have hok : ¬ badI h x.e i := fun hb => hb.elim (fun hb => by rw [hv] at hb; cases hb) (fun hb => by unfold badT at hb; omega)
            refine JC.skip ?_
            refine JQ.thenN ?_
            refine JC.seq ?_
            refine JC.regionA (by kernel_rfl) ?_
            refine JA.tk 2 rfl (.none rfl) (fun _ => (Ev.move rfl)) ?_
            refine JA.tk 3 rfl (.none rfl) (fun _ => (Ev.fld 0 rfl (fun _ _ => by kernel_rfl))) ?_
            refine JA.tk 5 rfl (.none rfl) (fun _ => (Ev.move rfl)) ?_
            refine JA.branch [0, 4, 10] (by kernel_rfl) rfl ?_
            refine JAll.cons rfl ?_ ?_
            · -- 0
              refine JO.val rfl rfl rfl (.none rfl) (Ev.lB Tryd.underlying30 Tryd.sizeOf30) ?_
              refine JA.branch [1, 4, 10] (by kernel_rfl) rfl ?_
              refine JAll.cons rfl ?_ ?_
              · -- 1
                refine JO.callV rfl (.none rfl) rfl Tryd.call71 (fun w1 hw1 => eleafOf_any x w1 (hx.old hw1) hl) ?_
                refine JA.branch [4, 10] (by kernel_rfl) rfl ?_
                refine JAll.cons rfl ?_ ?_
                · -- 4
                  refine JO.val rfl rfl rfl (.none rfl) (Ev.load1 rfl Tryd.underlying3 rfl (Rd.own memK (Hd.get0 h))) ?_
                  refine JA.branch [6, 10] (by kernel_rfl) rfl ?_
                  refine JAll.cons rfl ?_ ?_
                  · -- 6
                    refine JO.callV rfl (.none rfl) rfl Tryd.call86 (fun w1 hw1 => rFollow_any (leafE x.e) i h.n (by omega) (by omega) oa cap ds w1 (hd.old hw1)) ?_
                    refine JA.tk 7 rfl (.none rfl) (fun _ => (Ev.move rfl)) ?_
                    refine JA.tk 8 rfl (.none rfl) (fun _ => (Ev.ex0 rfl)) ?_
                    refine JA.tk 9 rfl (.none rfl) (fun _ => (Ev.ex1 rfl)) ?_
                    refine JA.one 10 ?_
                    refine JO.new rfl rfl rfl (.none rfl) (En.allocZ (cs := arr8 (List.replicate 32 0)) Tryd.zeroValue33 rfl) (fun b10 hb10 => ?_)
                    refine JA.one 11 ?_
                    refine JO.sto rfl rfl (.none rfl) (Es.sA Tryd.sizeOf33) ?_
                    refine JA.tk 12 rfl (.none rfl) (fun _ => (Ev.assign rfl)) ?_
                    refine JA.done (by kernel_rfl) ?_
                    refine JQ.thenN ?_
                    refine JC.seq ?_
                    refine JC.region ?_
                    refine JL.mv ?_
                    refine JL.val rfl rfl rfl (.none rfl) (Ev.bin rfl rfl eql_int) ?_
                    refine JL.mv ?_
                    refine JL.split (d := 47) rfl (fun hgE => ?_) (fun hgE => ?_)
                    · -- guard 47 true
                      have he := of_decide_eq_true hgE
                      refine JL.val rfl rfl rfl (.yes rfl rfl rfl) (Ev.lB Tryd.underlying33 Tryd.sizeOf33) ?_
                      refine JL.val rfl rfl rfl (.yes rfl rfl rfl) (Ev.fld 1 rfl (fun _ _ => by kernel_rfl)) ?_
                      refine JL.val rfl rfl rfl (.yes rfl rfl rfl) (Ev.loadA (l := h.root.1.map u8) rfl Tryd.underlying33 rfl Tryd.sizeOf33 (Hd.rds (h := h) memK) (by rw [List.length_map]; exact h.root.2)) ?_
                      refine JL.val rfl rfl rfl (.yes rfl rfl rfl) (Ev.bin rfl rfl (eql_arr8 (n := 32) Tryd.underlying33 Tryd.underlying5 (by kernel_rfl) (by kernel_rfl) (by first | rfl | exact dig_len _ | assumption | exact sha_length _ | exact shaO_length _) (by first | rfl | exact dig_len _ | assumption | exact sha_length _ | exact shaO_length _))) ?_
                      refine JL.val rfl rfl rfl (.none rfl) (Ev.pickT rfl rfl) ?_
                      refine JL.asg ?_
                      refine JL.asg ?_
                      refine JL.nil ?_
                      refine JQ.thenN ?_
                      refine JC.ret ?_
                      refine JQ.end2 (H' := []) (.inl rfl) rfl (.tmp rfl) (.tmp rfl) ?_ ?_
                      · exact Sub.k
                      · first | (rw [inV_bad hbad, inE_bad hbad]; done) | (rw [inV_e hok he, inE_ok hok]; done) | (rw [inV_o hok he, inE_ok hok]; done)
                    · -- guard 47 false
                      have he := of_decide_eq_false hgE
                      refine JL.skip rfl rfl (.noT rfl rfl rfl) ?_
                      refine JL.skip rfl rfl (.noT rfl rfl rfl) ?_
                      refine JL.skip rfl rfl (.noT rfl rfl rfl) ?_
                      refine JL.skip rfl rfl (.noT rfl rfl rfl) ?_
                      refine JL.val rfl rfl rfl (.none rfl) (Ev.pickF rfl rfl) ?_
                      refine JL.asg ?_
                      refine JL.asg ?_
                      refine JL.nil ?_
                      refine JQ.thenN ?_
                      refine JC.ret ?_
                      refine JQ.end2 (H' := []) (.inl rfl) rfl (.tmp rfl) (.tmp rfl) ?_ ?_
                      · exact Sub.k
                      · first | (rw [inV_bad hbad, inE_bad hbad]; done) | (rw [inV_e hok he, inE_ok hok]; done) | (rw [inV_o hok he, inE_ok hok]; done)
                  refine JAll.cons rfl ?_ JAll.nil
                  refine JO.new rfl rfl rfl (.none rfl) (En.allocZ (cs := arr8 (List.replicate 32 0)) Tryd.zeroValue33 rfl) (fun b10 hb10 => ?_)
                  refine JA.one 6 ?_
                  refine JO.callV rfl (.none rfl) rfl Tryd.call86 (fun w1 hw1 => rFollow_any (leafE x.e) i h.n (by omega) (by omega) oa cap ds w1 (hd.old hw1)) ?_
                  refine JA.tk 7 rfl (.none rfl) (fun _ => (Ev.move rfl)) ?_
                  refine JA.tk 8 rfl (.none rfl) (fun _ => (Ev.ex0 rfl)) ?_
                  refine JA.tk 9 rfl (.none rfl) (fun _ => (Ev.ex1 rfl)) ?_
                  refine JA.one 11 ?_
                  refine JO.sto rfl rfl (.none rfl) (Es.sA Tryd.sizeOf33) ?_
                  refine JA.tk 12 rfl (.none rfl) (fun _ => (Ev.assign rfl)) ?_
                  refine JA.done (by kernel_rfl) ?_
                  refine JQ.thenN ?_
                  refine JC.seq ?_
                  refine JC.region ?_
                  refine JL.mv ?_
                  refine JL.val rfl rfl rfl (.none rfl) (Ev.bin rfl rfl eql_int) ?_
                  refine JL.mv ?_
                  refine JL.split (d := 47) rfl (fun hgE => ?_) (fun hgE => ?_)
                  · -- guard 47 true
                    have he := of_decide_eq_true hgE
                    refine JL.val rfl rfl rfl (.yes rfl rfl rfl) (Ev.lB Tryd.underlying33 Tryd.sizeOf33) ?_
                    refine JL.val rfl rfl rfl (.yes rfl rfl rfl) (Ev.fld 1 rfl (fun _ _ => by kernel_rfl)) ?_
                    refine JL.val rfl rfl rfl (.yes rfl rfl rfl) (Ev.loadA (l := h.root.1.map u8) rfl Tryd.underlying33 rfl Tryd.sizeOf33 (Hd.rds (h := h) memK) (by rw [List.length_map]; exact h.root.2)) ?_
                    refine JL.val rfl rfl rfl (.yes rfl rfl rfl) (Ev.bin rfl rfl (eql_arr8 (n := 32) Tryd.underlying33 Tryd.underlying5 (by kernel_rfl) (by kernel_rfl) (by first | rfl | exact dig_len _ | assumption | exact sha_length _ | exact shaO_length _) (by first | rfl | exact dig_len _ | assumption | exact sha_length _ | exact shaO_length _))) ?_
                    refine JL.val rfl rfl rfl (.none rfl) (Ev.pickT rfl rfl) ?_
                    refine JL.asg ?_
                    refine JL.asg ?_
                    refine JL.nil ?_
                    refine JQ.thenN ?_
                    refine JC.ret ?_
                    refine JQ.end2 (H' := []) (.inl rfl) rfl (.tmp rfl) (.tmp rfl) ?_ ?_
                    · exact Sub.k
                    · first | (rw [inV_bad hbad, inE_bad hbad]; done) | (rw [inV_e hok he, inE_ok hok]; done) | (rw [inV_o hok he, inE_ok hok]; done)
                  · -- guard 47 false
                    have he := of_decide_eq_false hgE
                    refine JL.skip rfl rfl (.noT rfl rfl rfl) ?_
                    refine JL.skip rfl rfl (.noT rfl rfl rfl) ?_
                    refine JL.skip rfl rfl (.noT rfl rfl rfl) ?_
                    refine JL.skip rfl rfl (.noT rfl rfl rfl) ?_
                    refine JL.val rfl rfl rfl (.none rfl) (Ev.pickF rfl rfl) ?_
                    refine JL.asg ?_
                    refine JL.asg ?_
                    refine JL.nil ?_
                    refine JQ.thenN ?_
                    refine JC.ret ?_
                    refine JQ.end2 (H' := []) (.inl rfl) rfl (.tmp rfl) (.tmp rfl) ?_ ?_
                    · exact Sub.k
                    · first | (rw [inV_bad hbad, inE_bad hbad]; done) | (rw [inV_e hok he, inE_ok hok]; done) | (rw [inV_o hok he, inE_ok hok]; done)
                refine JAll.cons rfl ?_ JAll.nil
                refine JO.new rfl rfl rfl (.none rfl) (En.allocZ (cs := arr8 (List.replicate 32 0)) Tryd.zeroValue33 rfl) (fun b10 hb10 => ?_)
                refine JA.one 4 ?_
                refine JO.val rfl rfl rfl (.none rfl) (Ev.load1 rfl Tryd.underlying3 rfl (Rd.own memK (Hd.get0 h))) ?_
                refine JA.one 6 ?_
                refine JO.callV rfl (.none rfl) rfl Tryd.call86 (fun w1 hw1 => rFollow_any (leafE x.e) i h.n (by omega) (by omega) oa cap ds w1 (hd.old hw1)) ?_
                refine JA.tk 7 rfl (.none rfl) (fun _ => (Ev.move rfl)) ?_
                refine JA.tk 8 rfl (.none rfl) (fun _ => (Ev.ex0 rfl)) ?_
                refine JA.tk 9 rfl (.none rfl) (fun _ => (Ev.ex1 rfl)) ?_
                refine JA.one 11 ?_
                refine JO.sto rfl rfl (.none rfl) (Es.sA Tryd.sizeOf33) ?_
                refine JA.tk 12 rfl (.none rfl) (fun _ => (Ev.assign rfl)) ?_
                refine JA.done (by kernel_rfl) ?_
                refine JQ.thenN ?_
                refine JC.seq ?_
                refine JC.region ?_
                refine JL.mv ?_
                refine JL.val rfl rfl rfl (.none rfl) (Ev.bin rfl rfl eql_int) ?_
                refine JL.mv ?_
                refine JL.split (d := 47) rfl (fun hgE => ?_) (fun hgE => ?_)
                · -- guard 47 true
                  have he := of_decide_eq_true hgE
                  refine JL.val rfl rfl rfl (.yes rfl rfl rfl) (Ev.lB Tryd.underlying33 Tryd.sizeOf33) ?_
                  refine JL.val rfl rfl rfl (.yes rfl rfl rfl) (Ev.fld 1 rfl (fun _ _ => by kernel_rfl)) ?_
                  refine JL.val rfl rfl rfl (.yes rfl rfl rfl) (Ev.loadA (l := h.root.1.map u8) rfl Tryd.underlying33 rfl Tryd.sizeOf33 (Hd.rds (h := h) memK) (by rw [List.length_map]; exact h.root.2)) ?_
                  refine JL.val rfl rfl rfl (.yes rfl rfl rfl) (Ev.bin rfl rfl (eql_arr8 (n := 32) Tryd.underlying33 Tryd.underlying5 (by kernel_rfl) (by kernel_rfl) (by first | rfl | exact dig_len _ | assumption | exact sha_length _ | exact shaO_length _) (by first | rfl | exact dig_len _ | assumption | exact sha_length _ | exact shaO_length _))) ?_
                  refine JL.val rfl rfl rfl (.none rfl) (Ev.pickT rfl rfl) ?_
                  refine JL.asg ?_
                  refine JL.asg ?_
                  refine JL.nil ?_
                  refine JQ.thenN ?_
                  refine JC.ret ?_
                  refine JQ.end2 (H' := []) (.inl rfl) rfl (.tmp rfl) (.tmp rfl) ?_ ?_
                  · exact Sub.k
                  · first | (rw [inV_bad hbad, inE_bad hbad]; done) | (rw [inV_e hok he, inE_ok hok]; done) | (rw [inV_o hok he, inE_ok hok]; done)
                · -- guard 47 false
                  have he := of_decide_eq_false hgE
                  refine JL.skip rfl rfl (.noT rfl rfl rfl) ?_
                  refine JL.skip rfl rfl (.noT rfl rfl rfl) ?_
                  refine JL.skip rfl rfl (.noT rfl rfl rfl) ?_
                  refine JL.skip rfl rfl (.noT rfl rfl rfl) ?_
                  refine JL.val rfl rfl rfl (.none rfl) (Ev.pickF rfl rfl) ?_
                  refine JL.asg ?_
                  refine JL.asg ?_
                  refine JL.nil ?_
                  refine JQ.thenN ?_
                  refine JC.ret ?_
                  refine JQ.end2 (H' := []) (.inl rfl) rfl (.tmp rfl) (.tmp rfl) ?_ ?_
                  · exact Sub.k
                  · first | (rw [inV_bad hbad, inE_bad hbad]; done) | (rw [inV_e hok he, inE_ok hok]; done) | (rw [inV_o hok he, inE_ok hok]; done)
              refine JAll.cons rfl ?_ ?_
              · -- 4
                refine JO.val rfl rfl rfl (.none rfl) (Ev.load1 rfl Tryd.underlying3 rfl (Rd.own memK (Hd.get0 h))) ?_
                refine JA.branch [1, 10] (by kernel_rfl) rfl ?_
                refine JAll.cons rfl ?_ ?_
                · -- 1
                  refine JO.callV rfl (.none rfl) rfl Tryd.call71 (fun w1 hw1 => eleafOf_any x w1 (hx.old hw1) hl) ?_
                  refine JA.branch [6, 10] (by kernel_rfl) rfl ?_
                  refine JAll.cons rfl ?_ ?_
                  · -- 6
                    refine JO.callV rfl (.none rfl) rfl Tryd.call86 (fun w1 hw1 => rFollow_any (leafE x.e) i h.n (by omega) (by omega) oa cap ds w1 (hd.old hw1)) ?_
                    refine JA.tk 7 rfl (.none rfl) (fun _ => (Ev.move rfl)) ?_
                    refine JA.tk 8 rfl (.none rfl) (fun _ => (Ev.ex0 rfl)) ?_
                    refine JA.tk 9 rfl (.none rfl) (fun _ => (Ev.ex1 rfl)) ?_
                    refine JA.one 10 ?_
                    refine JO.new rfl rfl rfl (.none rfl) (En.allocZ (cs := arr8 (List.replicate 32 0)) Tryd.zeroValue33 rfl) (fun b10 hb10 => ?_)
                    refine JA.one 11 ?_
                    refine JO.sto rfl rfl (.none rfl) (Es.sA Tryd.sizeOf33) ?_
                    refine JA.tk 12 rfl (.none rfl) (fun _ => (Ev.assign rfl)) ?_
                    refine JA.done (by kernel_rfl) ?_
                    refine JQ.thenN ?_
                    refine JC.seq ?_
                    refine JC.region ?_
                    refine JL.mv ?_
                    refine JL.val rfl rfl rfl (.none rfl) (Ev.bin rfl rfl eql_int) ?_
                    refine JL.mv ?_
                    refine JL.split (d := 47) rfl (fun hgE => ?_) (fun hgE => ?_)
                    · -- guard 47 true
                      have he := of_decide_eq_true hgE
                      refine JL.val rfl rfl rfl (.yes rfl rfl rfl) (Ev.lB Tryd.underlying33 Tryd.sizeOf33) ?_
                      refine JL.val rfl rfl rfl (.yes rfl rfl rfl) (Ev.fld 1 rfl (fun _ _ => by kernel_rfl)) ?_
                      refine JL.val rfl rfl rfl (.yes rfl rfl rfl) (Ev.loadA (l := h.root.1.map u8) rfl Tryd.underlying33 rfl Tryd.sizeOf33 (Hd.rds (h := h) memK) (by rw [List.length_map]; exact h.root.2)) ?_
                      refine JL.val rfl rfl rfl (.yes rfl rfl rfl) (Ev.bin rfl rfl (eql_arr8 (n := 32) Tryd.underlying33 Tryd.underlying5 (by kernel_rfl) (by kernel_rfl) (by first | rfl | exact dig_len _ | assumption | exact sha_length _ | exact shaO_length _) (by first | rfl | exact dig_len _ | assumption | exact sha_length _ | exact shaO_length _))) ?_
                      refine JL.val rfl rfl rfl (.none rfl) (Ev.pickT rfl rfl) ?_
                      refine JL.asg ?_
                      refine JL.asg ?_
                      refine JL.nil ?_
                      refine JQ.thenN ?_
                      refine JC.ret ?_
                      refine JQ.end2 (H' := []) (.inl rfl) rfl (.tmp rfl) (.tmp rfl) ?_ ?_
                      · exact Sub.k
                      · first | (rw [inV_bad hbad, inE_bad hbad]; done) | (rw [inV_e hok he, inE_ok hok]; done) | (rw [inV_o hok he, inE_ok hok]; done)
                    · -- guard 47 false
                      have he := of_decide_eq_false hgE
                      refine JL.skip rfl rfl (.noT rfl rfl rfl) ?_
                      refine JL.skip rfl rfl (.noT rfl rfl rfl) ?_
                      refine JL.skip rfl rfl (.noT rfl rfl rfl) ?_
                      refine JL.skip rfl rfl (.noT rfl rfl rfl) ?_
                      refine JL.val rfl rfl rfl (.none rfl) (Ev.pickF rfl rfl) ?_
                      refine JL.asg ?_
                      refine JL.asg ?_
                      refine JL.nil ?_
                      refine JQ.thenN ?_
                      refine JC.ret ?_
                      refine JQ.end2 (H' := []) (.inl rfl) rfl (.tmp rfl) (.tmp rfl) ?_ ?_
                      · exact Sub.k
                      · first | (rw [inV_bad hbad, inE_bad hbad]; done) | (rw [inV_e hok he, inE_ok hok]; done) | (rw [inV_o hok he, inE_ok hok]; done)
                  refine JAll.cons rfl ?_ JAll.nil
                  refine JO.new rfl rfl rfl (.none rfl) (En.allocZ (cs := arr8 (List.replicate 32 0)) Tryd.zeroValue33 rfl) (fun b10 hb10 => ?_)
                  refine JA.one 6 ?_
                  refine JO.callV rfl (.none rfl) rfl Tryd.call86 (fun w1 hw1 => rFollow_any (leafE x.e) i h.n (by omega) (by omega) oa cap ds w1 (hd.old hw1)) ?_
                  refine JA.tk 7 rfl (.none rfl) (fun _ => (Ev.move rfl)) ?_
                  refine JA.tk 8 rfl (.none rfl) (fun _ => (Ev.ex0 rfl)) ?_
                  refine JA.tk 9 rfl (.none rfl) (fun _ => (Ev.ex1 rfl)) ?_
                  refine JA.one 11 ?_
                  refine JO.sto rfl rfl (.none rfl) (Es.sA Tryd.sizeOf33) ?_
                  refine JA.tk 12 rfl (.none rfl) (fun _ => (Ev.assign rfl)) ?_
                  refine JA.done (by kernel_rfl) ?_
                  refine JQ.thenN ?_
                  refine JC.seq ?_
                  refine JC.region ?_
                  refine JL.mv ?_
                  refine JL.val rfl rfl rfl (.none rfl) (Ev.bin rfl rfl eql_int) ?_
                  refine JL.mv ?_
                  refine JL.split (d := 47) rfl (fun hgE => ?_) (fun hgE => ?_)
                  · -- guard 47 true
                    have he := of_decide_eq_true hgE
                    refine JL.val rfl rfl rfl (.yes rfl rfl rfl) (Ev.lB Tryd.underlying33 Tryd.sizeOf33) ?_
                    refine JL.val rfl rfl rfl (.yes rfl rfl rfl) (Ev.fld 1 rfl (fun _ _ => by kernel_rfl)) ?_
                    refine JL.val rfl rfl rfl (.yes rfl rfl rfl) (Ev.loadA (l := h.root.1.map u8) rfl Tryd.underlying33 rfl Tryd.sizeOf33 (Hd.rds (h := h) memK) (by rw [List.length_map]; exact h.root.2)) ?_
                    refine JL.val rfl rfl rfl (.yes rfl rfl rfl) (Ev.bin rfl rfl (eql_arr8 (n := 32) Tryd.underlying33 Tryd.underlying5 (by kernel_rfl) (by kernel_rfl) (by first | rfl | exact dig_len _ | assumption | exact sha_length _ | exact shaO_length _) (by first | rfl | exact dig_len _ | assumption | exact sha_length _ | exact shaO_length _))) ?_
                    refine JL.val rfl rfl rfl (.none rfl) (Ev.pickT rfl rfl) ?_
                    refine JL.asg ?_
                    refine JL.asg ?_
                    refine JL.nil ?_
                    refine JQ.thenN ?_
                    refine JC.ret ?_
                    refine JQ.end2 (H' := []) (.inl rfl) rfl (.tmp rfl) (.tmp rfl) ?_ ?_
                    · exact Sub.k
                    · first | (rw [inV_bad hbad, inE_bad hbad]; done) | (rw [inV_e hok he, inE_ok hok]; done) | (rw [inV_o hok he, inE_ok hok]; done)
                  · -- guard 47 false
                    have he := of_decide_eq_false hgE
                    refine JL.skip rfl rfl (.noT rfl rfl rfl) ?_
                    refine JL.skip rfl rfl (.noT rfl rfl rfl) ?_
                    refine JL.skip rfl rfl (.noT rfl rfl rfl) ?_
                    refine JL.skip rfl rfl (.noT rfl rfl rfl) ?_
                    refine JL.val rfl rfl rfl (.none rfl) (Ev.pickF rfl rfl) ?_
                    refine JL.asg ?_
                    refine JL.asg ?_
                    refine JL.nil ?_
                    refine JQ.thenN ?_
                    refine JC.ret ?_
                    refine JQ.end2 (H' := []) (.inl rfl) rfl (.tmp rfl) (.tmp rfl) ?_ ?_
                    · exact Sub.k
                    · first | (rw [inV_bad hbad, inE_bad hbad]; done) | (rw [inV_e hok he, inE_ok hok]; done) | (rw [inV_o hok he, inE_ok hok]; done)
                refine JAll.cons rfl ?_ JAll.nil
                refine JO.new rfl rfl rfl (.none rfl) (En.allocZ (cs := arr8 (List.replicate 32 0)) Tryd.zeroValue33 rfl) (fun b10 hb10 => ?_)
                refine JA.one 1 ?_
                refine JO.callV rfl (.none rfl) rfl Tryd.call71 (fun w1 hw1 => eleafOf_any x w1 (hx.old hw1) hl) ?_
                refine JA.one 6 ?_
                refine JO.callV rfl (.none rfl) rfl Tryd.call86 (fun w1 hw1 => rFollow_any (leafE x.e) i h.n (by omega) (by omega) oa cap ds w1 (hd.old hw1)) ?_
                refine JA.tk 7 rfl (.none rfl) (fun _ => (Ev.move rfl)) ?_
                refine JA.tk 8 rfl (.none rfl) (fun _ => (Ev.ex0 rfl)) ?_
                refine JA.tk 9 rfl (.none rfl) (fun _ => (Ev.ex1 rfl)) ?_
                refine JA.one 11 ?_
                refine JO.sto rfl rfl (.none rfl) (Es.sA Tryd.sizeOf33) ?_
                refine JA.tk 12 rfl (.none rfl) (fun _ => (Ev.assign rfl)) ?_
                refine JA.done (by kernel_rfl) ?_
                refine JQ.thenN ?_
                refine JC.seq ?_
                refine JC.region ?_
                refine JL.mv ?_
                refine JL.val rfl rfl rfl (.none rfl) (Ev.bin rfl rfl eql_int) ?_
                refine JL.mv ?_
                refine JL.split (d := 47) rfl (fun hgE => ?_) (fun hgE => ?_)
                · -- guard 47 true
                  have he := of_decide_eq_true hgE
                  refine JL.val rfl rfl rfl (.yes rfl rfl rfl) (Ev.lB Tryd.underlying33 Tryd.sizeOf33) ?_
                  refine JL.val rfl rfl rfl (.yes rfl rfl rfl) (Ev.fld 1 rfl (fun _ _ => by kernel_rfl)) ?_
                  refine JL.val rfl rfl rfl (.yes rfl rfl rfl) (Ev.loadA (l := h.root.1.map u8) rfl Tryd.underlying33 rfl Tryd.sizeOf33 (Hd.rds (h := h) memK) (by rw [List.length_map]; exact h.root.2)) ?_
                  refine JL.val rfl rfl rfl (.yes rfl rfl rfl) (Ev.bin rfl rfl (eql_arr8 (n := 32) Tryd.underlying33 Tryd.underlying5 (by kernel_rfl) (by kernel_rfl) (by first | rfl | exact dig_len _ | assumption | exact sha_length _ | exact shaO_length _) (by first | rfl | exact dig_len _ | assumption | exact sha_length _ | exact shaO_length _))) ?_
                  refine JL.val rfl rfl rfl (.none rfl) (Ev.pickT rfl rfl) ?_
                  refine JL.asg ?_
                  refine JL.asg ?_
                  refine JL.nil ?_
                  refine JQ.thenN ?_
                  refine JC.ret ?_
                  refine JQ.end2 (H' := []) (.inl rfl) rfl (.tmp rfl) (.tmp rfl) ?_ ?_
                  · exact Sub.k
                  · first | (rw [inV_bad hbad, inE_bad hbad]; done) | (rw [inV_e hok he, inE_ok hok]; done) | (rw [inV_o hok he, inE_ok hok]; done)
                · -- guard 47 false
                  have he := of_decide_eq_false hgE
                  refine JL.skip rfl rfl (.noT rfl rfl rfl) ?_
                  refine JL.skip rfl rfl (.noT rfl rfl rfl) ?_
                  refine JL.skip rfl rfl (.noT rfl rfl rfl) ?_
                  refine JL.skip rfl rfl (.noT rfl rfl rfl) ?_
                  refine JL.val rfl rfl rfl (.none rfl) (Ev.pickF rfl rfl) ?_
                  refine JL.asg ?_
                  refine JL.asg ?_
                  refine JL.nil ?_
                  refine JQ.thenN ?_
                  refine JC.ret ?_
                  refine JQ.end2 (H' := []) (.inl rfl) rfl (.tmp rfl) (.tmp rfl) ?_ ?_
                  · exact Sub.k
                  · first | (rw [inV_bad hbad, inE_bad hbad]; done) | (rw [inV_e hok he, inE_ok hok]; done) | (rw [inV_o hok he, inE_ok hok]; done)
              refine JAll.cons rfl ?_ JAll.nil
              refine JO.new rfl rfl rfl (.none rfl) (En.allocZ (cs := arr8 (List.replicate 32 0)) Tryd.zeroValue33 rfl) (fun b10 hb10 => ?_)
              refine JA.branch [1, 4] (by kernel_rfl) rfl ?_
              refine JAll.cons rfl ?_ ?_
              · -- 1
                refine JO.callV rfl (.none rfl) rfl Tryd.call71 (fun w1 hw1 => eleafOf_any x w1 (hx.old hw1) hl) ?_
                refine JA.one 4 ?_
                refine JO.val rfl rfl rfl (.none rfl) (Ev.load1 rfl Tryd.underlying3 rfl (Rd.own memK (Hd.get0 h))) ?_
                refine JA.one 6 ?_
                refine JO.callV rfl (.none rfl) rfl Tryd.call86 (fun w1 hw1 => rFollow_any (leafE x.e) i h.n (by omega) (by omega) oa cap ds w1 (hd.old hw1)) ?_
                refine JA.tk 7 rfl (.none rfl) (fun _ => (Ev.move rfl)) ?_
                refine JA.tk 8 rfl (.none rfl) (fun _ => (Ev.ex0 rfl)) ?_
                refine JA.tk 9 rfl (.none rfl) (fun _ => (Ev.ex1 rfl)) ?_
                refine JA.one 11 ?_
                refine JO.sto rfl rfl (.none rfl) (Es.sA Tryd.sizeOf33) ?_
                refine JA.tk 12 rfl (.none rfl) (fun _ => (Ev.assign rfl)) ?_
                refine JA.done (by kernel_rfl) ?_
                refine JQ.thenN ?_
                refine JC.seq ?_
                refine JC.region ?_
                refine JL.mv ?_
                refine JL.val rfl rfl rfl (.none rfl) (Ev.bin rfl rfl eql_int) ?_
                refine JL.mv ?_
                refine JL.split (d := 47) rfl (fun hgE => ?_) (fun hgE => ?_)
                · -- guard 47 true
                  have he := of_decide_eq_true hgE
                  refine JL.val rfl rfl rfl (.yes rfl rfl rfl) (Ev.lB Tryd.underlying33 Tryd.sizeOf33) ?_
                  refine JL.val rfl rfl rfl (.yes rfl rfl rfl) (Ev.fld 1 rfl (fun _ _ => by kernel_rfl)) ?_
                  refine JL.val rfl rfl rfl (.yes rfl rfl rfl) (Ev.loadA (l := h.root.1.map u8) rfl Tryd.underlying33 rfl Tryd.sizeOf33 (Hd.rds (h := h) memK) (by rw [List.length_map]; exact h.root.2)) ?_
                  refine JL.val rfl rfl rfl (.yes rfl rfl rfl) (Ev.bin rfl rfl (eql_arr8 (n := 32) Tryd.underlying33 Tryd.underlying5 (by kernel_rfl) (by kernel_rfl) (by first | rfl | exact dig_len _ | assumption | exact sha_length _ | exact shaO_length _) (by first | rfl | exact dig_len _ | assumption | exact sha_length _ | exact shaO_length _))) ?_
                  refine JL.val rfl rfl rfl (.none rfl) (Ev.pickT rfl rfl) ?_
                  refine JL.asg ?_
                  refine JL.asg ?_
                  refine JL.nil ?_
                  refine JQ.thenN ?_
                  refine JC.ret ?_
                  refine JQ.end2 (H' := []) (.inl rfl) rfl (.tmp rfl) (.tmp rfl) ?_ ?_
                  · exact Sub.k
                  · first | (rw [inV_bad hbad, inE_bad hbad]; done) | (rw [inV_e hok he, inE_ok hok]; done) | (rw [inV_o hok he, inE_ok hok]; done)
                · -- guard 47 false
                  have he := of_decide_eq_false hgE
                  refine JL.skip rfl rfl (.noT rfl rfl rfl) ?_
                  refine JL.skip rfl rfl (.noT rfl rfl rfl) ?_
                  refine JL.skip rfl rfl (.noT rfl rfl rfl) ?_
                  refine JL.skip rfl rfl (.noT rfl rfl rfl) ?_
                  refine JL.val rfl rfl rfl (.none rfl) (Ev.pickF rfl rfl) ?_
                  refine JL.asg ?_
                  refine JL.asg ?_
                  refine JL.nil ?_
                  refine JQ.thenN ?_
                  refine JC.ret ?_
                  refine JQ.end2 (H' := []) (.inl rfl) rfl (.tmp rfl) (.tmp rfl) ?_ ?_
                  · exact Sub.k
                  · first | (rw [inV_bad hbad, inE_bad hbad]; done) | (rw [inV_e hok he, inE_ok hok]; done) | (rw [inV_o hok he, inE_ok hok]; done)
              refine JAll.cons rfl ?_ JAll.nil
              refine JO.val rfl rfl rfl (.none rfl) (Ev.load1 rfl Tryd.underlying3 rfl (Rd.own memK (Hd.get0 h))) ?_
              refine JA.one 1 ?_
              refine JO.callV rfl (.none rfl) rfl Tryd.call71 (fun w1 hw1 => eleafOf_any x w1 (hx.old hw1) hl) ?_
              refine JA.one 6 ?_
              refine JO.callV rfl (.none rfl) rfl Tryd.call86 (fun w1 hw1 => rFollow_any (leafE x.e) i h.n (by omega) (by omega) oa cap ds w1 (hd.old hw1)) ?_
              refine JA.tk 7 rfl (.none rfl) (fun _ => (Ev.move rfl)) ?_
              refine JA.tk 8 rfl (.none rfl) (fun _ => (Ev.ex0 rfl)) ?_
              refine JA.tk 9 rfl (.none rfl) (fun _ => (Ev.ex1 rfl)) ?_
              refine JA.one 11 ?_
              refine JO.sto rfl rfl (.none rfl) (Es.sA Tryd.sizeOf33) ?_
              refine JA.tk 12 rfl (.none rfl) (fun _ => (Ev.assign rfl)) ?_
              refine JA.done (by kernel_rfl) ?_
              refine JQ.thenN ?_
              refine JC.seq ?_
              refine JC.region ?_
              refine JL.mv ?_
              refine JL.val rfl rfl rfl (.none rfl) (Ev.bin rfl rfl eql_int) ?_
              refine JL.mv ?_
              refine JL.split (d := 47) rfl (fun hgE => ?_) (fun hgE => ?_)
              · -- guard 47 true
                have he := of_decide_eq_true hgE
                refine JL.val rfl rfl rfl (.yes rfl rfl rfl) (Ev.lB Tryd.underlying33 Tryd.sizeOf33) ?_
                refine JL.val rfl rfl rfl (.yes rfl rfl rfl) (Ev.fld 1 rfl (fun _ _ => by kernel_rfl)) ?_
                refine JL.val rfl rfl rfl (.yes rfl rfl rfl) (Ev.loadA (l := h.root.1.map u8) rfl Tryd.underlying33 rfl Tryd.sizeOf33 (Hd.rds (h := h) memK) (by rw [List.length_map]; exact h.root.2)) ?_
                refine JL.val rfl rfl rfl (.yes rfl rfl rfl) (Ev.bin rfl rfl (eql_arr8 (n := 32) Tryd.underlying33 Tryd.underlying5 (by kernel_rfl) (by kernel_rfl) (by first | rfl | exact dig_len _ | assumption | exact sha_length _ | exact shaO_length _) (by first | rfl | exact dig_len _ | assumption | exact sha_length _ | exact shaO_length _))) ?_
                refine JL.val rfl rfl rfl (.none rfl) (Ev.pickT rfl rfl) ?_
                refine JL.asg ?_
                refine JL.asg ?_
                refine JL.nil ?_
                refine JQ.thenN ?_
                refine JC.ret ?_
                refine JQ.end2 (H' := []) (.inl rfl) rfl (.tmp rfl) (.tmp rfl) ?_ ?_
                · exact Sub.k
                · first | (rw [inV_bad hbad, inE_bad hbad]; done) | (rw [inV_e hok he, inE_ok hok]; done) | (rw [inV_o hok he, inE_ok hok]; done)
              · -- guard 47 false
                have he := of_decide_eq_false hgE
                refine JL.skip rfl rfl (.noT rfl rfl rfl) ?_
                refine JL.skip rfl rfl (.noT rfl rfl rfl) ?_
                refine JL.skip rfl rfl (.noT rfl rfl rfl) ?_
                refine JL.skip rfl rfl (.noT rfl rfl rfl) ?_
                refine JL.val rfl rfl rfl (.none rfl) (Ev.pickF rfl rfl) ?_
                refine JL.asg ?_
                refine JL.asg ?_
                refine JL.nil ?_
                refine JQ.thenN ?_
                refine JC.ret ?_
                refine JQ.end2 (H' := []) (.inl rfl) rfl (.tmp rfl) (.tmp rfl) ?_ ?_
                · exact Sub.k
                · first | (rw [inV_bad hbad, inE_bad hbad]; done) | (rw [inV_e hok he, inE_ok hok]; done) | (rw [inV_o hok he, inE_ok hok]; done)
            refine JAll.cons rfl ?_ ?_
            · -- 4
              refine JO.val rfl rfl rfl (.none rfl) (Ev.load1 rfl Tryd.underlying3 rfl (Rd.own memK (Hd.get0 h))) ?_
              refine JA.branch [0, 10] (by kernel_rfl) rfl ?_
              refine JAll.cons rfl ?_ ?_
              · -- 0
                refine JO.val rfl rfl rfl (.none rfl) (Ev.lB Tryd.underlying30 Tryd.sizeOf30) ?_
                refine JA.branch [1, 10] (by kernel_rfl) rfl ?_
                refine JAll.cons rfl ?_ ?_
                · -- 1
                  refine JO.callV rfl (.none rfl) rfl Tryd.call71 (fun w1 hw1 => eleafOf_any x w1 (hx.old hw1) hl) ?_
                  refine JA.branch [6, 10] (by kernel_rfl) rfl ?_
                  refine JAll.cons rfl ?_ ?_
                  · -- 6
                    refine JO.callV rfl (.none rfl) rfl Tryd.call86 (fun w1 hw1 => rFollow_any (leafE x.e) i h.n (by omega) (by omega) oa cap ds w1 (hd.old hw1)) ?_
                    refine JA.tk 7 rfl (.none rfl) (fun _ => (Ev.move rfl)) ?_
                    refine JA.tk 8 rfl (.none rfl) (fun _ => (Ev.ex0 rfl)) ?_
                    refine JA.tk 9 rfl (.none rfl) (fun _ => (Ev.ex1 rfl)) ?_
                    refine JA.one 10 ?_
                    refine JO.new rfl rfl rfl (.none rfl) (En.allocZ (cs := arr8 (List.replicate 32 0)) Tryd.zeroValue33 rfl) (fun b10 hb10 => ?_)
                    refine JA.one 11 ?_
                    refine JO.sto rfl rfl (.none rfl) (Es.sA Tryd.sizeOf33) ?_
                    refine JA.tk 12 rfl (.none rfl) (fun _ => (Ev.assign rfl)) ?_
                    refine JA.done (by kernel_rfl) ?_
                    refine JQ.thenN ?_
                    refine JC.seq ?_
                    refine JC.region ?_
                    refine JL.mv ?_
                    refine JL.val rfl rfl rfl (.none rfl) (Ev.bin rfl rfl eql_int) ?_
                    refine JL.mv ?_
                    refine JL.split (d := 47) rfl (fun hgE => ?_) (fun hgE => ?_)
                    · -- guard 47 true
                      have he := of_decide_eq_true hgE
                      refine JL.val rfl rfl rfl (.yes rfl rfl rfl) (Ev.lB Tryd.underlying33 Tryd.sizeOf33) ?_
                      refine JL.val rfl rfl rfl (.yes rfl rfl rfl) (Ev.fld 1 rfl (fun _ _ => by kernel_rfl)) ?_
                      refine JL.val rfl rfl rfl (.yes rfl rfl rfl) (Ev.loadA (l := h.root.1.map u8) rfl Tryd.underlying33 rfl Tryd.sizeOf33 (Hd.rds (h := h) memK) (by rw [List.length_map]; exact h.root.2)) ?_
                      refine JL.val rfl rfl rfl (.yes rfl rfl rfl) (Ev.bin rfl rfl (eql_arr8 (n := 32) Tryd.underlying33 Tryd.underlying5 (by kernel_rfl) (by kernel_rfl) (by first | rfl | exact dig_len _ | assumption | exact sha_length _ | exact shaO_length _) (by first | rfl | exact dig_len _ | assumption | exact sha_length _ | exact shaO_length _))) ?_
                      refine JL.val rfl rfl rfl (.none rfl) (Ev.pickT rfl rfl) ?_
                      refine JL.asg ?_
                      refine JL.asg ?_
                      refine JL.nil ?_
                      refine JQ.thenN ?_
                      refine JC.ret ?_
                      refine JQ.end2 (H' := []) (.inl rfl) rfl (.tmp rfl) (.tmp rfl) ?_ ?_
                      · exact Sub.k
                      · first | (rw [inV_bad hbad, inE_bad hbad]; done) | (rw [inV_e hok he, inE_ok hok]; done) | (rw [inV_o hok he, inE_ok hok]; done)
                    · -- guard 47 false
                      have he := of_decide_eq_false hgE
                      refine JL.skip rfl rfl (.noT rfl rfl rfl) ?_
                      refine JL.skip rfl rfl (.noT rfl rfl rfl) ?_
                      refine JL.skip rfl rfl (.noT rfl rfl rfl) ?_
                      refine JL.skip rfl rfl (.noT rfl rfl rfl) ?_
                      refine JL.val rfl rfl rfl (.none rfl) (Ev.pickF rfl rfl) ?_
                      refine JL.asg ?_
                      refine JL.asg ?_
                      refine JL.nil ?_
                      refine JQ.thenN ?_
                      refine JC.ret ?_
                      refine JQ.end2 (H' := []) (.inl rfl) rfl (.tmp rfl) (.tmp rfl) ?_ ?_
                      · exact Sub.k
                      · first | (rw [inV_bad hbad, inE_bad hbad]; done) | (rw [inV_e hok he, inE_ok hok]; done) | (rw [inV_o hok he, inE_ok hok]; done)
                  refine JAll.cons rfl ?_ JAll.nil
                  refine JO.new rfl rfl rfl (.none rfl) (En.allocZ (cs := arr8 (List.replicate 32 0)) Tryd.zeroValue33 rfl) (fun b10 hb10 => ?_)
                  refine JA.one 6 ?_
                  refine JO.callV rfl (.none rfl) rfl Tryd.call86 (fun w1 hw1 => rFollow_any (leafE x.e) i h.n (by omega) (by omega) oa cap ds w1 (hd.old hw1)) ?_
                  refine JA.tk 7 rfl (.none rfl) (fun _ => (Ev.move rfl)) ?_
                  refine JA.tk 8 rfl (.none rfl) (fun _ => (Ev.ex0 rfl)) ?_
                  refine JA.tk 9 rfl (.none rfl) (fun _ => (Ev.ex1 rfl)) ?_
                  refine JA.one 11 ?_
                  refine JO.sto rfl rfl (.none rfl) (Es.sA Tryd.sizeOf33) ?_
                  refine JA.tk 12 rfl (.none rfl) (fun _ => (Ev.assign rfl)) ?_
                  refine JA.done (by kernel_rfl) ?_
                  refine JQ.thenN ?_
                  refine JC.seq ?_
                  refine JC.region ?_
                  refine JL.mv ?_
                  refine JL.val rfl rfl rfl (.none rfl) (Ev.bin rfl rfl eql_int) ?_
                  refine JL.mv ?_
                  refine JL.split (d := 47) rfl (fun hgE => ?_) (fun hgE => ?_)
                  · -- guard 47 true
                    have he := of_decide_eq_true hgE
                    refine JL.val rfl rfl rfl (.yes rfl rfl rfl) (Ev.lB Tryd.underlying33 Tryd.sizeOf33) ?_
                    refine JL.val rfl rfl rfl (.yes rfl rfl rfl) (Ev.fld 1 rfl (fun _ _ => by kernel_rfl)) ?_
                    refine JL.val rfl rfl rfl (.yes rfl rfl rfl) (Ev.loadA (l := h.root.1.map u8) rfl Tryd.underlying33 rfl Tryd.sizeOf33 (Hd.rds (h := h) memK) (by rw [List.length_map]; exact h.root.2)) ?_
                    refine JL.val rfl rfl rfl (.yes rfl rfl rfl) (Ev.bin rfl rfl (eql_arr8 (n := 32) Tryd.underlying33 Tryd.underlying5 (by kernel_rfl) (by kernel_rfl) (by first | rfl | exact dig_len _ | assumption | exact sha_length _ | exact shaO_length _) (by first | rfl | exact dig_len _ | assumption | exact sha_length _ | exact shaO_length _))) ?_
                    refine JL.val rfl rfl rfl (.none rfl) (Ev.pickT rfl rfl) ?_
                    refine JL.asg ?_
                    refine JL.asg ?_
                    refine JL.nil ?_
                    refine JQ.thenN ?_
                    refine JC.ret ?_
                    refine JQ.end2 (H' := []) (.inl rfl) rfl (.tmp rfl) (.tmp rfl) ?_ ?_
                    · exact Sub.k
                    · first | (rw [inV_bad hbad, inE_bad hbad]; done) | (rw [inV_e hok he, inE_ok hok]; done) | (rw [inV_o hok he, inE_ok hok]; done)
                  · -- guard 47 false
                    have he := of_decide_eq_false hgE
                    refine JL.skip rfl rfl (.noT rfl rfl rfl) ?_
                    refine JL.skip rfl rfl (.noT rfl rfl rfl) ?_
                    refine JL.skip rfl rfl (.noT rfl rfl rfl) ?_
                    refine JL.skip rfl rfl (.noT rfl rfl rfl) ?_
                    refine JL.val rfl rfl rfl (.none rfl) (Ev.pickF rfl rfl) ?_
                    refine JL.asg ?_
                    refine JL.asg ?_
                    refine JL.nil ?_
                    refine JQ.thenN ?_
                    refine JC.ret ?_
                    refine JQ.end2 (H' := []) (.inl rfl) rfl (.tmp rfl) (.tmp rfl) ?_ ?_
                    · exact Sub.k
                    · first | (rw [inV_bad hbad, inE_bad hbad]; done) | (rw [inV_e hok he, inE_ok hok]; done) | (rw [inV_o hok he, inE_ok hok]; done)
                refine JAll.cons rfl ?_ JAll.nil
                refine JO.new rfl rfl rfl (.none rfl) (En.allocZ (cs := arr8 (List.replicate 32 0)) Tryd.zeroValue33 rfl) (fun b10 hb10 => ?_)
                refine JA.one 1 ?_
                refine JO.callV rfl (.none rfl) rfl Tryd.call71 (fun w1 hw1 => eleafOf_any x w1 (hx.old hw1) hl) ?_
                refine JA.one 6 ?_
                refine JO.callV rfl (.none rfl) rfl Tryd.call86 (fun w1 hw1 => rFollow_any (leafE x.e) i h.n (by omega) (by omega) oa cap ds w1 (hd.old hw1)) ?_
                refine JA.tk 7 rfl (.none rfl) (fun _ => (Ev.move rfl)) ?_
                refine JA.tk 8 rfl (.none rfl) (fun _ => (Ev.ex0 rfl)) ?_
                refine JA.tk 9 rfl (.none rfl) (fun _ => (Ev.ex1 rfl)) ?_
                refine JA.one 11 ?_
                refine JO.sto rfl rfl (.none rfl) (Es.sA Tryd.sizeOf33) ?_
                refine JA.tk 12 rfl (.none rfl) (fun _ => (Ev.assign rfl)) ?_
                refine JA.done (by kernel_rfl) ?_
                refine JQ.thenN ?_
                refine JC.seq ?_
                refine JC.region ?_
                refine JL.mv ?_
                refine JL.val rfl rfl rfl (.none rfl) (Ev.bin rfl rfl eql_int) ?_
                refine JL.mv ?_
                refine JL.split (d := 47) rfl (fun hgE => ?_) (fun hgE => ?_)
                · -- guard 47 true
                  have he := of_decide_eq_true hgE
                  refine JL.val rfl rfl rfl (.yes rfl rfl rfl) (Ev.lB Tryd.underlying33 Tryd.sizeOf33) ?_
                  refine JL.val rfl rfl rfl (.yes rfl rfl rfl) (Ev.fld 1 rfl (fun _ _ => by kernel_rfl)) ?_
                  refine JL.val rfl rfl rfl (.yes rfl rfl rfl) (Ev.loadA (l := h.root.1.map u8) rfl Tryd.underlying33 rfl Tryd.sizeOf33 (Hd.rds (h := h) memK) (by rw [List.length_map]; exact h.root.2)) ?_
                  refine JL.val rfl rfl rfl (.yes rfl rfl rfl) (Ev.bin rfl rfl (eql_arr8 (n := 32) Tryd.underlying33 Tryd.underlying5 (by kernel_rfl) (by kernel_rfl) (by first | rfl | exact dig_len _ | assumption | exact sha_length _ | exact shaO_length _) (by first | rfl | exact dig_len _ | assumption | exact sha_length _ | exact shaO_length _))) ?_
                  refine JL.val rfl rfl rfl (.none rfl) (Ev.pickT rfl rfl) ?_
                  refine JL.asg ?_
                  refine JL.asg ?_
                  refine JL.nil ?_
                  refine JQ.thenN ?_
                  refine JC.ret ?_
                  refine JQ.end2 (H' := []) (.inl rfl) rfl (.tmp rfl) (.tmp rfl) ?_ ?_
                  · exact Sub.k
                  · first | (rw [inV_bad hbad, inE_bad hbad]; done) | (rw [inV_e hok he, inE_ok hok]; done) | (rw [inV_o hok he, inE_ok hok]; done)
                · -- guard 47 false
                  have he := of_decide_eq_false hgE
                  refine JL.skip rfl rfl (.noT rfl rfl rfl) ?_
                  refine JL.skip rfl rfl (.noT rfl rfl rfl) ?_
                  refine JL.skip rfl rfl (.noT rfl rfl rfl) ?_
                  refine JL.skip rfl rfl (.noT rfl rfl rfl) ?_
                  refine JL.val rfl rfl rfl (.none rfl) (Ev.pickF rfl rfl) ?_
                  refine JL.asg ?_
                  refine JL.asg ?_
                  refine JL.nil ?_
                  refine JQ.thenN ?_
                  refine JC.ret ?_
                  refine JQ.end2 (H' := []) (.inl rfl) rfl (.tmp rfl) (.tmp rfl) ?_ ?_
                  · exact Sub.k
                  · first | (rw [inV_bad hbad, inE_bad hbad]; done) | (rw [inV_e hok he, inE_ok hok]; done) | (rw [inV_o hok he, inE_ok hok]; done)
              refine JAll.cons rfl ?_ JAll.nil
              refine JO.new rfl rfl rfl (.none rfl) (En.allocZ (cs := arr8 (List.replicate 32 0)) Tryd.zeroValue33 rfl) (fun b10 hb10 => ?_)
              refine JA.one 0 ?_
              refine JO.val rfl rfl rfl (.none rfl) (Ev.lB Tryd.underlying30 Tryd.sizeOf30) ?_
              refine JA.one 1 ?_
              refine JO.callV rfl (.none rfl) rfl Tryd.call71 (fun w1 hw1 => eleafOf_any x w1 (hx.old hw1) hl) ?_
              refine JA.one 6 ?_
              refine JO.callV rfl (.none rfl) rfl Tryd.call86 (fun w1 hw1 => rFollow_any (leafE x.e) i h.n (by omega) (by omega) oa cap ds w1 (hd.old hw1)) ?_
              refine JA.tk 7 rfl (.none rfl) (fun _ => (Ev.move rfl)) ?_
              refine JA.tk 8 rfl (.none rfl) (fun _ => (Ev.ex0 rfl)) ?_
              refine JA.tk 9 rfl (.none rfl) (fun _ => (Ev.ex1 rfl)) ?_
              refine JA.one 11 ?_
              refine JO.sto rfl rfl (.none rfl) (Es.sA Tryd.sizeOf33) ?_
              refine JA.tk 12 rfl (.none rfl) (fun _ => (Ev.assign rfl)) ?_
              refine JA.done (by kernel_rfl) ?_
              refine JQ.thenN ?_
              refine JC.seq ?_
              refine JC.region ?_
              refine JL.mv ?_
              refine JL.val rfl rfl rfl (.none rfl) (Ev.bin rfl rfl eql_int) ?_
              refine JL.mv ?_
              refine JL.split (d := 47) rfl (fun hgE => ?_) (fun hgE => ?_)
              · -- guard 47 true
                have he := of_decide_eq_true hgE
                refine JL.val rfl rfl rfl (.yes rfl rfl rfl) (Ev.lB Tryd.underlying33 Tryd.sizeOf33) ?_
                refine JL.val rfl rfl rfl (.yes rfl rfl rfl) (Ev.fld 1 rfl (fun _ _ => by kernel_rfl)) ?_
                refine JL.val rfl rfl rfl (.yes rfl rfl rfl) (Ev.loadA (l := h.root.1.map u8) rfl Tryd.underlying33 rfl Tryd.sizeOf33 (Hd.rds (h := h) memK) (by rw [List.length_map]; exact h.root.2)) ?_
                refine JL.val rfl rfl rfl (.yes rfl rfl rfl) (Ev.bin rfl rfl (eql_arr8 (n := 32) Tryd.underlying33 Tryd.underlying5 (by kernel_rfl) (by kernel_rfl) (by first | rfl | exact dig_len _ | assumption | exact sha_length _ | exact shaO_length _) (by first | rfl | exact dig_len _ | assumption | exact sha_length _ | exact shaO_length _))) ?_
                refine JL.val rfl rfl rfl (.none rfl) (Ev.pickT rfl rfl) ?_
                refine JL.asg ?_
                refine JL.asg ?_
                refine JL.nil ?_
                refine JQ.thenN ?_
                refine JC.ret ?_
                refine JQ.end2 (H' := []) (.inl rfl) rfl (.tmp rfl) (.tmp rfl) ?_ ?_
                · exact Sub.k
                · first | (rw [inV_bad hbad, inE_bad hbad]; done) | (rw [inV_e hok he, inE_ok hok]; done) | (rw [inV_o hok he, inE_ok hok]; done)
              · -- guard 47 false
                have he := of_decide_eq_false hgE
                refine JL.skip rfl rfl (.noT rfl rfl rfl) ?_
                refine JL.skip rfl rfl (.noT rfl rfl rfl) ?_
                refine JL.skip rfl rfl (.noT rfl rfl rfl) ?_
                refine JL.skip rfl rfl (.noT rfl rfl rfl) ?_
                refine JL.val rfl rfl rfl (.none rfl) (Ev.pickF rfl rfl) ?_
                refine JL.asg ?_
                refine JL.asg ?_
                refine JL.nil ?_
                refine JQ.thenN ?_
                refine JC.ret ?_
                refine JQ.end2 (H' := []) (.inl rfl) rfl (.tmp rfl) (.tmp rfl) ?_ ?_
                · exact Sub.k
                · first | (rw [inV_bad hbad, inE_bad hbad]; done) | (rw [inV_e hok he, inE_ok hok]; done) | (rw [inV_o hok he, inE_ok hok]; done)
            refine JAll.cons rfl ?_ JAll.nil
            refine JO.new rfl rfl rfl (.none rfl) (En.allocZ (cs := arr8 (List.replicate 32 0)) Tryd.zeroValue33 rfl) (fun b10 hb10 => ?_)
            refine JA.branch [0, 4] (by kernel_rfl) rfl ?_
            refine JAll.cons rfl ?_ ?_
            · -- 0
              refine JO.val rfl rfl rfl (.none rfl) (Ev.lB Tryd.underlying30 Tryd.sizeOf30) ?_
              refine JA.branch [1, 4] (by kernel_rfl) rfl ?_
              refine JAll.cons rfl ?_ ?_
              · -- 1
                refine JO.callV rfl (.none rfl) rfl Tryd.call71 (fun w1 hw1 => eleafOf_any x w1 (hx.old hw1) hl) ?_
                refine JA.one 4 ?_
                refine JO.val rfl rfl rfl (.none rfl) (Ev.load1 rfl Tryd.underlying3 rfl (Rd.own memK (Hd.get0 h))) ?_
                refine JA.one 6 ?_
                refine JO.callV rfl (.none rfl) rfl Tryd.call86 (fun w1 hw1 => rFollow_any (leafE x.e) i h.n (by omega) (by omega) oa cap ds w1 (hd.old hw1)) ?_
                refine JA.tk 7 rfl (.none rfl) (fun _ => (Ev.move rfl)) ?_
                refine JA.tk 8 rfl (.none rfl) (fun _ => (Ev.ex0 rfl)) ?_
                refine JA.tk 9 rfl (.none rfl) (fun _ => (Ev.ex1 rfl)) ?_
                refine JA.one 11 ?_
                refine JO.sto rfl rfl (.none rfl) (Es.sA Tryd.sizeOf33) ?_
                refine JA.tk 12 rfl (.none rfl) (fun _ => (Ev.assign rfl)) ?_
                refine JA.done (by kernel_rfl) ?_
                refine JQ.thenN ?_
                refine JC.seq ?_
                refine JC.region ?_
                refine JL.mv ?_
                refine JL.val rfl rfl rfl (.none rfl) (Ev.bin rfl rfl eql_int) ?_
                refine JL.mv ?_
                refine JL.split (d := 47) rfl (fun hgE => ?_) (fun hgE => ?_)
                · -- guard 47 true
                  have he := of_decide_eq_true hgE
                  refine JL.val rfl rfl rfl (.yes rfl rfl rfl) (Ev.lB Tryd.underlying33 Tryd.sizeOf33) ?_
                  refine JL.val rfl rfl rfl (.yes rfl rfl rfl) (Ev.fld 1 rfl (fun _ _ => by kernel_rfl)) ?_
                  refine JL.val rfl rfl rfl (.yes rfl rfl rfl) (Ev.loadA (l := h.root.1.map u8) rfl Tryd.underlying33 rfl Tryd.sizeOf33 (Hd.rds (h := h) memK) (by rw [List.length_map]; exact h.root.2)) ?_
                  refine JL.val rfl rfl rfl (.yes rfl rfl rfl) (Ev.bin rfl rfl (eql_arr8 (n := 32) Tryd.underlying33 Tryd.underlying5 (by kernel_rfl) (by kernel_rfl) (by first | rfl | exact dig_len _ | assumption | exact sha_length _ | exact shaO_length _) (by first | rfl | exact dig_len _ | assumption | exact sha_length _ | exact shaO_length _))) ?_
                  refine JL.val rfl rfl rfl (.none rfl) (Ev.pickT rfl rfl) ?_
                  refine JL.asg ?_
                  refine JL.asg ?_
                  refine JL.nil ?_
                  refine JQ.thenN ?_
                  refine JC.ret ?_
                  refine JQ.end2 (H' := []) (.inl rfl) rfl (.tmp rfl) (.tmp rfl) ?_ ?_
                  · exact Sub.k
                  · first | (rw [inV_bad hbad, inE_bad hbad]; done) | (rw [inV_e hok he, inE_ok hok]; done) | (rw [inV_o hok he, inE_ok hok]; done)
                · -- guard 47 false
                  have he := of_decide_eq_false hgE
                  refine JL.skip rfl rfl (.noT rfl rfl rfl) ?_
                  refine JL.skip rfl rfl (.noT rfl rfl rfl) ?_
                  refine JL.skip rfl rfl (.noT rfl rfl rfl) ?_
                  refine JL.skip rfl rfl (.noT rfl rfl rfl) ?_
                  refine JL.val rfl rfl rfl (.none rfl) (Ev.pickF rfl rfl) ?_
                  refine JL.asg ?_
                  refine JL.asg ?_
                  refine JL.nil ?_
                  refine JQ.thenN ?_
                  refine JC.ret ?_
                  refine JQ.end2 (H' := []) (.inl rfl) rfl (.tmp rfl) (.tmp rfl) ?_ ?_
                  · exact Sub.k
                  · first | (rw [inV_bad hbad, inE_bad hbad]; done) | (rw [inV_e hok he, inE_ok hok]; done) | (rw [inV_o hok he, inE_ok hok]; done)
              refine JAll.cons rfl ?_ JAll.nil
              refine JO.val rfl rfl rfl (.none rfl) (Ev.load1 rfl Tryd.underlying3 rfl (Rd.own memK (Hd.get0 h))) ?_
              refine JA.one 1 ?_
              refine JO.callV rfl (.none rfl) rfl Tryd.call71 (fun w1 hw1 => eleafOf_any x w1 (hx.old hw1) hl) ?_
              refine JA.one 6 ?_
              refine JO.callV rfl (.none rfl) rfl Tryd.call86 (fun w1 hw1 => rFollow_any (leafE x.e) i h.n (by omega) (by omega) oa cap ds w1 (hd.old hw1)) ?_
              refine JA.tk 7 rfl (.none rfl) (fun _ => (Ev.move rfl)) ?_
              refine JA.tk 8 rfl (.none rfl) (fun _ => (Ev.ex0 rfl)) ?_
              refine JA.tk 9 rfl (.none rfl) (fun _ => (Ev.ex1 rfl)) ?_
              refine JA.one 11 ?_
              refine JO.sto rfl rfl (.none rfl) (Es.sA Tryd.sizeOf33) ?_
              refine JA.tk 12 rfl (.none rfl) (fun _ => (Ev.assign rfl)) ?_
              refine JA.done (by kernel_rfl) ?_
              refine JQ.thenN ?_
              refine JC.seq ?_
              refine JC.region ?_
              refine JL.mv ?_
              refine JL.val rfl rfl rfl (.none rfl) (Ev.bin rfl rfl eql_int) ?_
              refine JL.mv ?_
              refine JL.split (d := 47) rfl (fun hgE => ?_) (fun hgE => ?_)
              · -- guard 47 true
                have he := of_decide_eq_true hgE
                refine JL.val rfl rfl rfl (.yes rfl rfl rfl) (Ev.lB Tryd.underlying33 Tryd.sizeOf33) ?_
                refine JL.val rfl rfl rfl (.yes rfl rfl rfl) (Ev.fld 1 rfl (fun _ _ => by kernel_rfl)) ?_
                refine JL.val rfl rfl rfl (.yes rfl rfl rfl) (Ev.loadA (l := h.root.1.map u8) rfl Tryd.underlying33 rfl Tryd.sizeOf33 (Hd.rds (h := h) memK) (by rw [List.length_map]; exact h.root.2)) ?_
                refine JL.val rfl rfl rfl (.yes rfl rfl rfl) (Ev.bin rfl rfl (eql_arr8 (n := 32) Tryd.underlying33 Tryd.underlying5 (by kernel_rfl) (by kernel_rfl) (by first | rfl | exact dig_len _ | assumption | exact sha_length _ | exact shaO_length _) (by first | rfl | exact dig_len _ | assumption | exact sha_length _ | exact shaO_length _))) ?_
                refine JL.val rfl rfl rfl (.none rfl) (Ev.pickT rfl rfl) ?_
                refine JL.asg ?_
                refine JL.asg ?_
                refine JL.nil ?_
                refine JQ.thenN ?_
                refine JC.ret ?_
                refine JQ.end2 (H' := []) (.inl rfl) rfl (.tmp rfl) (.tmp rfl) ?_ ?_
                · exact Sub.k
                · first | (rw [inV_bad hbad, inE_bad hbad]; done) | (rw [inV_e hok he, inE_ok hok]; done) | (rw [inV_o hok he, inE_ok hok]; done)
              · -- guard 47 false
                have he := of_decide_eq_false hgE
                refine JL.skip rfl rfl (.noT rfl rfl rfl) ?_
                refine JL.skip rfl rfl (.noT rfl rfl rfl) ?_
                refine JL.skip rfl rfl (.noT rfl rfl rfl) ?_
                refine JL.skip rfl rfl (.noT rfl rfl rfl) ?_
                refine JL.val rfl rfl rfl (.none rfl) (Ev.pickF rfl rfl) ?_
                refine JL.asg ?_
                refine JL.asg ?_
                refine JL.nil ?_
                refine JQ.thenN ?_
                refine JC.ret ?_
                refine JQ.end2 (H' := []) (.inl rfl) rfl (.tmp rfl) (.tmp rfl) ?_ ?_
                · exact Sub.k
                · first | (rw [inV_bad hbad, inE_bad hbad]; done) | (rw [inV_e hok he, inE_ok hok]; done) | (rw [inV_o hok he, inE_ok hok]; done)
            refine JAll.cons rfl ?_ JAll.nil
            refine JO.val rfl rfl rfl (.none rfl) (Ev.load1 rfl Tryd.underlying3 rfl (Rd.own memK (Hd.get0 h))) ?_
            refine JA.one 0 ?_
            refine JO.val rfl rfl rfl (.none rfl) (Ev.lB Tryd.underlying30 Tryd.sizeOf30) ?_
            refine JA.one 1 ?_
            refine JO.callV rfl (.none rfl) rfl Tryd.call71 (fun w1 hw1 => eleafOf_any x w1 (hx.old hw1) hl) ?_
            refine JA.one 6 ?_
            refine JO.callV rfl (.none rfl) rfl Tryd.call86 (fun w1 hw1 => rFollow_any (leafE x.e) i h.n (by omega) (by omega) oa cap ds w1 (hd.old hw1)) ?_
            refine JA.tk 7 rfl (.none rfl) (fun _ => (Ev.move rfl)) ?_
            refine JA.tk 8 rfl (.none rfl) (fun _ => (Ev.ex0 rfl)) ?_
            refine JA.tk 9 rfl (.none rfl) (fun _ => (Ev.ex1 rfl)) ?_
            refine JA.one 11 ?_
            refine JO.sto rfl rfl (.none rfl) (Es.sA Tryd.sizeOf33) ?_
            refine JA.tk 12 rfl (.none rfl) (fun _ => (Ev.assign rfl)) ?_
            refine JA.done (by kernel_rfl) ?_
            refine JQ.thenN ?_
            refine JC.seq ?_
            refine JC.region ?_
            refine JL.mv ?_
            refine JL.val rfl rfl rfl (.none rfl) (Ev.bin rfl rfl eql_int) ?_
            refine JL.mv ?_
            refine JL.split (d := 47) rfl (fun hgE => ?_) (fun hgE => ?_)
            · -- guard 47 true
              have he := of_decide_eq_true hgE
              refine JL.val rfl rfl rfl (.yes rfl rfl rfl) (Ev.lB Tryd.underlying33 Tryd.sizeOf33) ?_
              refine JL.val rfl rfl rfl (.yes rfl rfl rfl) (Ev.fld 1 rfl (fun _ _ => by kernel_rfl)) ?_
              refine JL.val rfl rfl rfl (.yes rfl rfl rfl) (Ev.loadA (l := h.root.1.map u8) rfl Tryd.underlying33 rfl Tryd.sizeOf33 (Hd.rds (h := h) memK) (by rw [List.length_map]; exact h.root.2)) ?_
              refine JL.val rfl rfl rfl (.yes rfl rfl rfl) (Ev.bin rfl rfl (eql_arr8 (n := 32) Tryd.underlying33 Tryd.underlying5 (by kernel_rfl) (by kernel_rfl) (by first | rfl | exact dig_len _ | assumption | exact sha_length _ | exact shaO_length _) (by first | rfl | exact dig_len _ | assumption | exact sha_length _ | exact shaO_length _))) ?_
              refine JL.val rfl rfl rfl (.none rfl) (Ev.pickT rfl rfl) ?_
              refine JL.asg ?_
              refine JL.asg ?_
              refine JL.nil ?_
              refine JQ.thenN ?_
              refine JC.ret ?_
              refine JQ.end2 (H' := []) (.inl rfl) rfl (.tmp rfl) (.tmp rfl) ?_ ?_
              · exact Sub.k
              · first | (rw [inV_bad hbad, inE_bad hbad]; done) | (rw [inV_e hok he, inE_ok hok]; done) | (rw [inV_o hok he, inE_ok hok]; done)
            · -- guard 47 false
              have he := of_decide_eq_false hgE
              refine JL.skip rfl rfl (.noT rfl rfl rfl) ?_
              refine JL.skip rfl rfl (.noT rfl rfl rfl) ?_
              refine JL.skip rfl rfl (.noT rfl rfl rfl) ?_
              refine JL.skip rfl rfl (.noT rfl rfl rfl) ?_
              refine JL.val rfl rfl rfl (.none rfl) (Ev.pickF rfl rfl) ?_
              refine JL.asg ?_
              refine JL.asg ?_
              refine JL.nil ?_
              refine JQ.thenN ?_
              refine JC.ret ?_
              refine JQ.end2 (H' := []) (.inl rfl) rfl (.tmp rfl) (.tmp rfl) ?_ ?_
              · exact Sub.k
              · first | (rw [inV_bad hbad, inE_bad hbad]; done) | (rw [inV_e hok he, inE_ok hok]; done) | (rw [inV_o hok he, inE_ok hok]; done)

theorem rbExtends_any (h g : Hd) (oa : Option Addr) (cap : Nat) (ds : List Dig) (w : World) (hd : Dl w oa cap ds)  :
    Calls Tryd.prog 52 #[.agg h.cl.toArray, .agg g.cl.toArray, .slice oa ds.length cap] w (Ret w (fun v _ => v = .tuple #[.bool (vcV h.root g.root h.n g.n ds), .int .i64 (vcE h.n g.n ds)])) := by
  refine enter (vs := [.agg h.cl.toArray, .agg g.cl.toArray, .slice oa ds.length cap]) Tryd.func52 rfl Tryd.ntmps52 rfl ?_
  refine JC.seq ?_
  refine JC.region ?_
  refine JL.new rfl rfl rfl (.none rfl) (En.boxA rfl) (fun b3 hb3 => ?_)
  refine JL.new rfl rfl rfl (.none rfl) (En.boxA rfl) (fun b4 hb4 => ?_)
  refine JL.asg ?_
  refine JL.asg ?_
  refine JL.nil ?_
  refine JQ.thenN ?_
  refine JC.seq ?_
  refine JC.seq ?_
  refine JC.region ?_
  refine JL.val rfl rfl rfl (.none rfl) (Ev.fld 0 rfl (fun _ _ => by kernel_rfl)) ?_
  refine JL.val rfl rfl rfl (.none rfl) (Ev.load1 rfl Tryd.underlying3 rfl (Rd.own memK (Hd.get0 g))) ?_
  refine JL.val rfl rfl rfl (.none rfl) (Ev.bin rfl rfl lss_int) ?_
  refine JL.mv ?_
  refine JL.split (d := 13) rfl (fun hgA => ?_) (fun hgA => ?_)
  · -- guard 13 true
    have hbad : badC h.n g.n := by simp at hgA; unfold badC; omega
    refine JL.skip rfl rfl (.noF rfl rfl rfl) ?_
    refine JL.skip rfl rfl (.noF rfl rfl rfl) ?_
    refine JL.skip rfl rfl (.noF rfl rfl rfl) ?_
    refine JL.val rfl rfl rfl (.none rfl) (Ev.pickT rfl rfl) ?_
    refine JL.mv ?_
    refine JL.skip rfl rfl (.noF rfl rfl rfl) ?_
    refine JL.skip rfl rfl (.noF rfl rfl rfl) ?_
    refine JL.skip rfl rfl (.noF rfl rfl rfl) ?_
    refine JL.val rfl rfl rfl (.none rfl) (Ev.pickT rfl rfl) ?_
    refine JL.mv ?_
    refine JL.skip rfl rfl (.noF rfl rfl rfl) ?_
    refine JL.skip rfl rfl (.noF rfl rfl rfl) ?_
    refine JL.skip rfl rfl (.noF rfl rfl rfl) ?_
    refine JL.skip rfl rfl (.noF rfl rfl rfl) ?_
    refine JL.skip rfl rfl (.noF rfl rfl rfl) ?_
    refine JL.val rfl rfl rfl (.none rfl) (Ev.pickT rfl rfl) ?_
    refine JL.nil ?_
    refine JQ.thenN ?_
    refine JC.condT rfl ?_
    refine JC.seq ?_
    refine JC.region ?_
    refine JL.asg ?_
    refine JL.asg ?_
    refine JL.nil ?_
    refine JQ.thenN ?_
    refine JC.ret ?_
    refine JQ.thenR ?_
    refine JQ.end2 (H' := []) (.inl rfl) rfl (.tmp rfl) (.tmp rfl) ?_ ?_
    · exact Sub.k
    · first | (rw [vcV_bad (fcE_bad hbad), vcE_bad (fcE_bad hbad)]; done) | (rw [vcE_ok (fcE_ne2 hok)]; done)
  · -- guard 13 false
    have hgA := of_decide_eq_false hgA
    refine JL.val rfl rfl rfl (.yes rfl rfl rfl) (Ev.fld 0 rfl (fun _ _ => by kernel_rfl)) ?_
    refine JL.val rfl rfl rfl (.yes rfl rfl rfl) (Ev.load1 rfl Tryd.underlying3 rfl (Rd.own memK (Hd.get0 g))) ?_
    refine JL.val rfl rfl rfl (.yes rfl rfl rfl) (Ev.bin rfl rfl gtr_int) ?_
    refine JL.val rfl rfl rfl (.none rfl) (Ev.pickF rfl rfl) ?_
    refine JL.mv ?_
    refine JL.split (d := 18) rfl (fun hgB => ?_) (fun hgB => ?_)
    · -- guard 18 true
      have hbad : badC h.n g.n := by simp at hgB; unfold badC; omega
      refine JL.skip rfl rfl (.noF rfl rfl rfl) ?_
      refine JL.skip rfl rfl (.noF rfl rfl rfl) ?_
      refine JL.skip rfl rfl (.noF rfl rfl rfl) ?_
      refine JL.val rfl rfl rfl (.none rfl) (Ev.pickT rfl rfl) ?_
      refine JL.mv ?_
      refine JL.skip rfl rfl (.noF rfl rfl rfl) ?_
      refine JL.skip rfl rfl (.noF rfl rfl rfl) ?_
      refine JL.skip rfl rfl (.noF rfl rfl rfl) ?_
      refine JL.skip rfl rfl (.noF rfl rfl rfl) ?_
      refine JL.skip rfl rfl (.noF rfl rfl rfl) ?_
      refine JL.val rfl rfl rfl (.none rfl) (Ev.pickT rfl rfl) ?_
      refine JL.nil ?_
      refine JQ.thenN ?_
      refine JC.condT rfl ?_
      refine JC.seq ?_
      refine JC.region ?_
      refine JL.asg ?_
      refine JL.asg ?_
      refine JL.nil ?_
      refine JQ.thenN ?_
      refine JC.ret ?_
      refine JQ.thenR ?_
      refine JQ.end2 (H' := []) (.inl rfl) rfl (.tmp rfl) (.tmp rfl) ?_ ?_
      · exact Sub.k
      · first | (rw [vcV_bad (fcE_bad hbad), vcE_bad (fcE_bad hbad)]; done) | (rw [vcE_ok (fcE_ne2 hok)]; done)
    · -- guard 18 false
      have hgB := of_decide_eq_false hgB
      refine JL.val rfl rfl rfl (.yes rfl rfl rfl) (Ev.fld 0 rfl (fun _ _ => by kernel_rfl)) ?_
      refine JL.val rfl rfl rfl (.yes rfl rfl rfl) (Ev.load1 rfl Tryd.underlying3 rfl (Rd.own memK (Hd.get0 h))) ?_
      refine JL.val rfl rfl rfl (.yes rfl rfl rfl) (Ev.bin rfl rfl lss_int) ?_
      refine JL.val rfl rfl rfl (.none rfl) (Ev.pickF rfl rfl) ?_
      refine JL.mv ?_
      refine JL.split (d := 23) rfl (fun hgC => ?_) (fun hgC => ?_)
      · -- guard 23 true
        have hbad : badC h.n g.n := by simp at hgC; unfold badC; omega
        refine JL.skip rfl rfl (.noF rfl rfl rfl) ?_
        refine JL.skip rfl rfl (.noF rfl rfl rfl) ?_
        refine JL.skip rfl rfl (.noF rfl rfl rfl) ?_
        refine JL.skip rfl rfl (.noF rfl rfl rfl) ?_
        refine JL.skip rfl rfl (.noF rfl rfl rfl) ?_
        refine JL.val rfl rfl rfl (.none rfl) (Ev.pickT rfl rfl) ?_
        refine JL.nil ?_
        refine JQ.thenN ?_
        refine JC.condT rfl ?_
        refine JC.seq ?_
        refine JC.region ?_
        refine JL.asg ?_
        refine JL.asg ?_
        refine JL.nil ?_
        refine JQ.thenN ?_
        refine JC.ret ?_
        refine JQ.thenR ?_
        refine JQ.end2 (H' := []) (.inl rfl) rfl (.tmp rfl) (.tmp rfl) ?_ ?_
        · exact Sub.k
        · first | (rw [vcV_bad (fcE_bad hbad), vcE_bad (fcE_bad hbad)]; done) | (rw [vcE_ok (fcE_ne2 hok)]; done)
      · -- guard 23 false
        have hgC := of_decide_eq_false hgC
        refine JL.val rfl rfl rfl (.yes rfl rfl rfl) (Ev.fld 0 rfl (fun _ _ => by kernel_rfl)) ?_
        refine JL.val rfl rfl rfl (.yes rfl rfl rfl) (Ev.load1 rfl Tryd.underlying3 rfl (Rd.own memK (Hd.get0 h))) ?_
        refine JL.val rfl rfl rfl (.yes rfl rfl rfl) (Ev.fld 0 rfl (fun _ _ => by kernel_rfl)) ?_
        refine JL.val rfl rfl rfl (.yes rfl rfl rfl) (Ev.load1 rfl Tryd.underlying3 rfl (Rd.own memK (Hd.get0 g))) ?_
        refine JL.val rfl rfl rfl (.yes rfl rfl rfl) (Ev.bin rfl rfl gtr_int) ?_
        refine JL.val rfl rfl rfl (.none rfl) (Ev.pickF rfl rfl) ?_
        refine JL.nil ?_
        refine JQ.thenN ?_
        refine JC.cond rfl (fun hc1 => ?_) (fun hc1 => ?_)
        · -- t29 True
          replace hc1 := of_decide_eq_true hc1
          have hbad : badC h.n g.n := by unfold badC; omega
          refine JC.seq ?_
          refine JC.region ?_
          refine JL.asg ?_
          refine JL.asg ?_
          refine JL.nil ?_
          refine JQ.thenN ?_
          refine JC.ret ?_
          refine JQ.thenR ?_
          refine JQ.end2 (H' := []) (.inl rfl) rfl (.tmp rfl) (.tmp rfl) ?_ ?_
          · exact Sub.k
          · first | (rw [vcV_bad (fcE_bad hbad), vcE_bad (fcE_bad hbad)]; done) | (rw [vcE_ok (fcE_ne2 hok)]; done)
        · -- t29 False
          replace hc1 := of_decide_eq_false hc1
          have hok : ¬ badC h.n g.n := by unfold badC; omega
          refine JC.skip ?_
          refine JQ.thenN ?_
          refine JC.seq ?_
          refine JC.region ?_
          refine JL.val rfl rfl rfl (.none rfl) (Ev.fld 0 rfl (fun _ _ => by kernel_rfl)) ?_
          refine JL.val rfl rfl rfl (.none rfl) (Ev.load1 rfl Tryd.underlying3 rfl (Rd.own memK (Hd.get0 h))) ?_
          refine JL.val rfl rfl rfl (.none rfl) (Ev.fld 0 rfl (fun _ _ => by kernel_rfl)) ?_
          refine JL.val rfl rfl rfl (.none rfl) (Ev.load1 rfl Tryd.underlying3 rfl (Rd.own memK (Hd.get0 g))) ?_
          refine JL.val rfl rfl rfl (.none rfl) (Ev.fld 1 rfl (fun _ _ => by kernel_rfl)) ?_
          refine JL.val rfl rfl rfl (.none rfl) (Ev.loadA (l := h.root.1.map u8) rfl Tryd.underlying33 rfl Tryd.sizeOf33 (Hd.rds (h := h) memK) (by rw [List.length_map]; exact h.root.2)) ?_
          refine JL.val rfl rfl rfl (.none rfl) (Ev.fld 1 rfl (fun _ _ => by kernel_rfl)) ?_
          refine JL.val rfl rfl rfl (.none rfl) (Ev.loadA (l := g.root.1.map u8) rfl Tryd.underlying33 rfl Tryd.sizeOf33 (Hd.rds (h := g) memK) (by rw [List.length_map]; exact g.root.2)) ?_
          refine JL.mv ?_
          refine JL.callV rfl (.none rfl) rfl Tryd.call87 (fun w1 hw1 => rcVerify_any h.root g.root h.n g.n (by omega) (by omega) oa cap ds w1 (hd.old hw1)) ?_
          refine JL.mv ?_
          refine JL.val rfl rfl rfl (.none rfl) (Ev.ex0 rfl) ?_
          refine JL.val rfl rfl rfl (.none rfl) (Ev.ex1 rfl) ?_
          refine JL.asg ?_
          refine JL.asg ?_
          refine JL.nil ?_
          refine JQ.thenN ?_
          refine JC.seq ?_
          refine JC.region ?_
          refine JL.mv ?_
          refine JL.asg ?_
          refine JL.asg ?_
          refine JL.nil ?_
          refine JQ.thenN ?_
          refine JC.ret ?_
          refine JQ.end2 (H' := []) (.inl rfl) rfl (.tmp rfl) (.tmp rfl) ?_ ?_
          · exact Sub.k
          · first | (rw [vcV_bad (fcE_bad hbad), vcE_bad (fcE_bad hbad)]; done) | (rw [vcE_ok (fcE_ne2 hok)]; done)

theorem lawBProofs_any (oa ob : Option Addr) (cap cb : Nat) (xs : List Et) (i m : Int) (hib : -9223372036854775808 ≤ i ∧ i ≤ 9223372036854775807) (hmb : -9223372036854775808 ≤ m ∧ m ≤ 9223372036854775807) (h g : Hd) (x : Et) (ds : List Dig) (w : World) (hb : Bd w oa cap xs) (hx : Bs w x.o x.cap x.l) (hd : Dl w ob cb ds) (hk : KMem 1 w) (hf : FMem 0 w) :
    Calls Tryd.prog 10 #[.agg #[.slice oa xs.length cap], .int .i64 i, .int .i64 m, .agg h.cl.toArray, .agg g.cl.toArray, .agg x.cl.toArray, .slice ob ds.length cb] w (Ret w (fun v _ => v = .bool true)) := by
  refine enter (vs := [.agg #[.slice oa xs.length cap], .int .i64 i, .int .i64 m, .agg h.cl.toArray, .agg g.cl.toArray, .agg x.cl.toArray, .slice ob ds.length cb]) Tryd.func10 rfl Tryd.ntmps10 rfl ?_
  refine JC.seq ?_
  refine JC.region ?_
  refine JL.new rfl rfl rfl (.none rfl) (En.boxA rfl) (fun b7 hb7 => ?_)
  refine JL.new rfl rfl rfl (.none rfl) (En.boxA rfl) (fun b10 hb10 => ?_)
  refine JL.new rfl rfl rfl (.none rfl) (En.boxA rfl) (fun b11 hb11 => ?_)
  refine JL.new rfl rfl rfl (.none rfl) (En.boxA rfl) (fun b12 hb12 => ?_)
  refine JL.asg ?_
  refine JL.nil ?_
  refine JQ.thenN ?_
  refine JC.seq ?_
  refine JC.seq ?_
  refine JC.region ?_
  refine JL.val rfl rfl rfl (.none rfl) (Ev.lB Tryd.underlying24 Tryd.sizeOf24) ?_
  refine JL.callN rfl (.none rfl) rfl Tryd.call26 (fun w1 hw1 => bgreat_any oa cap xs w1 (hb.old hw1)) ?_
  rintro _ _ ⟨gr, rfl, hgr⟩
  refine JL.mv ?_
  refine JL.split (d := 33) rfl (fun hgA => ?_) (fun hgA => ?_)
  · -- guard 33 true
    refine JL.skip rfl rfl (.noF rfl rfl rfl) ?_
    refine JL.skip rfl rfl (.noF rfl rfl rfl) ?_
    refine JL.val rfl rfl rfl (.none rfl) (Ev.pickT rfl rfl) ?_
    refine JL.mv ?_
    refine JL.skip rfl rfl (.noF rfl rfl rfl) ?_
    refine JL.skip rfl rfl (.noF rfl rfl rfl) ?_
    refine JL.skip rfl rfl (.noF rfl rfl rfl) ?_
    refine JL.skip rfl rfl (.noF rfl rfl rfl) ?_
    refine JL.val rfl rfl rfl (.none rfl) (Ev.pickT rfl rfl) ?_
    refine JL.nil ?_
    refine JQ.thenN ?_
    refine JC.condT rfl ?_
    refine JC.seq ?_
    refine JC.region ?_
    refine JL.asg ?_
    refine JL.nil ?_
    refine JQ.thenN ?_
    refine JC.ret ?_
    refine JQ.thenR ?_
    refine JQ.end1 (H' := []) (.inl rfl) rfl (.tmp rfl) ?_ ?_
    · exact Sub.k
    · first | rfl | exact congrArg Value.bool (decide_eq_true rfl)
  · -- guard 33 false
    refine JL.val rfl rfl rfl (.yes rfl rfl rfl) (Ev.move rfl) ?_
    refine JL.callV rfl (.yes rfl rfl rfl) rfl Tryd.call39 (fun w1 hw1 => great_any ob ds.length cb w1) ?_
    refine JL.val rfl rfl rfl (.none rfl) (Ev.pickF rfl rfl) ?_
    refine JL.mv ?_
    refine JL.split (d := 37) rfl (fun hgB => ?_) (fun hgB => ?_)
    · -- guard 37 true
      refine JL.skip rfl rfl (.noF rfl rfl rfl) ?_
      refine JL.skip rfl rfl (.noF rfl rfl rfl) ?_
      refine JL.skip rfl rfl (.noF rfl rfl rfl) ?_
      refine JL.skip rfl rfl (.noF rfl rfl rfl) ?_
      refine JL.val rfl rfl rfl (.none rfl) (Ev.pickT rfl rfl) ?_
      refine JL.nil ?_
      refine JQ.thenN ?_
      refine JC.condT rfl ?_
      refine JC.seq ?_
      refine JC.region ?_
      refine JL.asg ?_
      refine JL.nil ?_
      refine JQ.thenN ?_
      refine JC.ret ?_
      refine JQ.thenR ?_
      refine JQ.end1 (H' := []) (.inl rfl) rfl (.tmp rfl) ?_ ?_
      · exact Sub.k
      · first | rfl | exact congrArg Value.bool (decide_eq_true rfl)
    · -- guard 37 false
      refine JL.val rfl rfl rfl (.yes rfl rfl rfl) (Ev.fld 1 rfl (fun _ _ => by kernel_rfl)) ?_
      refine JL.val rfl rfl rfl (.yes rfl rfl rfl) (Ev.load1 rfl Tryd.underlying28 rfl (Rd.own (cs := x.cl.toArray) memK rfl)) ?_
      refine JL.val rfl rfl rfl (.yes rfl rfl rfl) (Ev.lenS rfl Tryd.underlying28) ?_
      refine JL.val rfl rfl rfl (.yes rfl rfl rfl) (Ev.bin rfl rfl gtr_int) ?_
      refine JL.val rfl rfl rfl (.none rfl) (Ev.pickF rfl rfl) ?_
      refine JL.nil ?_
      refine JQ.thenN ?_
      refine JC.cond rfl (fun hc1 => ?_) (fun hc1 => ?_)
      · -- t42 True
        replace hc1 := of_decide_eq_true hc1
        refine JC.seq ?_
        refine JC.region ?_
        refine JL.asg ?_
        refine JL.nil ?_
        refine JQ.thenN ?_
        refine JC.ret ?_
        refine JQ.thenR ?_
        refine JQ.end1 (H' := []) (.inl rfl) rfl (.tmp rfl) ?_ ?_
        · exact Sub.k
        · first | rfl | exact congrArg Value.bool (decide_eq_true rfl)
      · -- t42 False
        replace hc1 := of_decide_eq_false hc1
        refine JC.skip ?_
        refine JQ.thenN ?_
        refine JC.seq ?_
        refine JC.region ?_
        refine JL.val rfl rfl rfl (.none rfl) (Ev.lB Tryd.underlying24 Tryd.sizeOf24) ?_
        refine JL.mv ?_
        refine JL.callN rfl (.none rfl) rfl Tryd.call15 (fun w1 hw1 => bProve_any oa cap xs i hib w1 (hb.old hw1) (hk.old hw1) (hf.old hw1)) ?_
        rintro _ _ ⟨r1, rfl, rfl, hr1⟩
        refine JL.mv ?_
        refine JL.val rfl rfl rfl (.none rfl) (Ev.ex0 rfl) ?_
        refine JL.val rfl rfl rfl (.none rfl) (Ev.ex1 rfl) ?_
        refine JL.asg ?_
        refine JL.asg ?_
        refine JL.nil ?_
        refine JQ.thenN ?_
        refine JC.seq ?_
        refine JC.region ?_
        refine JL.val rfl rfl rfl (.none rfl) (Ev.lB Tryd.underlying24 Tryd.sizeOf24) ?_
        refine JL.mv ?_
        refine JL.callN rfl (.none rfl) rfl Tryd.call49 (fun w1 hw1 => rbProve_any oa cap xs i hib w1 (hb.old hw1)) ?_
        rintro _ _ ⟨r2, rfl, rfl, hr2⟩
        refine JL.mv ?_
        refine JL.val rfl rfl rfl (.none rfl) (Ev.ex0 rfl) ?_
        refine JL.val rfl rfl rfl (.none rfl) (Ev.ex1 rfl) ?_
        refine JL.asg ?_
        refine JL.asg ?_
        refine JL.nil ?_
        refine JQ.thenN ?_
        refine JC.seq ?_
        refine JC.region ?_
        refine JL.val rfl rfl rfl (.none rfl) (Ev.lB Tryd.underlying24 Tryd.sizeOf24) ?_
        refine JL.mv ?_
        refine JL.callN rfl (.none rfl) rfl Tryd.call16 (fun w1 hw1 => bExtend_any oa cap xs m hmb w1 (hb.old hw1) (hk.old hw1) (hf.old hw1)) ?_
        rintro _ _ ⟨r3, rfl, rfl, hr3⟩
        refine JL.mv ?_
        refine JL.val rfl rfl rfl (.none rfl) (Ev.ex0 rfl) ?_
        refine JL.val rfl rfl rfl (.none rfl) (Ev.ex1 rfl) ?_
        refine JL.asg ?_
        refine JL.asg ?_
        refine JL.nil ?_
        refine JQ.thenN ?_
        refine JC.seq ?_
        refine JC.region ?_
        refine JL.val rfl rfl rfl (.none rfl) (Ev.lB Tryd.underlying24 Tryd.sizeOf24) ?_
        refine JL.mv ?_
        refine JL.callN rfl (.none rfl) rfl Tryd.call50 (fun w1 hw1 => rbExtend_any oa cap xs m hmb w1 (hb.old hw1)) ?_
        rintro _ _ ⟨r4, rfl, rfl, hr4⟩
        refine JL.mv ?_
        refine JL.val rfl rfl rfl (.none rfl) (Ev.ex0 rfl) ?_
        refine JL.val rfl rfl rfl (.none rfl) (Ev.ex1 rfl) ?_
        refine JL.asg ?_
        refine JL.asg ?_
        refine JL.nil ?_
        refine JQ.thenN ?_
        refine JC.seq ?_
        refine JC.region ?_
        refine JL.val rfl rfl rfl (.none rfl) (Ev.loadB rfl memK Tryd.underlying38 rfl Tryd.sizeOf38 (Hd.size g)) ?_
        refine JL.val rfl rfl rfl (.none rfl) (Ev.lB Tryd.underlying30 Tryd.sizeOf30) ?_
        refine JL.mv ?_
        refine JL.mv ?_
        refine JL.callV rfl (.none rfl) rfl Tryd.call19 (fun w1 hw1 => bIncludes_any g x i ob cb ds w1 (hd.old hw1) (hx.old hw1) (hk.old hw1) (hf.old hw1)) ?_
        refine JL.mv ?_
        refine JL.val rfl rfl rfl (.none rfl) (Ev.ex0 rfl) ?_
        refine JL.val rfl rfl rfl (.none rfl) (Ev.ex1 rfl) ?_
        refine JL.asg ?_
        refine JL.asg ?_
        refine JL.nil ?_
        refine JQ.thenN ?_
        refine JC.seq ?_
        refine JC.region ?_
        refine JL.val rfl rfl rfl (.none rfl) (Ev.loadB rfl memK Tryd.underlying38 rfl Tryd.sizeOf38 (Hd.size g)) ?_
        refine JL.val rfl rfl rfl (.none rfl) (Ev.lB Tryd.underlying30 Tryd.sizeOf30) ?_
        refine JL.mv ?_
        refine JL.mv ?_
        refine JL.callV rfl (.none rfl) rfl Tryd.call51 (fun w1 hw1 => rbIncludes_any g x i ob cb ds w1 (hd.old hw1) (hx.old hw1)) ?_
        refine JL.mv ?_
        refine JL.val rfl rfl rfl (.none rfl) (Ev.ex0 rfl) ?_
        refine JL.val rfl rfl rfl (.none rfl) (Ev.ex1 rfl) ?_
        refine JL.asg ?_
        refine JL.asg ?_
        refine JL.nil ?_
        refine JQ.thenN ?_
        refine JC.seq ?_
        refine JC.region ?_
        refine JL.val rfl rfl rfl (.none rfl) (Ev.loadB rfl memK Tryd.underlying38 rfl Tryd.sizeOf38 (Hd.size h)) ?_
        refine JL.val rfl rfl rfl (.none rfl) (Ev.loadB rfl memK Tryd.underlying38 rfl Tryd.sizeOf38 (Hd.size g)) ?_
        refine JL.mv ?_
        refine JL.callV rfl (.none rfl) rfl Tryd.call20 (fun w1 hw1 => bExtends_any h g ob cb ds w1 (hd.old hw1) (hk.old hw1) (hf.old hw1)) ?_
        refine JL.mv ?_
        refine JL.val rfl rfl rfl (.none rfl) (Ev.ex0 rfl) ?_
        refine JL.val rfl rfl rfl (.none rfl) (Ev.ex1 rfl) ?_
        refine JL.asg ?_
        refine JL.asg ?_
        refine JL.nil ?_
        refine JQ.thenN ?_
        refine JC.seq ?_
        refine JC.region ?_
        refine JL.val rfl rfl rfl (.none rfl) (Ev.loadB rfl memK Tryd.underlying38 rfl Tryd.sizeOf38 (Hd.size h)) ?_
        refine JL.val rfl rfl rfl (.none rfl) (Ev.loadB rfl memK Tryd.underlying38 rfl Tryd.sizeOf38 (Hd.size g)) ?_
        refine JL.mv ?_
        refine JL.callV rfl (.none rfl) rfl Tryd.call52 (fun w1 hw1 => rbExtends_any h g ob cb ds w1 (hd.old hw1)) ?_
        refine JL.mv ?_
        refine JL.val rfl rfl rfl (.none rfl) (Ev.ex0 rfl) ?_
        refine JL.val rfl rfl rfl (.none rfl) (Ev.ex1 rfl) ?_
        refine JL.asg ?_
        refine JL.asg ?_
        refine JL.nil ?_
        refine JQ.thenN ?_
        refine JC.seq ?_
        refine JC.region ?_
        obtain ⟨o1, c1, e1, _, hC1⟩ := Row.vw (e := 33) hr1
        refine JL.re (d := 15) rfl e1 ?_
        obtain ⟨o2, c2, e2, _, hC2⟩ := Row.vw (e := 33) hr2
        refine JL.re (d := 17) rfl e2 ?_
        obtain ⟨o3, c3, e3, _, hC3⟩ := Row.vw (e := 33) hr3
        refine JL.re (d := 19) rfl e3 ?_
        obtain ⟨o4, c4, e4, _, hC4⟩ := Row.vw (e := 33) hr4
        refine JL.re (d := 21) rfl e4 ?_
        refine JL.mv ?_
        refine JL.mv ?_
        refine JL.callV rfl (.none rfl) rfl Tryd.call41 (fun w1 hw1 => dSame_any o1 o2 c1 c2 (bpV (xs.map Et.e) i) (bpV (xs.map Et.e) i) w1 (hC1 w1 hw1 (fun p hp => by simp [hp])) (hC2 w1 hw1 (fun p hp => by simp [hp])) (bpV_le _ _)) ?_
        refine JL.mv ?_
        refine JL.know (d := 100) (b := true) rfl ?_ ?_
        · exact decide_eq_true rfl
        refine JL.val rfl rfl rfl (.yes rfl rfl rfl) (Ev.move rfl) ?_
        refine JL.val rfl rfl rfl (.yes rfl rfl rfl) (Ev.move rfl) ?_
        refine JL.val rfl rfl rfl (.yes rfl rfl rfl) (Ev.bin rfl rfl eql_int) ?_
        refine JL.val rfl rfl rfl (.none rfl) (Ev.pickT rfl rfl) ?_
        refine JL.mv ?_
        refine JL.know (d := 105) (b := true) rfl ?_ ?_
        · exact decide_eq_true rfl
        refine JL.val rfl rfl rfl (.yes rfl rfl rfl) (Ev.move rfl) ?_
        refine JL.val rfl rfl rfl (.yes rfl rfl rfl) (Ev.move rfl) ?_
        refine JL.callV rfl (.yes rfl rfl rfl) rfl Tryd.call41 (fun w1 hw1 => dSame_any o3 o4 c3 c4 (bxV (xs.map Et.e) m) (bxV (xs.map Et.e) m) w1 (hC3 w1 hw1 (fun p hp => by simp [hp])) (hC4 w1 hw1 (fun p hp => by simp [hp])) (bxV_le _ _)) ?_
        refine JL.val rfl rfl rfl (.none rfl) (Ev.pickT rfl rfl) ?_
        refine JL.mv ?_
        refine JL.know (d := 110) (b := true) rfl ?_ ?_
        · exact decide_eq_true rfl
        refine JL.val rfl rfl rfl (.yes rfl rfl rfl) (Ev.move rfl) ?_
        refine JL.val rfl rfl rfl (.yes rfl rfl rfl) (Ev.move rfl) ?_
        refine JL.val rfl rfl rfl (.yes rfl rfl rfl) (Ev.bin rfl rfl eql_int) ?_
        refine JL.val rfl rfl rfl (.none rfl) (Ev.pickT rfl rfl) ?_
        refine JL.mv ?_
        refine JL.know (d := 115) (b := true) rfl ?_ ?_
        · exact decide_eq_true rfl
        refine JL.val rfl rfl rfl (.yes rfl rfl rfl) (Ev.move rfl) ?_
        refine JL.val rfl rfl rfl (.yes rfl rfl rfl) (Ev.move rfl) ?_
        refine JL.val rfl rfl rfl (.yes rfl rfl rfl) (Ev.bin rfl rfl (eql_bool Tryd.underlying4)) ?_
        refine JL.val rfl rfl rfl (.none rfl) (Ev.pickT rfl rfl) ?_
        refine JL.mv ?_
        refine JL.know (d := 120) (b := true) rfl ?_ ?_
        · exact decide_eq_true rfl
        refine JL.val rfl rfl rfl (.yes rfl rfl rfl) (Ev.move rfl) ?_
        refine JL.val rfl rfl rfl (.yes rfl rfl rfl) (Ev.move rfl) ?_
        refine JL.val rfl rfl rfl (.yes rfl rfl rfl) (Ev.bin rfl rfl eql_int) ?_
        refine JL.val rfl rfl rfl (.none rfl) (Ev.pickT rfl rfl) ?_
        refine JL.mv ?_
        refine JL.know (d := 125) (b := true) rfl ?_ ?_
        · exact decide_eq_true rfl
        refine JL.val rfl rfl rfl (.yes rfl rfl rfl) (Ev.move rfl) ?_
        refine JL.val rfl rfl rfl (.yes rfl rfl rfl) (Ev.move rfl) ?_
        refine JL.val rfl rfl rfl (.yes rfl rfl rfl) (Ev.bin rfl rfl (eql_bool Tryd.underlying4)) ?_
        refine JL.val rfl rfl rfl (.none rfl) (Ev.pickT rfl rfl) ?_
        refine JL.mv ?_
        refine JL.know (d := 130) (b := true) rfl ?_ ?_
        · exact decide_eq_true rfl
        refine JL.val rfl rfl rfl (.yes rfl rfl rfl) (Ev.move rfl) ?_
        refine JL.val rfl rfl rfl (.yes rfl rfl rfl) (Ev.move rfl) ?_
        refine JL.val rfl rfl rfl (.yes rfl rfl rfl) (Ev.bin rfl rfl eql_int) ?_
        refine JL.val rfl rfl rfl (.none rfl) (Ev.pickT rfl rfl) ?_
        refine JL.asg ?_
        refine JL.nil ?_
        refine JQ.thenN ?_
        refine JC.ret ?_
        refine JQ.end1 (H' := []) (.inl rfl) rfl (.tmp rfl) ?_ ?_
        · exact Sub.k
        · first | rfl | exact congrArg Value.bool (decide_eq_true rfl)

end Go.Proofs.YtopaednfjjjnbaaDoor
