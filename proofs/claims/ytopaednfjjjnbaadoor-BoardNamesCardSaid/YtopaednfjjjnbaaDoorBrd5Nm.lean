/-
  Boards: paths and consistency proofs; the laws that these are accepted.
-/
import Derived.Test.YtopaednfjjjnbaaDoorBrd4Nm
import Derived.Test.YtopaednfjjjnbaaDoorCon6Nm
namespace Go.Proofs.YtopaednfjjjnbaaDoor
open Go Go.RowKit
set_option maxRecDepth 100000

def bpV (xs : List Ent) (i : Int) : List Dig := if okB xs then pathV (leavesE xs) i else []
def bpE (xs : List Ent) (i : Int) : Int := if okB xs then pathE (leavesE xs) i else 8
def bxV (xs : List Ent) (i : Int) : List Dig := if okB xs then prV (leavesE xs) i else []
def bxE (xs : List Ent) (i : Int) : Int := if okB xs then prE (leavesE xs) i else 8
section
variable {xs : List Ent} {i : Int}
theorem bpV_ok (h : okB xs) : bpV xs i = pathV (leavesE xs) i := if_pos h
theorem bpE_ok (h : okB xs) : bpE xs i = pathE (leavesE xs) i := if_pos h
theorem bpV_bad (h : ¬ okB xs) : bpV xs i = [] := if_neg h
theorem bpE_bad (h : ¬ okB xs) : bpE xs i = 8 := if_neg h
theorem bxV_ok (h : okB xs) : bxV xs i = prV (leavesE xs) i := if_pos h
theorem bxE_ok (h : okB xs) : bxE xs i = prE (leavesE xs) i := if_pos h
theorem bxV_bad (h : ¬ okB xs) : bxV xs i = [] := if_neg h
theorem bxE_bad (h : ¬ okB xs) : bxE xs i = 8 := if_neg h
end
def badI (h : Hd) (x : Ent) (i : Int) : Prop := okE x = false ∨ badT i h.n
instance (h : Hd) (x : Ent) (i : Int) : Decidable (badI h x i) := inferInstanceAs (Decidable (_ ∨ _))
def inV (h : Hd) (x : Ent) (i : Int) (ds : List Dig) : Bool := if badI h x i then false else decide (foE i h.n ds = 0) && decide ((foV (leafE x) i h.n ds).1 = h.root.1)
def inE (h : Hd) (x : Ent) (i : Int) : Int := if badI h x i then 2 else 0
section
variable {h : Hd} {x : Ent} {i : Int} {ds : List Dig}
theorem inV_bad (hb : badI h x i) : inV h x i ds = false := if_pos hb
theorem inE_bad (hb : badI h x i) : inE h x i = 2 := if_pos hb
theorem inE_ok (hb : ¬ badI h x i) : inE h x i = 0 := if_neg hb
theorem inV_e (hb : ¬ badI h x i) (he : foE i h.n ds = 0) : inV h x i ds = decide ((foV (leafE x) i h.n ds).1 = h.root.1) := by
  unfold inV
  rw [if_neg hb, decide_eq_true he, Bool.true_and]
theorem inV_o (hb : ¬ badI h x i) (he : ¬ foE i h.n ds = 0) : inV h x i ds = false := by
  unfold inV
  rw [if_neg hb, decide_eq_false he, Bool.false_and]
end
theorem sized_any (n m : Int) (w : World) :
    Calls Tryd.prog 62 #[.int .i64 n, .int .i64 m] w (Ret w (fun v _ => v = .bool (decide (1 ≤ n ∧ n ≤ m)))) := by
  refine enter (vs := [.int .i64 n, .int .i64 m]) Tryd.func62 rfl Tryd.ntmps62 rfl ?_
  refine JC.seq ?_
  refine JC.region ?_
  refine JL.asg ?_
  refine JL.nil ?_
  refine JQ.thenN ?_
  refine JC.seq ?_
  refine JC.region ?_
  refine JL.mv ?_
  refine JL.val rfl rfl rfl (.none rfl) (Ev.bin rfl rfl geq_int) ?_
  refine JL.mv ?_
  refine JL.split (d := 7) rfl (fun hgA => ?_) (fun hgA => ?_)
  · -- guard 7 true
    have hgA := of_decide_eq_true hgA
    refine JL.val rfl rfl rfl (.yes rfl rfl rfl) (Ev.move rfl) ?_
    refine JL.val rfl rfl rfl (.yes rfl rfl rfl) (Ev.move rfl) ?_
    refine JL.val rfl rfl rfl (.yes rfl rfl rfl) (Ev.bin rfl rfl leq_int) ?_
    refine JL.val rfl rfl rfl (.none rfl) (Ev.pickT rfl rfl) ?_
    refine JL.asg ?_
    refine JL.nil ?_
    refine JQ.thenN ?_
    refine JC.ret ?_
    refine JQ.end1 (H' := []) (.inl rfl) rfl (.tmp rfl) ?_ ?_
    · exact Sub.k
    · exact congrArg Value.bool (by first | exact decide_eq_decide.2 (by omega) | exact (decide_eq_false (by omega)).symm)
  · -- guard 7 false
    have hgA := of_decide_eq_false hgA
    refine JL.skip rfl rfl (.noT rfl rfl rfl) ?_
    refine JL.skip rfl rfl (.noT rfl rfl rfl) ?_
    refine JL.skip rfl rfl (.noT rfl rfl rfl) ?_
    refine JL.val rfl rfl rfl (.none rfl) (Ev.pickF rfl rfl) ?_
    refine JL.asg ?_
    refine JL.nil ?_
    refine JQ.thenN ?_
    refine JC.ret ?_
    refine JQ.end1 (H' := []) (.inl rfl) rfl (.tmp rfl) ?_ ?_
    · exact Sub.k
    · exact congrArg Value.bool (by first | exact decide_eq_decide.2 (by omega) | exact (decide_eq_false (by omega)).symm)

theorem bProve_any (oa : Option Addr) (cap : Nat) (xs : List Et) (i : Int) (hib : -9223372036854775808 ≤ i ∧ i ≤ 9223372036854775807) (w : World) (hb : Bd w oa cap xs) (hk : KMem 1 w) (hf : FMem 0 w) :
    Calls Tryd.prog 15 #[.agg #[.slice oa xs.length cap], .int .i64 i] w (Ret w (fun v H => ∃ r : Option Row, v = .tuple #[Row.v (bpV (xs.map Et.e) i).length r, .int .i64 (bpE (xs.map Et.e) i)] ∧ H = Row.b 33 r ∧ Row.ok 32 (bpV (xs.map Et.e) i).length (fl (bpV (xs.map Et.e) i)) r)) := by
  refine enter (vs := [.agg #[.slice oa xs.length cap], .int .i64 i]) Tryd.func15 rfl Tryd.ntmps15 rfl ?_
  refine JC.seq ?_
  refine JC.region ?_
  refine JL.new rfl rfl rfl (.none rfl) (En.boxA rfl) (fun b2 hb2 => ?_)
  refine JL.asg ?_
  refine JL.asg ?_
  refine JL.nil ?_
  refine JQ.thenN ?_
  refine JC.seq ?_
  refine JC.region ?_
  refine JL.val rfl rfl rfl (.none rfl) (Ev.lB Tryd.underlying24 Tryd.sizeOf24) ?_
  refine JL.callN rfl (.none rfl) rfl Tryd.call58 (fun w1 hw1 => bleaves_any oa cap xs w1 (hb.old hw1) (hk.old hw1) (hf.old hw1)) ?_
  rintro _ _ ⟨r1, rfl, rfl, hr1⟩
  refine JL.mv ?_
  refine JL.val rfl rfl rfl (.none rfl) (Ev.ex0 rfl) ?_
  refine JL.val rfl rfl rfl (.none rfl) (Ev.ex1 rfl) ?_
  refine JL.asg ?_
  refine JL.asg ?_
  refine JL.nil ?_
  refine JQ.thenN ?_
  refine JC.seq ?_
  refine JC.seq ?_
  refine JC.region ?_
  refine JL.mv ?_
  refine JL.val rfl rfl rfl (.none rfl) (Ev.bin rfl rfl neq_int) ?_
  refine JL.nil ?_
  refine JQ.thenN ?_
  refine JC.cond rfl (fun hc => ?_) (fun hc => ?_)
  · -- t14 True
    have hbad : ¬ okB (xs.map Et.e) := fun h => by rw [ckE_ok h] at hc; simp at hc
    refine JC.seq ?_
    refine JC.region ?_
    refine JL.mv ?_
    refine JL.asg ?_
    refine JL.asg ?_
    refine JL.nil ?_
    refine JQ.thenN ?_
    refine JC.ret ?_
    refine JQ.thenR ?_
    refine JQ.end2 (H' := []) (.inl rfl) rfl (.tmp rfl) (.tmp rfl) ?_ ?_
    · first | exact Sub.all | exact Sub.nil | exact Sub.of_cnt (fun a => by (try dsimp only); simp only [cntA]; omega)
    · exact ⟨none, by rw [bpV_bad hbad, bpE_bad hbad, ckE_bad hbad]; rfl, rfl, by rw [bpV_bad hbad]; exact Row.ok0⟩
  · -- t14 False
    have hok : okB (xs.map Et.e) := Classical.byContradiction fun h => by rw [ckE_bad h] at hc; simp at hc
    have hlen := okB_len hok
    have hsz := okB_sz hok
    have hll := leaves_len xs
    have hls := lsV_ok hok
    refine JC.skip ?_
    refine JQ.thenN ?_
    refine JC.seq ?_
    refine JC.region ?_
    obtain ⟨o1, c1, e1, _, hC1⟩ := Row.vw (e := 33) hr1
    refine JL.re (d := 6) rfl e1 ?_
    refine JL.mv ?_
    refine JL.mv ?_
    refine JL.callN rfl (.none rfl) rfl Tryd.call59 (fun w1 hw1 => Path_any o1 c1 (lsV (xs.map Et.e)) i hib w1 (hC1 w1 hw1 (fun p hp => by simp [hp])) (by rw [hls, hll]; omega) (hk.old hw1) (hf.old hw1)) ?_
    rintro _ _ ⟨r2, rfl, rfl, hr2⟩
    refine JL.val rfl rfl rfl (.none rfl) (Ev.ex0 rfl) ?_
    refine JL.val rfl rfl rfl (.none rfl) (Ev.ex1 rfl) ?_
    refine JL.asg ?_
    refine JL.asg ?_
    refine JL.nil ?_
    refine JQ.thenN ?_
    refine JC.ret ?_
    refine JQ.end2 (H' := (Row.b 33 r2)) (.inl rfl) rfl (.tmp rfl) (.tmp rfl) ?_ ?_
    · first | exact Sub.all | exact Sub.nil | exact Sub.of_cnt (fun a => by (try dsimp only); simp only [cntA]; omega)
    · rw [hls] at hr2; exact ⟨r2, by rw [hls, bpV_ok hok, bpE_ok hok], rfl, by rw [bpV_ok hok]; exact hr2⟩

theorem bExtend_any (oa : Option Addr) (cap : Nat) (xs : List Et) (i : Int) (hib : -9223372036854775808 ≤ i ∧ i ≤ 9223372036854775807) (w : World) (hb : Bd w oa cap xs) (hk : KMem 1 w) (hf : FMem 0 w) :
    Calls Tryd.prog 16 #[.agg #[.slice oa xs.length cap], .int .i64 i] w (Ret w (fun v H => ∃ r : Option Row, v = .tuple #[Row.v (bxV (xs.map Et.e) i).length r, .int .i64 (bxE (xs.map Et.e) i)] ∧ H = Row.b 33 r ∧ Row.ok 32 (bxV (xs.map Et.e) i).length (fl (bxV (xs.map Et.e) i)) r)) := by
  refine enter (vs := [.agg #[.slice oa xs.length cap], .int .i64 i]) Tryd.func16 rfl Tryd.ntmps16 rfl ?_
  refine JC.seq ?_
  refine JC.region ?_
  refine JL.new rfl rfl rfl (.none rfl) (En.boxA rfl) (fun b2 hb2 => ?_)
  refine JL.asg ?_
  refine JL.asg ?_
  refine JL.nil ?_
  refine JQ.thenN ?_
  refine JC.seq ?_
  refine JC.region ?_
  refine JL.val rfl rfl rfl (.none rfl) (Ev.lB Tryd.underlying24 Tryd.sizeOf24) ?_
  refine JL.callN rfl (.none rfl) rfl Tryd.call58 (fun w1 hw1 => bleaves_any oa cap xs w1 (hb.old hw1) (hk.old hw1) (hf.old hw1)) ?_
  rintro _ _ ⟨r1, rfl, rfl, hr1⟩
  refine JL.mv ?_
  refine JL.val rfl rfl rfl (.none rfl) (Ev.ex0 rfl) ?_
  refine JL.val rfl rfl rfl (.none rfl) (Ev.ex1 rfl) ?_
  refine JL.asg ?_
  refine JL.asg ?_
  refine JL.nil ?_
  refine JQ.thenN ?_
  refine JC.seq ?_
  refine JC.seq ?_
  refine JC.region ?_
  refine JL.mv ?_
  refine JL.val rfl rfl rfl (.none rfl) (Ev.bin rfl rfl neq_int) ?_
  refine JL.nil ?_
  refine JQ.thenN ?_
  refine JC.cond rfl (fun hc => ?_) (fun hc => ?_)
  · -- t14 True
    have hbad : ¬ okB (xs.map Et.e) := fun h => by rw [ckE_ok h] at hc; simp at hc
    refine JC.seq ?_
    refine JC.region ?_
    refine JL.mv ?_
    refine JL.asg ?_
    refine JL.asg ?_
    refine JL.nil ?_
    refine JQ.thenN ?_
    refine JC.ret ?_
    refine JQ.thenR ?_
    refine JQ.end2 (H' := []) (.inl rfl) rfl (.tmp rfl) (.tmp rfl) ?_ ?_
    · first | exact Sub.all | exact Sub.nil | exact Sub.of_cnt (fun a => by (try dsimp only); simp only [cntA]; omega)
    · exact ⟨none, by rw [bxV_bad hbad, bxE_bad hbad, ckE_bad hbad]; rfl, rfl, by rw [bxV_bad hbad]; exact Row.ok0⟩
  · -- t14 False
    have hok : okB (xs.map Et.e) := Classical.byContradiction fun h => by rw [ckE_bad h] at hc; simp at hc
    have hlen := okB_len hok
    have hsz := okB_sz hok
    have hll := leaves_len xs
    have hls := lsV_ok hok
    refine JC.skip ?_
    refine JQ.thenN ?_
    refine JC.seq ?_
    refine JC.region ?_
    obtain ⟨o1, c1, e1, _, hC1⟩ := Row.vw (e := 33) hr1
    refine JL.re (d := 6) rfl e1 ?_
    refine JL.mv ?_
    refine JL.mv ?_
    refine JL.callN rfl (.none rfl) rfl Tryd.call60 (fun w1 hw1 => cProve_any o1 c1 (lsV (xs.map Et.e)) i hib w1 (hC1 w1 hw1 (fun p hp => by simp [hp])) (hk.old hw1) (hf.old hw1)) ?_
    rintro _ _ ⟨r2, rfl, rfl, hr2⟩
    refine JL.val rfl rfl rfl (.none rfl) (Ev.ex0 rfl) ?_
    refine JL.val rfl rfl rfl (.none rfl) (Ev.ex1 rfl) ?_
    refine JL.asg ?_
    refine JL.asg ?_
    refine JL.nil ?_
    refine JQ.thenN ?_
    refine JC.ret ?_
    refine JQ.end2 (H' := (Row.b 33 r2)) (.inl rfl) rfl (.tmp rfl) (.tmp rfl) ?_ ?_
    · first | exact Sub.all | exact Sub.nil | exact Sub.of_cnt (fun a => by (try dsimp only); simp only [cntA]; omega)
    · rw [hls] at hr2; exact ⟨r2, by rw [hls, bxV_ok hok, bxE_ok hok], rfl, by rw [bxV_ok hok]; exact hr2⟩

theorem bIncludes_any (h : Hd) (x : Et) (i : Int) (oa : Option Addr) (cap : Nat) (ds : List Dig) (w : World) (hd : Dl w oa cap ds) (hx : Bs w x.o x.cap x.l) (hk : KMem 1 w) (hf : FMem 0 w) :
    Calls Tryd.prog 19 #[.agg h.cl.toArray, .agg x.cl.toArray, .int .i64 i, .slice oa ds.length cap] w (Ret w (fun v _ => v = .tuple #[.bool (inV h x.e i ds), .int .i64 (inE h x.e i)])) := by
  refine enter (vs := [.agg h.cl.toArray, .agg x.cl.toArray, .int .i64 i, .slice oa ds.length cap]) Tryd.func19 rfl Tryd.ntmps19 rfl ?_
  refine JC.seq ?_
  refine JC.region ?_
  refine JL.new rfl rfl rfl (.none rfl) (En.boxA rfl) (fun b4 hb4 => ?_)
  refine JL.new rfl rfl rfl (.none rfl) (En.boxA rfl) (fun b5 hb5 => ?_)
  refine JL.asg ?_
  refine JL.asg ?_
  refine JL.nil ?_
  refine JQ.thenN ?_
  refine JC.seq ?_
  refine JC.seq ?_
  refine JC.region ?_
  refine JL.val rfl rfl rfl (.none rfl) (Ev.lB Tryd.underlying30 Tryd.sizeOf30) ?_
  refine JL.callV rfl (.none rfl) rfl Tryd.call56 (fun w1 hw1 => valid_any x w1) ?_
  refine JL.val rfl rfl rfl (.none rfl) (Ev.not rfl) ?_
  refine JL.mv ?_
  refine JL.split (d := 17) rfl (fun hgA => ?_) (fun hgA => ?_)
  · -- guard 17 true
    have hbad : badI h x.e i := .inl (by simpa using hgA)
    refine JL.skip rfl rfl (.noF rfl rfl rfl) ?_
    refine JL.skip rfl rfl (.noF rfl rfl rfl) ?_
    refine JL.skip rfl rfl (.noF rfl rfl rfl) ?_
    refine JL.skip rfl rfl (.noF rfl rfl rfl) ?_
    refine JL.val rfl rfl rfl (.none rfl) (Ev.pickT rfl rfl) ?_
    refine JL.mv ?_
    refine JL.skip rfl rfl (.noF rfl rfl rfl) ?_
    refine JL.skip rfl rfl (.noF rfl rfl rfl) ?_
    refine JL.val rfl rfl rfl (.none rfl) (Ev.pickT rfl rfl) ?_
    refine JL.mv ?_
    refine JL.skip rfl rfl (.noF rfl rfl rfl) ?_
    refine JL.skip rfl rfl (.noF rfl rfl rfl) ?_
    refine JL.skip rfl rfl (.noF rfl rfl rfl) ?_
    refine JL.skip rfl rfl (.noF rfl rfl rfl) ?_
    refine JL.val rfl rfl rfl (.none rfl) (Ev.pickT rfl rfl) ?_
    refine JL.nil ?_
    refine JQ.thenN ?_
    refine JC.condT rfl ?_
    refine JC.seq ?_
    refine JC.region ?_
    refine JL.asg ?_
    refine JL.asg ?_
    refine JL.nil ?_
    refine JQ.thenN ?_
    refine JC.ret ?_
    refine JQ.thenR ?_
    refine JQ.end2 (H' := []) (.inl rfl) rfl (.tmp rfl) (.tmp rfl) ?_ ?_
    · exact Sub.k
    · first | (rw [inV_bad hbad, inE_bad hbad]; done) | (rw [inV_e hok he, inE_ok hok]; done) | (rw [inV_o hok he, inE_ok hok]; done)
  · -- guard 17 false
    have hv : okE x.e = true := by simpa using hgA
    have hl := okE_len hv
    refine JL.val rfl rfl rfl (.yes rfl rfl rfl) (Ev.fld 0 rfl (fun _ _ => by kernel_rfl)) ?_
    refine JL.val rfl rfl rfl (.yes rfl rfl rfl) (Ev.load1 rfl Tryd.underlying3 rfl (Rd.own memK (Hd.get0 h))) ?_
    refine JL.callV rfl (.yes rfl rfl rfl) rfl Tryd.call62 (fun w1 hw1 => sized_any h.n 1024 w1) ?_
    refine JL.val rfl rfl rfl (.yes rfl rfl rfl) (Ev.not rfl) ?_
    refine JL.val rfl rfl rfl (.none rfl) (Ev.pickF rfl rfl) ?_
    refine JL.mv ?_
    refine JL.split (d := 23) rfl (fun hgB => ?_) (fun hgB => ?_)
    · -- guard 23 true
      have hbad : badI h x.e i := .inr (by simp at hgB; unfold badT; omega)
      refine JL.skip rfl rfl (.noF rfl rfl rfl) ?_
      refine JL.skip rfl rfl (.noF rfl rfl rfl) ?_
      refine JL.val rfl rfl rfl (.none rfl) (Ev.pickT rfl rfl) ?_
      refine JL.mv ?_
      refine JL.skip rfl rfl (.noF rfl rfl rfl) ?_
      refine JL.skip rfl rfl (.noF rfl rfl rfl) ?_
      refine JL.skip rfl rfl (.noF rfl rfl rfl) ?_
      refine JL.skip rfl rfl (.noF rfl rfl rfl) ?_
      refine JL.val rfl rfl rfl (.none rfl) (Ev.pickT rfl rfl) ?_
      refine JL.nil ?_
      refine JQ.thenN ?_
      refine JC.condT rfl ?_
      refine JC.seq ?_
      refine JC.region ?_
      refine JL.asg ?_
      refine JL.asg ?_
      refine JL.nil ?_
      refine JQ.thenN ?_
      refine JC.ret ?_
      refine JQ.thenR ?_
      refine JQ.end2 (H' := []) (.inl rfl) rfl (.tmp rfl) (.tmp rfl) ?_ ?_
      · exact Sub.k
      · first | (rw [inV_bad hbad, inE_bad hbad]; done) | (rw [inV_e hok he, inE_ok hok]; done) | (rw [inV_o hok he, inE_ok hok]; done)
    · -- guard 23 false
      have hs : 1 ≤ h.n ∧ h.n ≤ 1024 := by simpa using hgB
      refine JL.val rfl rfl rfl (.yes rfl rfl rfl) (Ev.move rfl) ?_
      refine JL.val rfl rfl rfl (.yes rfl rfl rfl) (Ev.bin rfl rfl lss_int) ?_
      refine JL.val rfl rfl rfl (.none rfl) (Ev.pickF rfl rfl) ?_
      refine JL.mv ?_
      refine JL.split (d := 27) rfl (fun hgC => ?_) (fun hgC => ?_)
      · -- guard 27 true
        have hbad : badI h x.e i := .inr (by simp at hgC; unfold badT; omega)
        refine JL.skip rfl rfl (.noF rfl rfl rfl) ?_
        refine JL.skip rfl rfl (.noF rfl rfl rfl) ?_
        refine JL.skip rfl rfl (.noF rfl rfl rfl) ?_
        refine JL.skip rfl rfl (.noF rfl rfl rfl) ?_
        refine JL.val rfl rfl rfl (.none rfl) (Ev.pickT rfl rfl) ?_
        refine JL.nil ?_
        refine JQ.thenN ?_
        refine JC.condT rfl ?_
        refine JC.seq ?_
        refine JC.region ?_
        refine JL.asg ?_
        refine JL.asg ?_
        refine JL.nil ?_
        refine JQ.thenN ?_
        refine JC.ret ?_
        refine JQ.thenR ?_
        refine JQ.end2 (H' := []) (.inl rfl) rfl (.tmp rfl) (.tmp rfl) ?_ ?_
        · exact Sub.k
        · first | (rw [inV_bad hbad, inE_bad hbad]; done) | (rw [inV_e hok he, inE_ok hok]; done) | (rw [inV_o hok he, inE_ok hok]; done)
      · -- guard 27 false
        have hi0 : ¬ i < 0 := of_decide_eq_false hgC
        refine JL.val rfl rfl rfl (.yes rfl rfl rfl) (Ev.move rfl) ?_
        refine JL.val rfl rfl rfl (.yes rfl rfl rfl) (Ev.fld 0 rfl (fun _ _ => by kernel_rfl)) ?_
        refine JL.val rfl rfl rfl (.yes rfl rfl rfl) (Ev.load1 rfl Tryd.underlying3 rfl (Rd.own memK (Hd.get0 h))) ?_
        refine JL.val rfl rfl rfl (.yes rfl rfl rfl) (Ev.bin rfl rfl geq_int) ?_
        refine JL.val rfl rfl rfl (.none rfl) (Ev.pickF rfl rfl) ?_
        refine JL.nil ?_
        refine JQ.thenN ?_
        refine JC.cond rfl (fun hc1 => ?_) (fun hc1 => ?_)
        · -- t32 True
          replace hc1 := of_decide_eq_true hc1
          have hbad : badI h x.e i := .inr (by unfold badT; omega)
          refine JC.seq ?_
          refine JC.region ?_
          refine JL.asg ?_
          refine JL.asg ?_
          refine JL.nil ?_
          refine JQ.thenN ?_
          refine JC.ret ?_
          refine JQ.thenR ?_
          refine JQ.end2 (H' := []) (.inl rfl) rfl (.tmp rfl) (.tmp rfl) ?_ ?_
          · exact Sub.k
          · first | (rw [inV_bad hbad, inE_bad hbad]; done) | (rw [inV_e hok he, inE_ok hok]; done) | (rw [inV_o hok he, inE_ok hok]; done)
        · -- t32 False
          replace hc1 := of_decide_eq_false hc1
          have hok : ¬ badI h x.e i := fun hb => hb.elim (fun hb => by rw [hv] at hb; cases hb) (fun hb => by unfold badT at hb; omega)
          refine JC.skip ?_
          refine JQ.thenN ?_
          refine JC.seq ?_
          refine JC.region ?_
          refine JL.val rfl rfl rfl (.none rfl) (Ev.lB Tryd.underlying30 Tryd.sizeOf30) ?_
          refine JL.callV rfl (.none rfl) rfl Tryd.call61 (fun w1 hw1 => ileaf_any x w1 (hx.old hw1) hl (hk.old hw1) (hf.old hw1)) ?_
          refine JL.mv ?_
          refine JL.val rfl rfl rfl (.none rfl) (Ev.ex0 rfl) ?_
          refine JL.val rfl rfl rfl (.none rfl) (Ev.ex1 rfl) ?_
          refine JL.new rfl rfl rfl (.none rfl) (En.allocZ (cs := arr8 (List.replicate 32 0)) Tryd.zeroValue33 rfl) (fun b10 hb10 => ?_)
          refine JL.sto rfl rfl (.none rfl) (Es.sA Tryd.sizeOf33) ?_
          refine JL.asg ?_
          refine JL.nil ?_
          refine JQ.thenN ?_
          refine JC.seq ?_
          refine JC.region ?_
          refine JL.val rfl rfl rfl (.none rfl) (Ev.lB Tryd.underlying33 Tryd.sizeOf33) ?_
          refine JL.mv ?_
          refine JL.val rfl rfl rfl (.none rfl) (Ev.fld 0 rfl (fun _ _ => by kernel_rfl)) ?_
          refine JL.val rfl rfl rfl (.none rfl) (Ev.load1 rfl Tryd.underlying3 rfl (Rd.own memK (Hd.get0 h))) ?_
          refine JL.mv ?_
          refine JL.callV rfl (.none rfl) rfl Tryd.call63 (fun w1 hw1 => Follow_any (leafE x.e) i h.n (by omega) (by omega) oa cap ds w1 (hd.old hw1) (hk.old hw1) (hf.old hw1)) ?_
          refine JL.mv ?_
          refine JL.val rfl rfl rfl (.none rfl) (Ev.ex0 rfl) ?_
          refine JL.val rfl rfl rfl (.none rfl) (Ev.ex1 rfl) ?_
          refine JL.new rfl rfl rfl (.none rfl) (En.allocZ (cs := arr8 (List.replicate 32 0)) Tryd.zeroValue33 rfl) (fun b12 hb12 => ?_)
          refine JL.sto rfl rfl (.none rfl) (Es.sA Tryd.sizeOf33) ?_
          refine JL.asg ?_
          refine JL.nil ?_
          refine JQ.thenN ?_
          refine JC.seq ?_
          refine JC.region ?_
          refine JL.mv ?_
          refine JL.val rfl rfl rfl (.none rfl) (Ev.bin rfl rfl eql_int) ?_
          refine JL.mv ?_
          refine JL.split (d := 49) rfl (fun hgE => ?_) (fun hgE => ?_)
          · -- guard 49 true
            have he := of_decide_eq_true hgE
            refine JL.val rfl rfl rfl (.yes rfl rfl rfl) (Ev.lB Tryd.underlying33 Tryd.sizeOf33) ?_
            refine JL.val rfl rfl rfl (.yes rfl rfl rfl) (Ev.fld 1 rfl (fun _ _ => by kernel_rfl)) ?_
            refine JL.val rfl rfl rfl (.yes rfl rfl rfl) (Ev.loadA (l := h.root.1.map u8) rfl Tryd.underlying33 rfl Tryd.sizeOf33 (Hd.rds (h := h) memK) (by rw [List.length_map]; exact h.root.2)) ?_
            refine JL.val rfl rfl rfl (.yes rfl rfl rfl) (Ev.bin rfl rfl (eql_arr8 (n := 32) Tryd.underlying33 Tryd.underlying5 (by kernel_rfl) (by kernel_rfl) (by first | rfl | exact dig_len _ | assumption | exact sha_length _ | exact shaO_length _) (by first | rfl | exact dig_len _ | assumption | exact sha_length _ | exact shaO_length _))) ?_
            refine JL.val rfl rfl rfl (.none rfl) (Ev.pickT rfl rfl) ?_
            refine JL.asg ?_
            refine JL.asg ?_
            refine JL.nil ?_
            refine JQ.thenN ?_
            refine JC.ret ?_
            refine JQ.end2 (H' := []) (.inl rfl) rfl (.tmp rfl) (.tmp rfl) ?_ ?_
            · exact Sub.k
            · first | (rw [inV_bad hbad, inE_bad hbad]; done) | (rw [inV_e hok he, inE_ok hok]; done) | (rw [inV_o hok he, inE_ok hok]; done)
          · -- guard 49 false
            have he := of_decide_eq_false hgE
            refine JL.skip rfl rfl (.noT rfl rfl rfl) ?_
            refine JL.skip rfl rfl (.noT rfl rfl rfl) ?_
            refine JL.skip rfl rfl (.noT rfl rfl rfl) ?_
            refine JL.skip rfl rfl (.noT rfl rfl rfl) ?_
            refine JL.val rfl rfl rfl (.none rfl) (Ev.pickF rfl rfl) ?_
            refine JL.asg ?_
            refine JL.asg ?_
            refine JL.nil ?_
            refine JQ.thenN ?_
            refine JC.ret ?_
            refine JQ.end2 (H' := []) (.inl rfl) rfl (.tmp rfl) (.tmp rfl) ?_ ?_
            · exact Sub.k
            · first | (rw [inV_bad hbad, inE_bad hbad]; done) | (rw [inV_e hok he, inE_ok hok]; done) | (rw [inV_o hok he, inE_ok hok]; done)

theorem bExtends_any (h g : Hd) (oa : Option Addr) (cap : Nat) (ds : List Dig) (w : World) (hd : Dl w oa cap ds) (hk : KMem 1 w) (hf : FMem 0 w) :
    Calls Tryd.prog 20 #[.agg h.cl.toArray, .agg g.cl.toArray, .slice oa ds.length cap] w (Ret w (fun v _ => v = .tuple #[.bool (vcV h.root g.root h.n g.n ds), .int .i64 (vcE h.n g.n ds)])) := by
  refine enter (vs := [.agg h.cl.toArray, .agg g.cl.toArray, .slice oa ds.length cap]) Tryd.func20 rfl Tryd.ntmps20 rfl ?_
  refine JC.seq ?_
  refine JC.region ?_
  refine JL.new rfl rfl rfl (.none rfl) (En.boxA rfl) (fun b3 hb3 => ?_)
  refine JL.new rfl rfl rfl (.none rfl) (En.boxA rfl) (fun b4 hb4 => ?_)
  refine JL.asg ?_
  refine JL.asg ?_
  refine JL.nil ?_
  refine JQ.thenN ?_
  refine JC.seq ?_
  refine JC.seq ?_
  refine JC.region ?_
  refine JL.val rfl rfl rfl (.none rfl) (Ev.fld 0 rfl (fun _ _ => by kernel_rfl)) ?_
  refine JL.val rfl rfl rfl (.none rfl) (Ev.load1 rfl Tryd.underlying3 rfl (Rd.own memK (Hd.get0 g))) ?_
  refine JL.callV rfl (.none rfl) rfl Tryd.call62 (fun w1 hw1 => sized_any g.n 1024 w1) ?_
  refine JL.val rfl rfl rfl (.none rfl) (Ev.not rfl) ?_
  refine JL.mv ?_
  refine JL.split (d := 12) rfl (fun hgA => ?_) (fun hgA => ?_)
  · -- guard 12 true
    have hbad : badC h.n g.n := by simp at hgA; unfold badC; omega
    refine JL.skip rfl rfl (.noF rfl rfl rfl) ?_
    refine JL.skip rfl rfl (.noF rfl rfl rfl) ?_
    refine JL.skip rfl rfl (.noF rfl rfl rfl) ?_
    refine JL.skip rfl rfl (.noF rfl rfl rfl) ?_
    refine JL.skip rfl rfl (.noF rfl rfl rfl) ?_
    refine JL.skip rfl rfl (.noF rfl rfl rfl) ?_
    refine JL.val rfl rfl rfl (.none rfl) (Ev.pickT rfl rfl) ?_
    refine JL.nil ?_
    refine JQ.thenN ?_
    refine JC.condT rfl ?_
    refine JC.seq ?_
    refine JC.region ?_
    refine JL.asg ?_
    refine JL.asg ?_
    refine JL.nil ?_
    refine JQ.thenN ?_
    refine JC.ret ?_
    refine JQ.thenR ?_
    refine JQ.end2 (H' := []) (.inl rfl) rfl (.tmp rfl) (.tmp rfl) ?_ ?_
    · exact Sub.k
    · first | (rw [vcV_bad (fcE_bad hbad), vcE_bad (fcE_bad hbad)]; done) | rfl
  · -- guard 12 false
    have hs : 1 ≤ g.n ∧ g.n ≤ 1024 := by simpa using hgA
    refine JL.val rfl rfl rfl (.yes rfl rfl rfl) (Ev.fld 0 rfl (fun _ _ => by kernel_rfl)) ?_
    refine JL.val rfl rfl rfl (.yes rfl rfl rfl) (Ev.load1 rfl Tryd.underlying3 rfl (Rd.own memK (Hd.get0 h))) ?_
    refine JL.val rfl rfl rfl (.yes rfl rfl rfl) (Ev.fld 0 rfl (fun _ _ => by kernel_rfl)) ?_
    refine JL.val rfl rfl rfl (.yes rfl rfl rfl) (Ev.load1 rfl Tryd.underlying3 rfl (Rd.own memK (Hd.get0 g))) ?_
    refine JL.callV rfl (.yes rfl rfl rfl) rfl Tryd.call62 (fun w1 hw1 => sized_any h.n g.n w1) ?_
    refine JL.val rfl rfl rfl (.yes rfl rfl rfl) (Ev.not rfl) ?_
    refine JL.val rfl rfl rfl (.none rfl) (Ev.pickF rfl rfl) ?_
    refine JL.nil ?_
    refine JQ.thenN ?_
    refine JC.cond rfl (fun hc => ?_) (fun hc => ?_)
    · -- t19 True
      have hbad : badC h.n g.n := by simp at hc; unfold badC; omega
      refine JC.seq ?_
      refine JC.region ?_
      refine JL.asg ?_
      refine JL.asg ?_
      refine JL.nil ?_
      refine JQ.thenN ?_
      refine JC.ret ?_
      refine JQ.thenR ?_
      refine JQ.end2 (H' := []) (.inl rfl) rfl (.tmp rfl) (.tmp rfl) ?_ ?_
      · exact Sub.k
      · first | (rw [vcV_bad (fcE_bad hbad), vcE_bad (fcE_bad hbad)]; done) | rfl
    · -- t19 False
      have hs2 : 1 ≤ h.n ∧ h.n ≤ g.n := by simpa using hc
      refine JC.skip ?_
      refine JQ.thenN ?_
      refine JC.seq ?_
      refine JC.region ?_
      refine JL.val rfl rfl rfl (.none rfl) (Ev.fld 0 rfl (fun _ _ => by kernel_rfl)) ?_
      refine JL.val rfl rfl rfl (.none rfl) (Ev.load1 rfl Tryd.underlying3 rfl (Rd.own memK (Hd.get0 h))) ?_
      refine JL.val rfl rfl rfl (.none rfl) (Ev.fld 0 rfl (fun _ _ => by kernel_rfl)) ?_
      refine JL.val rfl rfl rfl (.none rfl) (Ev.load1 rfl Tryd.underlying3 rfl (Rd.own memK (Hd.get0 g))) ?_
      refine JL.val rfl rfl rfl (.none rfl) (Ev.fld 1 rfl (fun _ _ => by kernel_rfl)) ?_
      refine JL.val rfl rfl rfl (.none rfl) (Ev.loadA (l := h.root.1.map u8) rfl Tryd.underlying33 rfl Tryd.sizeOf33 (Hd.rds (h := h) memK) (by rw [List.length_map]; exact h.root.2)) ?_
      refine JL.val rfl rfl rfl (.none rfl) (Ev.fld 1 rfl (fun _ _ => by kernel_rfl)) ?_
      refine JL.val rfl rfl rfl (.none rfl) (Ev.loadA (l := g.root.1.map u8) rfl Tryd.underlying33 rfl Tryd.sizeOf33 (Hd.rds (h := g) memK) (by rw [List.length_map]; exact g.root.2)) ?_
      refine JL.mv ?_
      refine JL.callV rfl (.none rfl) rfl Tryd.call64 (fun w1 hw1 => cVerify_any h.root g.root h.n g.n (by omega) (by omega) oa cap ds w1 (hd.old hw1) (hk.old hw1) (hf.old hw1)) ?_
      refine JL.val rfl rfl rfl (.none rfl) (Ev.ex0 rfl) ?_
      refine JL.val rfl rfl rfl (.none rfl) (Ev.ex1 rfl) ?_
      refine JL.asg ?_
      refine JL.asg ?_
      refine JL.nil ?_
      refine JQ.thenN ?_
      refine JC.ret ?_
      refine JQ.end2 (H' := []) (.inl rfl) rfl (.tmp rfl) (.tmp rfl) ?_ ?_
      · exact Sub.k
      · first | (rw [vcV_bad (fcE_bad hbad), vcE_bad (fcE_bad hbad)]; done) | rfl

end Go.Proofs.YtopaednfjjjnbaaDoor
