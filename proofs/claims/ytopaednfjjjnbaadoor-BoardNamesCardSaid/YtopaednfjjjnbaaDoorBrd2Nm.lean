/-
  Boards compared; their leaves and roots; in the program and in the reference.
-/
import Derived.Test.YtopaednfjjjnbaaDoorBrd1Nm
import Derived.Test.YtopaednfjjjnbaaDoorPackBNm
namespace Go.Proofs.YtopaednfjjjnbaaDoor
open Go Go.RowKit
set_option maxRecDepth 100000

theorem Et.one (x : Et) : ∀ u ∈ x.cl.toArray.toList, u.oneCell' = true := by
  intro u hu
  simp only [Et.cl, List.mem_cons, List.not_mem_nil, or_false] at hu
  rcases hu with rfl | rfl <;> rfl
theorem leaves_len (xs : List Et) : (leavesE (xs.map Et.e)).length = xs.length := by rw [leavesE, List.length_map, List.length_map]
theorem leaves_take {xs : List Et} {i : Nat} {x : Et} (h : xs[i]? = some x) : (leavesE (xs.map Et.e)).take i ++ [leafE x.e] = (leavesE (xs.map Et.e)).take (i + 1) := by
  rw [List.take_add_one, leavesE, List.getElem?_map, List.getElem?_map, h]
  rfl
theorem okB_len {xs : List Et} (h : okB (xs.map Et.e)) : xs.length ≤ 1024 := by have := h.1; rwa [List.length_map] at this
theorem okB_sz {xs : List Et} (h : okB (xs.map Et.e)) : ∀ x ∈ xs, x.l.length ≤ 8000 := fun x hx => okE_len (okB_all h x hx)
def brV (xs : List Ent) : Dig := if okB xs then rootR (leavesE xs) else zeroD
theorem brV_ok {xs : List Ent} (h : okB xs) : brV xs = rootR (leavesE xs) := if_pos h
theorem brV_bad {xs : List Ent} (h : ¬ okB xs) : brV xs = zeroD := if_neg h
def lsV (xs : List Ent) : List Dig := if okB xs then leavesE xs else []
theorem lsV_ok {xs : List Ent} (h : okB xs) : lsV xs = leavesE xs := if_pos h
theorem lsV_bad {xs : List Ent} (h : ¬ okB xs) : lsV xs = [] := if_neg h
theorem bleaves_any (oa : Option Addr) (cap : Nat) (xs : List Et) (w : World) (hb : Bd w oa cap xs) (hk : KMem 1 w) (hf : FMem 0 w) :
    Calls Tryd.prog 58 #[.agg #[.slice oa xs.length cap]] w (Ret w (fun v H => ∃ r : Option Row, v = .tuple #[Row.v ((lsV (xs.map Et.e))).length r, .int .i64 (ckE (xs.map Et.e))] ∧ H = Row.b 33 r ∧ Row.ok 32 ((lsV (xs.map Et.e))).length (fl ((lsV (xs.map Et.e)))) r)) := by
  refine enter (vs := [.agg #[.slice oa xs.length cap]]) Tryd.func58 rfl Tryd.ntmps58 rfl ?_
  refine JC.seq ?_
  refine JC.region ?_
  refine JL.new rfl rfl rfl (.none rfl) (En.boxA rfl) (fun b1 hb1 => ?_)
  refine JL.asg ?_
  refine JL.asg ?_
  refine JL.nil ?_
  refine JQ.thenN ?_
  refine JC.seq ?_
  refine JC.seq ?_
  refine JC.region ?_
  refine JL.val rfl rfl rfl (.none rfl) (Ev.lB Tryd.underlying24 Tryd.sizeOf24) ?_
  refine JL.callV rfl (.none rfl) rfl Tryd.call25 (fun w1 hw1 => bCheck_any oa cap xs w1 (hb.old hw1)) ?_
  refine JL.asg ?_
  refine JL.nil ?_
  refine JQ.thenN ?_
  refine JC.seq ?_
  refine JC.region ?_
  refine JL.mv ?_
  refine JL.val rfl rfl rfl (.none rfl) (Ev.bin rfl rfl neq_int) ?_
  refine JL.nil ?_
  refine JQ.thenN ?_
  refine JC.cond rfl (fun hc => ?_) (fun hc => ?_)
  · -- t14 True
    have hbad : ¬ okB (xs.map Et.e) := fun h => by rw [ckE_ok h] at hc; simp at hc
    refine JC.seq ?_
    refine JC.region ?_
    refine JL.mv ?_
    refine JL.asg ?_
    refine JL.asg ?_
    refine JL.nil ?_
    refine JQ.thenN ?_
    refine JC.ret ?_
    refine JQ.thenR ?_
    refine JQ.end2 (H' := []) (.inl rfl) rfl (.tmp rfl) (.tmp rfl) ?_ ?_
    · first | exact Sub.all | exact Sub.nil | exact Sub.of_cnt (fun a => by (try dsimp only); simp only [cntA]; omega)
    · exact ⟨none, by rw [lsV_bad hbad]; rfl, rfl, by rw [lsV_bad hbad]; exact Row.ok0⟩
  · -- t14 False
    have hok : okB (xs.map Et.e) := Classical.byContradiction fun h => by rw [ckE_bad h] at hc; simp at hc
    have hlen := okB_len hok
    have hsz := okB_sz hok
    refine JC.skip ?_
    refine JQ.thenN ?_
    refine JC.seq ?_
    refine JC.region ?_
    refine JL.asg ?_
    refine JL.nil ?_
    refine JQ.thenN ?_
    refine JC.seq ?_
    refine JC.seq ?_
    refine JC.region ?_
    refine JL.val rfl rfl rfl (.none rfl) (Ev.fld 0 rfl (fun _ _ => by kernel_rfl)) ?_
    refine JL.val rfl rfl rfl (.none rfl) (Ev.load1 rfl Tryd.underlying22 rfl (Rd.own memK rfl)) ?_
    refine JL.val rfl rfl rfl (.none rfl) (Ev.lenS rfl Tryd.underlying22) ?_
    refine JL.mv ?_
    refine JL.nil ?_
    refine JQ.thenN ?_
    refine JC.block ?_
    refine JC.loop (X := Nat × List Dig × Option Row)
      (fun ⟨i, out, r⟩ => [(5, Row.v out.length r), (17, .slice oa xs.length cap), (18, .int .i64 (xs.length : Int)), (19, .int .i64 (i : Int))])
      (fun ⟨i, out, r⟩ => Row.b 33 r)
      (fun ⟨i, out, r⟩ => i ≤ xs.length ∧ out = (leavesE (xs.map Et.e)).take i ∧ out.length = i ∧ Row.ok 32 out.length (fl out) r)
      (fun ⟨i, out, r⟩ => xs.length - i) (0, [], none) ?_ ?_ ?_ ?_
    · exact Keeps.k
    · exact Sub.nil
    · exact ⟨Nat.zero_le _, rfl, rfl, Row.ok0⟩
    rintro ⟨i, out, r⟩ ⟨hi, ho, hol, hr⟩
    refine JC.seq ?_
    refine JC.region ?_
    refine JL.val rfl rfl rfl (.none rfl) (Ev.bin rfl rfl lss_int) ?_
    refine JL.nil ?_
    refine JQ.thenN ?_
    refine JC.seq ?_
    refine JC.cond rfl (fun hc1 => ?_) (fun hc1 => ?_)
    · -- t20 True
      replace hc1 := of_decide_eq_true hc1
      refine JC.skip ?_
      refine JQ.thenN ?_
      refine JC.seq ?_
      refine JC.block ?_
      refine JC.seq ?_
      refine JC.region ?_
      obtain ⟨a, rfl⟩ := hb.get_some (by omega)
      obtain ⟨x, hx⟩ := get_some (l := xs) (k := i) (by omega)
      refine JL.val rfl rfl rfl (.none rfl) (Ev.idxS rfl rfl Tryd.underlying22 Tryd.sizeOf30 (k := i) rfl (by omega)) ?_
      refine JL.val rfl rfl rfl (.none rfl) (Ev.loadA (l := x.cl) rfl Tryd.underlying30 rfl Tryd.sizeOf30 (Rds.old (hb.at hx)) rfl) ?_
      refine JL.new rfl rfl rfl (.none rfl) (En.allocZ (cs := #[u8 0, .slice none 0 0]) Tryd.zeroValue30 rfl) (fun b7 hb7 => ?_)
      refine JL.sto rfl rfl (.none rfl) (Es.storeA rfl rfl Tryd.sizeOf30 Upd.k szK szK (Et.one x)) ?_
      refine JL.nil ?_
      refine JQ.thenN ?_
      refine JC.seq ?_
      refine JC.region ?_
      refine JL.val rfl rfl rfl (.none rfl) (Ev.lB Tryd.underlying30 Tryd.sizeOf30) ?_
      refine JL.val rfl rfl rfl (.none rfl) (Ev.makeFuncP (xs := [.tmp 23]) (ys := []) rfl rfl) ?_
      refine JL.asg ?_
      refine JL.nil ?_
      refine JQ.thenN ?_
      refine JC.seq ?_
      refine JC.region ?_
      refine JL.mv ?_
      refine JL.callCloV rfl (.none rfl) rfl rfl Tryd.call61 (fun w1 hw1 => ileaf_any x w1 ((hb.bs hx).old hw1) (hsz x (List.mem_of_getElem? hx)) (hk.old hw1) (hf.old hw1)) ?_
      refine JL.mv ?_
      refine JL.val rfl rfl rfl (.none rfl) (Ev.ex0 rfl) ?_
      refine JL.val rfl rfl rfl (.none rfl) (Ev.ex1 rfl) ?_
      refine JL.new rfl rfl rfl (.none rfl) (En.allocZ (cs := arr8 (List.replicate 32 0)) Tryd.zeroValue33 rfl) (fun b9 hb9 => ?_)
      refine JL.sto rfl rfl (.none rfl) (Es.sA Tryd.sizeOf33) ?_
      refine JL.asg ?_
      refine JL.nil ?_
      refine JQ.thenN ?_
      refine JC.seq ?_
      refine JC.seq ?_
      refine JC.region ?_
      refine JL.mv ?_
      refine JL.val rfl rfl rfl (.none rfl) (Ev.bin rfl rfl neq_int) ?_
      refine JL.nil ?_
      refine JQ.thenN ?_
      refine JC.knowF rfl ?_ ?_
      · exact decide_eq_false (by simp)
      refine JC.skip ?_
      refine JQ.thenN ?_
      refine JC.region ?_
      refine JL.mv ?_
      refine JL.val rfl rfl rfl (.none rfl) (Ev.lB Tryd.underlying33 Tryd.sizeOf33) ?_
      refine JL.new rfl rfl rfl (.none rfl) (En.bs1D (e := 33) rfl Tryd.underlying39 Tryd.sizeOf33 Tryd.zeroValue33) (fun b35 hb35 => ?_)
      refine JL.gen rfl rfl rfl (.none rfl) (Eg.append1 (r := r) (n := out.length) (xs := fl out) (news := fl [leafE x.e]) (z := (.agg (arr8 (List.replicate 32 0)))) (s := 32) (bytes := 32) rfl rfl rfl Cut.k Tryd.underlying39 (by kernel_rfl) rfl (by decide) (by decide) hr (Rds.all memK) (fl_length _) (by decide) (fl_one _) (by omega)) ?_
      rintro _ _ ⟨rn, rfl, rfl, hrn⟩
      refine JL.asg ?_
      refine JL.nil ?_
      refine JQ.blockN ?_
      refine JQ.thenN ?_
      refine JC.region ?_
      refine JL.val rfl rfl rfl (.none rfl) (Ev.bin rfl rfl (add_i64 (by omega))) ?_
      refine JL.mv ?_
      refine JL.nil ?_
      refine JQ.loopN (i + 1, out ++ [leafE x.e], some rn) ?_ ?_ ?_ ?_
      · (dsimp only; rw [List.length_append, List.length_singleton]; exact Keeps.k)
      · exact Sub.of_cnt (fun a => by (try dsimp only); simp only [cntA]; omega)
      · exact ⟨by omega, by rw [ho]; exact leaves_take hx, by rw [List.length_append]; simp; omega, by rw [List.length_append, fl_append]; exact hrn⟩
      · show xs.length - (i + 1) < xs.length - i; omega
    · -- t20 False
      replace hc1 := of_decide_eq_false hc1
      obtain rfl : i = xs.length := by omega
      refine JC.exit ?_
      refine JQ.thenE ?_
      refine JQ.thenE ?_
      refine JQ.blockE ?_
      refine JQ.thenN ?_
      refine JC.seq ?_
      refine JC.region ?_
      refine JL.mv ?_
      refine JL.asg ?_
      refine JL.asg ?_
      refine JL.nil ?_
      refine JQ.thenN ?_
      refine JC.ret ?_
      refine JQ.end2 (H' := (Row.b 33 r)) (.inl rfl) rfl (.tmp rfl) (.tmp rfl) ?_ ?_
      · first | exact Sub.all | exact Sub.nil | exact Sub.of_cnt (fun a => by (try dsimp only); simp only [cntA]; omega)
      · rw [List.take_of_length_le (by rw [leavesE, List.length_map, List.length_map]; exact Nat.le_refl _)] at ho; subst ho; exact ⟨r, by rw [lsV_ok hok, ckE_ok hok], rfl, by rw [lsV_ok hok]; exact hr⟩

theorem bRoot_any (oa : Option Addr) (cap : Nat) (xs : List Et) (w : World) (hb : Bd w oa cap xs) (hk : KMem 1 w) (hf : FMem 0 w) :
    Calls Tryd.prog 34 #[.agg #[.slice oa xs.length cap]] w (Ret w (fun v _ => v = .tuple #[.agg (arr8 (brV (xs.map Et.e)).1), .int .i64 (ckE (xs.map Et.e))])) := by
  refine enter (vs := [.agg #[.slice oa xs.length cap]]) Tryd.func34 rfl Tryd.ntmps34 rfl ?_
  refine JC.seq ?_
  refine JC.region ?_
  refine JL.new rfl rfl rfl (.none rfl) (En.boxA rfl) (fun b1 hb1 => ?_)
  refine JL.new rfl rfl rfl (.none rfl) (En.allocZ (cs := arr8 (List.replicate 32 0)) Tryd.zeroValue33 rfl) (fun b2 hb2 => ?_)
  refine JL.asg ?_
  refine JL.nil ?_
  refine JQ.thenN ?_
  refine JC.seq ?_
  refine JC.region ?_
  refine JL.val rfl rfl rfl (.none rfl) (Ev.lB Tryd.underlying24 Tryd.sizeOf24) ?_
  refine JL.callN rfl (.none rfl) rfl Tryd.call58 (fun w1 hw1 => bleaves_any oa cap xs w1 (hb.old hw1) (hk.old hw1) (hf.old hw1)) ?_
  rintro _ _ ⟨r1, rfl, rfl, hr1⟩
  refine JL.mv ?_
  refine JL.val rfl rfl rfl (.none rfl) (Ev.ex0 rfl) ?_
  refine JL.val rfl rfl rfl (.none rfl) (Ev.ex1 rfl) ?_
  refine JL.asg ?_
  refine JL.asg ?_
  refine JL.nil ?_
  refine JQ.thenN ?_
  refine JC.seq ?_
  refine JC.seq ?_
  refine JC.region ?_
  refine JL.mv ?_
  refine JL.val rfl rfl rfl (.none rfl) (Ev.bin rfl rfl neq_int) ?_
  refine JL.nil ?_
  refine JQ.thenN ?_
  refine JC.cond rfl (fun hc => ?_) (fun hc => ?_)
  · -- t12 True
    have hbad : ¬ okB (xs.map Et.e) := fun h => by rw [ckE_ok h] at hc; simp at hc
    refine JC.seq ?_
    refine JC.region ?_
    refine JL.val rfl rfl rfl (.none rfl) (Ev.bu0 Tryd.underlying33 Tryd.sizeOf5 Tryd.zeroValue33) ?_
    refine JL.mv ?_
    refine JL.sto rfl rfl (.none rfl) (Es.sA Tryd.sizeOf33) ?_
    refine JL.asg ?_
    refine JL.nil ?_
    refine JQ.thenN ?_
    refine JC.ret ?_
    refine JQ.thenR ?_
    refine JQ.end2 (H' := []) (.inl rfl) rfl (.agg rfl memK Tryd.underlying33 rfl Tryd.sizeOf33 szK) (.tmp rfl) ?_ ?_
    · exact Sub.k
    · rw [brV_bad hbad, ckE_bad hbad]; rfl
  · -- t12 False
    have hok : okB (xs.map Et.e) := Classical.byContradiction fun h => by rw [ckE_bad h] at hc; simp at hc
    have hlen := okB_len hok
    have hsz := okB_sz hok
    refine JC.skip ?_
    refine JQ.thenN ?_
    refine JC.seq ?_
    refine JC.region ?_
    obtain ⟨o1, c1, e1, _, hC1⟩ := Row.vw (e := 33) hr1
    refine JL.re (d := 4) rfl e1 ?_
    refine JL.mv ?_
    refine JL.callV rfl (.none rfl) rfl Tryd.call73 (fun w1 hw1 => Root_any o1 c1 (lsV (xs.map Et.e)) w1 (hC1 w1 hw1 (fun p hp => by simp [hp])) (by rw [lsV_ok hok, leaves_len]; omega) (hk.old hw1) (hf.old hw1)) ?_
    refine JL.val rfl rfl rfl (.none rfl) (Ev.ex0 rfl) ?_
    refine JL.val rfl rfl rfl (.none rfl) (Ev.ex1 rfl) ?_
    refine JL.sto rfl rfl (.none rfl) (Es.sA Tryd.sizeOf33) ?_
    refine JL.asg ?_
    refine JL.nil ?_
    refine JQ.thenN ?_
    refine JC.ret ?_
    refine JQ.end2 (H' := []) (.inl rfl) rfl (.agg rfl memK Tryd.underlying33 rfl Tryd.sizeOf33 szK) (.tmp rfl) ?_ ?_
    · exact Sub.k
    · rw [rootV_ok (by rw [lsV_ok hok, leaves_len]; omega), rootE_ok (by rw [lsV_ok hok, leaves_len]; omega), lsV_ok hok, brV_ok hok, ckE_ok hok]

end Go.Proofs.YtopaednfjjjnbaaDoor
