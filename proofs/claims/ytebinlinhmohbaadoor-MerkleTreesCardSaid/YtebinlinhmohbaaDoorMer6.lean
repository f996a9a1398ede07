/-
  Lists with the same root; a copy of a list; the two laws of these.
-/
import Derived.Test.YtebinlinhmohbaaDoorMer5
namespace Go.Proofs.YtebinlinhmohbaaDoor
open Go Go.RowKit
set_option maxRecDepth 100000

def clashR (a b c d : Dig) : Bool := (!decide (a.1 = c.1) || !decide (b.1 = d.1)) && decide ((nodeD a b).1 = (nodeD c d).1)
theorem clash_no {a b c d : Dig} (h : nodeD a b = nodeD c d) (hc : clashR a b c d = false) : a = c ∧ b = d := by
  unfold clashR at hc
  rw [h, decide_eq_true rfl, Bool.and_true] at hc
  simp only [Bool.or_eq_false_iff, Bool.not_eq_false', decide_eq_true_eq] at hc
  exact ⟨Subtype.ext hc.1, Subtype.ext hc.2⟩
theorem clash_yes {a b c d : Dig} (h : nodeD a b = nodeD c d) (hc : ¬ (a = c ∧ b = d)) : clashR a b c d = true := by
  cases h1 : clashR a b c d with
  | true => rfl
  | false => exact absurd (clash_no h h1) hc
theorem small_eq {l m : List Dig} (hlm : l.length = m.length) (hrt : rootR l = rootR m) (h : l.length < 2) : l = m := by
  match l, m, hlm, h with
  | [], [], _, _ => rfl
  | [a], [b], _, _ => rw [rootR_one, rootR_one] at hrt; rw [hrt]
  | _ :: _ :: _, _, _, h => simp only [List.length_cons] at h; omega

theorem lawTrees_any (oa : Option Addr) (cap : Nat) (ds : List Dig) (i : Int) (hib : -9223372036854775808 ≤ i ∧ i ≤ 9223372036854775807) (w : World) (hd : Dl w oa cap ds) (hmx : ds.length ≤ 4398046510976) (hk : KMem 1 w) (hf : FMem 0 w) :
    Calls Tryd.prog 4 #[.slice oa ds.length cap, .int .i64 i] w (Ret w (fun v _ => v = .bool true)) := by
  refine enter (vs := [.slice oa ds.length cap, .int .i64 i]) Tryd.func4 rfl Tryd.ntmps4 rfl ?_
  refine JC.seq ?_
  refine JC.region ?_
  refine JL.asg ?_
  refine JL.nil ?_
  refine JQ.thenN ?_
  refine JC.seq ?_
  refine JC.seq ?_
  refine JC.region ?_
  refine JL.mv ?_
  refine JL.callV rfl (.none rfl) rfl Tryd.call11 (fun w1 hw1 => great_any oa ds.length cap w1) ?_
  refine JL.mv ?_
  refine JL.split (d := 16) rfl (fun hgA => ?_) (fun hgA => ?_)
  · -- guard 16 true
    refine JL.val rfl rfl rfl (.yes rfl rfl rfl) (Ev.move rfl) ?_
    refine JL.val rfl rfl rfl (.yes rfl rfl rfl) (Ev.lenS rfl Tryd.underlying23) ?_
    refine JL.val rfl rfl rfl (.yes rfl rfl rfl) (Ev.bin rfl rfl leq_int) ?_
    refine JL.val rfl rfl rfl (.none rfl) (Ev.pickT rfl rfl) ?_
    refine JL.nil ?_
    refine JQ.thenN ?_
    refine JC.cond rfl (fun hc1 => ?_) (fun hc1 => ?_)
    · -- t20 True
      replace hc1 := of_decide_eq_true hc1
      refine JC.seq ?_
      refine JC.region ?_
      refine JL.asg ?_
      refine JL.nil ?_
      refine JQ.thenN ?_
      refine JC.ret ?_
      refine JQ.thenR ?_
      refine JQ.end1 (H' := []) (.inl rfl) rfl (.tmp rfl) ?_ ?_
      · exact Sub.k
      · first | rfl | exact congrArg Value.bool (decide_eq_true rfl)
    · -- t20 False
      replace hc1 := of_decide_eq_false hc1
      refine JC.skip ?_
      refine JQ.thenN ?_
      refine JC.seq ?_
      refine JC.region ?_
      refine JL.mv ?_
      refine JL.callN rfl (.none rfl) rfl Tryd.call16 (fun w1 hw1 => dTwin_any oa cap ds w1 (hd.old hw1) hmx) ?_
      rintro _ _ ⟨r2, rfl, rfl, hr2⟩
      refine JL.asg ?_
      refine JL.nil ?_
      refine JQ.thenN ?_
      refine JC.seq ?_
      refine JC.region ?_
      obtain ⟨o2, c2, e2, _, hC2⟩ := Row.vw (e := 22) hr2
      refine JL.re (d := 5) rfl e2 ?_
      refine JL.mv ?_
      refine JL.callV rfl (.none rfl) rfl Tryd.call17 (fun w1 hw1 => Root_any o2 c2 ds w1 (hC2 w1 hw1 (fun p hp => by simp [hp])) hmx (hk.old hw1) (hf.old hw1)) ?_
      refine JL.mv ?_
      refine JL.val rfl rfl rfl (.none rfl) (Ev.ex0 rfl) ?_
      refine JL.val rfl rfl rfl (.none rfl) (Ev.ex1 rfl) ?_
      refine JL.new rfl rfl rfl (.none rfl) (En.allocZ (cs := arr8 (List.replicate 32 0)) Tryd.zeroValue22 rfl) (fun b6 hb6 => ?_)
      refine JL.sto rfl rfl (.none rfl) (Es.sA Tryd.sizeOf22) ?_
      refine JL.asg ?_
      refine JL.nil ?_
      refine JQ.thenN ?_
      refine JC.seq ?_
      refine JC.region ?_
      refine JL.mv ?_
      refine JL.callV rfl (.none rfl) rfl Tryd.call18 (fun w1 hw1 => rRoot_any oa cap ds w1 (hd.old hw1) hmx) ?_
      refine JL.mv ?_
      refine JL.val rfl rfl rfl (.none rfl) (Ev.ex0 rfl) ?_
      refine JL.val rfl rfl rfl (.none rfl) (Ev.ex1 rfl) ?_
      refine JL.new rfl rfl rfl (.none rfl) (En.allocZ (cs := arr8 (List.replicate 32 0)) Tryd.zeroValue22 rfl) (fun b8 hb8 => ?_)
      refine JL.sto rfl rfl (.none rfl) (Es.sA Tryd.sizeOf22) ?_
      refine JL.asg ?_
      refine JL.nil ?_
      refine JQ.thenN ?_
      refine JC.seq ?_
      refine JC.region ?_
      refine JL.mv ?_
      refine JL.mv ?_
      refine JL.callN rfl (.none rfl) rfl Tryd.call19 (fun w1 hw1 => Path_any o2 c2 ds i hib w1 (hC2 w1 hw1 (fun p hp => by simp [hp])) hmx (hk.old hw1) (hf.old hw1)) ?_
      rintro _ _ ⟨r4, rfl, rfl, hr4⟩
      refine JL.mv ?_
      refine JL.val rfl rfl rfl (.none rfl) (Ev.ex0 rfl) ?_
      refine JL.val rfl rfl rfl (.none rfl) (Ev.ex1 rfl) ?_
      refine JL.asg ?_
      refine JL.asg ?_
      refine JL.nil ?_
      refine JQ.thenN ?_
      refine JC.seq ?_
      refine JC.region ?_
      refine JL.mv ?_
      refine JL.mv ?_
      refine JL.callN rfl (.none rfl) rfl Tryd.call20 (fun w1 hw1 => rPath_any oa cap ds i hib w1 (hd.old hw1) hmx) ?_
      rintro _ _ ⟨r5, rfl, rfl, hr5⟩
      refine JL.mv ?_
      refine JL.val rfl rfl rfl (.none rfl) (Ev.ex0 rfl) ?_
      refine JL.val rfl rfl rfl (.none rfl) (Ev.ex1 rfl) ?_
      refine JL.asg ?_
      refine JL.asg ?_
      refine JL.nil ?_
      refine JQ.thenN ?_
      refine JC.seq ?_
      refine JC.region ?_
      obtain ⟨o4, c4, e4, _, hC4⟩ := Row.vw (e := 22) hr4
      refine JL.re (d := 10) rfl e4 ?_
      obtain ⟨o5, c5, e5, _, hC5⟩ := Row.vw (e := 22) hr5
      refine JL.re (d := 12) rfl e5 ?_
      refine JL.val rfl rfl rfl (.none rfl) (Ev.lB Tryd.underlying22 Tryd.sizeOf22) ?_
      refine JL.val rfl rfl rfl (.none rfl) (Ev.lB Tryd.underlying22 Tryd.sizeOf22) ?_
      refine JL.val rfl rfl rfl (.none rfl) (Ev.bin rfl rfl (eql_arr8 (n := 32) Tryd.underlying22 Tryd.underlying5 (by kernel_rfl) (by kernel_rfl) (by first | rfl | exact dig_len _ | assumption | exact sha_length _ | exact shaO_length _) (by first | rfl | exact dig_len _ | assumption | exact sha_length _ | exact shaO_length _))) ?_
      refine JL.mv ?_
      refine JL.know (d := 48) (b := true) rfl ?_ ?_
      · exact decide_eq_true rfl
      refine JL.val rfl rfl rfl (.yes rfl rfl rfl) (Ev.move rfl) ?_
      refine JL.val rfl rfl rfl (.yes rfl rfl rfl) (Ev.move rfl) ?_
      refine JL.val rfl rfl rfl (.yes rfl rfl rfl) (Ev.bin rfl rfl eql_int) ?_
      refine JL.val rfl rfl rfl (.none rfl) (Ev.pickT rfl rfl) ?_
      refine JL.mv ?_
      refine JL.know (d := 53) (b := true) rfl ?_ ?_
      · exact decide_eq_true rfl
      refine JL.val rfl rfl rfl (.yes rfl rfl rfl) (Ev.move rfl) ?_
      refine JL.val rfl rfl rfl (.yes rfl rfl rfl) (Ev.move rfl) ?_
      refine JL.callV rfl (.yes rfl rfl rfl) rfl Tryd.call21 (fun w1 hw1 => dSame_any o4 o5 c4 c5 (pathV ds i) (pathV ds i) w1 (hC4 w1 hw1 (fun p hp => by simp [hp])) (hC5 w1 hw1 (fun p hp => by simp [hp])) (Nat.le_trans (pathV_le _ _) hmx)) ?_
      refine JL.val rfl rfl rfl (.none rfl) (Ev.pickT rfl rfl) ?_
      refine JL.mv ?_
      refine JL.know (d := 58) (b := true) rfl ?_ ?_
      · exact decide_eq_true rfl
      refine JL.val rfl rfl rfl (.yes rfl rfl rfl) (Ev.move rfl) ?_
      refine JL.val rfl rfl rfl (.yes rfl rfl rfl) (Ev.move rfl) ?_
      refine JL.val rfl rfl rfl (.yes rfl rfl rfl) (Ev.bin rfl rfl eql_int) ?_
      refine JL.val rfl rfl rfl (.none rfl) (Ev.pickT rfl rfl) ?_
      refine JL.mv ?_
      refine JL.know (d := 63) (b := true) rfl ?_ ?_
      · exact decide_eq_true rfl
      refine JL.val rfl rfl rfl (.yes rfl rfl rfl) (Ev.move rfl) ?_
      refine JL.val rfl rfl rfl (.yes rfl rfl rfl) (Ev.move rfl) ?_
      refine JL.callV rfl (.yes rfl rfl rfl) rfl Tryd.call21 (fun w1 hw1 => dSame_any o2 oa c2 cap ds ds w1 (hC2 w1 hw1 (fun p hp => by simp [hp])) (hd.old hw1) hmx) ?_
      refine JL.val rfl rfl rfl (.none rfl) (Ev.pickT rfl rfl) ?_
      refine JL.asg ?_
      refine JL.nil ?_
      refine JQ.thenN ?_
      refine JC.ret ?_
      refine JQ.end1 (H' := []) (.inl rfl) rfl (.tmp rfl) ?_ ?_
      · exact Sub.k
      · first | rfl | exact congrArg Value.bool (decide_eq_true rfl)
  · -- guard 16 false
    refine JL.skip rfl rfl (.noT rfl rfl rfl) ?_
    refine JL.skip rfl rfl (.noT rfl rfl rfl) ?_
    refine JL.skip rfl rfl (.noT rfl rfl rfl) ?_
    refine JL.val rfl rfl rfl (.none rfl) (Ev.pickF rfl rfl) ?_
    refine JL.nil ?_
    refine JQ.thenN ?_
    refine JC.condF rfl ?_
    refine JC.skip ?_
    refine JQ.thenN ?_
    refine JC.seq ?_
    refine JC.region ?_
    refine JL.mv ?_
    refine JL.callN rfl (.none rfl) rfl Tryd.call16 (fun w1 hw1 => dTwin_any oa cap ds w1 (hd.old hw1) hmx) ?_
    rintro _ _ ⟨r2, rfl, rfl, hr2⟩
    refine JL.asg ?_
    refine JL.nil ?_
    refine JQ.thenN ?_
    refine JC.seq ?_
    refine JC.region ?_
    obtain ⟨o2, c2, e2, _, hC2⟩ := Row.vw (e := 22) hr2
    refine JL.re (d := 5) rfl e2 ?_
    refine JL.mv ?_
    refine JL.callV rfl (.none rfl) rfl Tryd.call17 (fun w1 hw1 => Root_any o2 c2 ds w1 (hC2 w1 hw1 (fun p hp => by simp [hp])) hmx (hk.old hw1) (hf.old hw1)) ?_
    refine JL.mv ?_
    refine JL.val rfl rfl rfl (.none rfl) (Ev.ex0 rfl) ?_
    refine JL.val rfl rfl rfl (.none rfl) (Ev.ex1 rfl) ?_
    refine JL.new rfl rfl rfl (.none rfl) (En.allocZ (cs := arr8 (List.replicate 32 0)) Tryd.zeroValue22 rfl) (fun b6 hb6 => ?_)
    refine JL.sto rfl rfl (.none rfl) (Es.sA Tryd.sizeOf22) ?_
    refine JL.asg ?_
    refine JL.nil ?_
    refine JQ.thenN ?_
    refine JC.seq ?_
    refine JC.region ?_
    refine JL.mv ?_
    refine JL.callV rfl (.none rfl) rfl Tryd.call18 (fun w1 hw1 => rRoot_any oa cap ds w1 (hd.old hw1) hmx) ?_
    refine JL.mv ?_
    refine JL.val rfl rfl rfl (.none rfl) (Ev.ex0 rfl) ?_
    refine JL.val rfl rfl rfl (.none rfl) (Ev.ex1 rfl) ?_
    refine JL.new rfl rfl rfl (.none rfl) (En.allocZ (cs := arr8 (List.replicate 32 0)) Tryd.zeroValue22 rfl) (fun b8 hb8 => ?_)
    refine JL.sto rfl rfl (.none rfl) (Es.sA Tryd.sizeOf22) ?_
    refine JL.asg ?_
    refine JL.nil ?_
    refine JQ.thenN ?_
    refine JC.seq ?_
    refine JC.region ?_
    refine JL.mv ?_
    refine JL.mv ?_
    refine JL.callN rfl (.none rfl) rfl Tryd.call19 (fun w1 hw1 => Path_any o2 c2 ds i hib w1 (hC2 w1 hw1 (fun p hp => by simp [hp])) hmx (hk.old hw1) (hf.old hw1)) ?_
    rintro _ _ ⟨r4, rfl, rfl, hr4⟩
    refine JL.mv ?_
    refine JL.val rfl rfl rfl (.none rfl) (Ev.ex0 rfl) ?_
    refine JL.val rfl rfl rfl (.none rfl) (Ev.ex1 rfl) ?_
    refine JL.asg ?_
    refine JL.asg ?_
    refine JL.nil ?_
    refine JQ.thenN ?_
    refine JC.seq ?_
    refine JC.region ?_
    refine JL.mv ?_
    refine JL.mv ?_
    refine JL.callN rfl (.none rfl) rfl Tryd.call20 (fun w1 hw1 => rPath_any oa cap ds i hib w1 (hd.old hw1) hmx) ?_
    rintro _ _ ⟨r5, rfl, rfl, hr5⟩
    refine JL.mv ?_
    refine JL.val rfl rfl rfl (.none rfl) (Ev.ex0 rfl) ?_
    refine JL.val rfl rfl rfl (.none rfl) (Ev.ex1 rfl) ?_
    refine JL.asg ?_
    refine JL.asg ?_
    refine JL.nil ?_
    refine JQ.thenN ?_
    refine JC.seq ?_
    refine JC.region ?_
    obtain ⟨o4, c4, e4, _, hC4⟩ := Row.vw (e := 22) hr4
    refine JL.re (d := 10) rfl e4 ?_
    obtain ⟨o5, c5, e5, _, hC5⟩ := Row.vw (e := 22) hr5
    refine JL.re (d := 12) rfl e5 ?_
    refine JL.val rfl rfl rfl (.none rfl) (Ev.lB Tryd.underlying22 Tryd.sizeOf22) ?_
    refine JL.val rfl rfl rfl (.none rfl) (Ev.lB Tryd.underlying22 Tryd.sizeOf22) ?_
    refine JL.val rfl rfl rfl (.none rfl) (Ev.bin rfl rfl (eql_arr8 (n := 32) Tryd.underlying22 Tryd.underlying5 (by kernel_rfl) (by kernel_rfl) (by first | rfl | exact dig_len _ | assumption | exact sha_length _ | exact shaO_length _) (by first | rfl | exact dig_len _ | assumption | exact sha_length _ | exact shaO_length _))) ?_
    refine JL.mv ?_
    refine JL.know (d := 48) (b := true) rfl ?_ ?_
    · exact decide_eq_true rfl
    refine JL.val rfl rfl rfl (.yes rfl rfl rfl) (Ev.move rfl) ?_
    refine JL.val rfl rfl rfl (.yes rfl rfl rfl) (Ev.move rfl) ?_
    refine JL.val rfl rfl rfl (.yes rfl rfl rfl) (Ev.bin rfl rfl eql_int) ?_
    refine JL.val rfl rfl rfl (.none rfl) (Ev.pickT rfl rfl) ?_
    refine JL.mv ?_
    refine JL.know (d := 53) (b := true) rfl ?_ ?_
    · exact decide_eq_true rfl
    refine JL.val rfl rfl rfl (.yes rfl rfl rfl) (Ev.move rfl) ?_
    refine JL.val rfl rfl rfl (.yes rfl rfl rfl) (Ev.move rfl) ?_
    refine JL.callV rfl (.yes rfl rfl rfl) rfl Tryd.call21 (fun w1 hw1 => dSame_any o4 o5 c4 c5 (pathV ds i) (pathV ds i) w1 (hC4 w1 hw1 (fun p hp => by simp [hp])) (hC5 w1 hw1 (fun p hp => by simp [hp])) (Nat.le_trans (pathV_le _ _) hmx)) ?_
    refine JL.val rfl rfl rfl (.none rfl) (Ev.pickT rfl rfl) ?_
    refine JL.mv ?_
    refine JL.know (d := 58) (b := true) rfl ?_ ?_
    · exact decide_eq_true rfl
    refine JL.val rfl rfl rfl (.yes rfl rfl rfl) (Ev.move rfl) ?_
    refine JL.val rfl rfl rfl (.yes rfl rfl rfl) (Ev.move rfl) ?_
    refine JL.val rfl rfl rfl (.yes rfl rfl rfl) (Ev.bin rfl rfl eql_int) ?_
    refine JL.val rfl rfl rfl (.none rfl) (Ev.pickT rfl rfl) ?_
    refine JL.mv ?_
    refine JL.know (d := 63) (b := true) rfl ?_ ?_
    · exact decide_eq_true rfl
    refine JL.val rfl rfl rfl (.yes rfl rfl rfl) (Ev.move rfl) ?_
    refine JL.val rfl rfl rfl (.yes rfl rfl rfl) (Ev.move rfl) ?_
    refine JL.callV rfl (.yes rfl rfl rfl) rfl Tryd.call21 (fun w1 hw1 => dSame_any o2 oa c2 cap ds ds w1 (hC2 w1 hw1 (fun p hp => by simp [hp])) (hd.old hw1) hmx) ?_
    refine JL.val rfl rfl rfl (.none rfl) (Ev.pickT rfl rfl) ?_
    refine JL.asg ?_
    refine JL.nil ?_
    refine JQ.thenN ?_
    refine JC.ret ?_
    refine JQ.end1 (H' := []) (.inl rfl) rfl (.tmp rfl) ?_ ?_
    · exact Sub.k
    · first | rfl | exact congrArg Value.bool (decide_eq_true rfl)

theorem clash_any (a b c d : Dig) (w : World) (hk : KMem 1 w) (hf : FMem 0 w) :
    Calls Tryd.prog 29 #[.agg (arr8 a.1), .agg (arr8 b.1), .agg (arr8 c.1), .agg (arr8 d.1)] w (Ret w (fun v _ => v = .bool (clashR a b c d))) := by
  refine enter (vs := [.agg (arr8 a.1), .agg (arr8 b.1), .agg (arr8 c.1), .agg (arr8 d.1)]) Tryd.func29 rfl Tryd.ntmps29 rfl ?_
  refine JC.seq ?_
  refine JC.region ?_
  refine JL.new rfl rfl rfl (.none rfl) (En.boxA rfl) (fun b4 hb4 => ?_)
  refine JL.new rfl rfl rfl (.none rfl) (En.boxA rfl) (fun b5 hb5 => ?_)
  refine JL.new rfl rfl rfl (.none rfl) (En.boxA rfl) (fun b6 hb6 => ?_)
  refine JL.new rfl rfl rfl (.none rfl) (En.boxA rfl) (fun b7 hb7 => ?_)
  refine JL.asg ?_
  refine JL.nil ?_
  refine JQ.thenN ?_
  refine JC.seq ?_
  refine JC.regionA (by kernel_rfl) ?_
  refine JA.mid (X := Unit) (fun _ => (!decide (a.1 = c.1) || !decide (b.1 = d.1)) = true) (fun _ => [(4, .pointer (some ⟨b4, 0, none⟩)), (5, .pointer (some ⟨b5, 0, none⟩)), (6, .pointer (some ⟨b6, 0, none⟩)), (7, .pointer (some ⟨b7, 0, none⟩)), (8, .bool false), (17, .bool true), (18, .agg (arr8 a.1)), (19, .agg (arr8 b.1)), (20, .agg (arr8 (nodeD a b).1)), (21, .agg (arr8 c.1)), (22, .agg (arr8 d.1)), (23, .agg (arr8 (nodeD c d).1))]) (fun _ => [(b7, Obj.cells (arr8 d.1) 22 (0, 0)), (b6, Obj.cells (arr8 c.1) 22 (0, 0)), (b5, Obj.cells (arr8 b.1) 22 (0, 0)), (b4, Obj.cells (arr8 a.1) 22 (0, 0))]) 3 #[true, true, true, true, true, true, true, true, true, true, true, true, true, true, true, false, false, false] ?_ (fun hmid0 => ?_)
  · -- state [0, 1, 2, 3, 4, 5, 6, 7, 8, 9, 10, 11, 12, 13, 14]
    rintro _ hq
    refine JA.tk 15 rfl (.yes rfl rfl rfl) (fun _ => (Ev.bin rfl rfl (eql_arr8 (n := 32) Tryd.underlying22 Tryd.underlying5 (by kernel_rfl) (by kernel_rfl) (by first | rfl | exact dig_len _ | assumption | exact sha_length _ | exact shaO_length _) (by first | rfl | exact dig_len _ | assumption | exact sha_length _ | exact shaO_length _)))) ?_
    refine JA.tk 16 rfl (.none rfl) (fun _ => (Ev.pickT rfl rfl)) ?_
    refine JA.tk 17 rfl (.none rfl) (fun _ => (Ev.assign rfl)) ?_
    refine JA.done (by kernel_rfl) ?_
    refine JQ.thenN ?_
    refine JC.ret ?_
    refine JQ.end1 (H' := []) (.inl rfl) rfl (.tmp rfl) ?_ ?_
    · exact Sub.k
    · exact congrArg Value.bool (by unfold clashR; rw [hq]; rfl)
  refine JA.mid (X := Unit) (fun _ => (!decide (a.1 = c.1) || !decide (b.1 = d.1)) = true) (fun _ => [(4, .pointer (some ⟨b4, 0, none⟩)), (5, .pointer (some ⟨b5, 0, none⟩)), (6, .pointer (some ⟨b6, 0, none⟩)), (7, .pointer (some ⟨b7, 0, none⟩)), (8, .bool false), (17, .bool true), (18, .agg (arr8 a.1)), (19, .agg (arr8 b.1)), (21, .agg (arr8 c.1)), (22, .agg (arr8 d.1)), (23, .agg (arr8 (nodeD c d).1))]) (fun _ => [(b7, Obj.cells (arr8 d.1) 22 (0, 0)), (b6, Obj.cells (arr8 c.1) 22 (0, 0)), (b5, Obj.cells (arr8 b.1) 22 (0, 0)), (b4, Obj.cells (arr8 a.1) 22 (0, 0))]) 4 #[true, true, true, true, true, true, true, true, true, true, true, false, true, true, true, false, false, false] ?_ (fun hmid1 => ?_)
  · -- state [0, 1, 2, 3, 4, 5, 6, 7, 8, 9, 10, 12, 13, 14]
    rintro _ hq
    refine JA.one 11 ?_
    refine JO.callV rfl (.yes rfl rfl rfl) rfl Tryd.call23 (fun w1 hw1 => nodeG_any _ _ w1 (hk.old hw1) (hf.old hw1)) ?_
    exact JA.weak rfl (by kernel_rfl) (by exact Keeps.k) (by exact Sub.k) (hmid0 () (by first | assumption | (rw [hgA]; rfl) | (rw [hgA, hgB]; rfl)))
  refine JA.mid (X := Unit) (fun _ => (!decide (a.1 = c.1) || !decide (b.1 = d.1)) = true) (fun _ => [(4, .pointer (some ⟨b4, 0, none⟩)), (5, .pointer (some ⟨b5, 0, none⟩)), (6, .pointer (some ⟨b6, 0, none⟩)), (7, .pointer (some ⟨b7, 0, none⟩)), (8, .bool false), (17, .bool true), (18, .agg (arr8 a.1)), (19, .agg (arr8 b.1)), (20, .agg (arr8 (nodeD a b).1)), (21, .agg (arr8 c.1)), (22, .agg (arr8 d.1))]) (fun _ => [(b7, Obj.cells (arr8 d.1) 22 (0, 0)), (b6, Obj.cells (arr8 c.1) 22 (0, 0)), (b5, Obj.cells (arr8 b.1) 22 (0, 0)), (b4, Obj.cells (arr8 a.1) 22 (0, 0))]) 4 #[true, true, true, true, true, true, true, true, true, true, true, true, true, true, false, false, false, false] ?_ (fun hmid2 => ?_)
  · -- state [0, 1, 2, 3, 4, 5, 6, 7, 8, 9, 10, 11, 12, 13]
    rintro _ hq
    refine JA.one 14 ?_
    refine JO.callV rfl (.yes rfl rfl rfl) rfl Tryd.call23 (fun w1 hw1 => nodeG_any _ _ w1 (hk.old hw1) (hf.old hw1)) ?_
    exact JA.weak rfl (by kernel_rfl) (by exact Keeps.k) (by exact Sub.k) (hmid0 () (by first | assumption | (rw [hgA]; rfl) | (rw [hgA, hgB]; rfl)))
  refine JA.mid (X := Unit) (fun _ => (!decide (a.1 = c.1) || !decide (b.1 = d.1)) = true) (fun _ => [(4, .pointer (some ⟨b4, 0, none⟩)), (5, .pointer (some ⟨b5, 0, none⟩)), (6, .pointer (some ⟨b6, 0, none⟩)), (7, .pointer (some ⟨b7, 0, none⟩)), (8, .bool false), (17, .bool true), (18, .agg (arr8 a.1)), (21, .agg (arr8 c.1)), (22, .agg (arr8 d.1)), (23, .agg (arr8 (nodeD c d).1))]) (fun _ => [(b7, Obj.cells (arr8 d.1) 22 (0, 0)), (b6, Obj.cells (arr8 c.1) 22 (0, 0)), (b5, Obj.cells (arr8 b.1) 22 (0, 0)), (b4, Obj.cells (arr8 a.1) 22 (0, 0))]) 5 #[true, true, true, true, true, true, true, true, true, true, false, false, true, true, true, false, false, false] ?_ (fun hmid3 => ?_)
  · -- state [0, 1, 2, 3, 4, 5, 6, 7, 8, 9, 12, 13, 14]
    rintro _ hq
    refine JA.one 10 ?_
    refine JO.val rfl rfl rfl (.yes rfl rfl rfl) (Ev.lB Tryd.underlying22 Tryd.sizeOf22) ?_
    exact JA.weak rfl (by kernel_rfl) (by exact Keeps.k) (by exact Sub.k) (hmid1 () (by first | assumption | (rw [hgA]; rfl) | (rw [hgA, hgB]; rfl)))
  refine JA.mid (X := Unit) (fun _ => (!decide (a.1 = c.1) || !decide (b.1 = d.1)) = true) (fun _ => [(4, .pointer (some ⟨b4, 0, none⟩)), (5, .pointer (some ⟨b5, 0, none⟩)), (6, .pointer (some ⟨b6, 0, none⟩)), (7, .pointer (some ⟨b7, 0, none⟩)), (8, .bool false), (17, .bool true), (19, .agg (arr8 b.1)), (21, .agg (arr8 c.1)), (22, .agg (arr8 d.1)), (23, .agg (arr8 (nodeD c d).1))]) (fun _ => [(b7, Obj.cells (arr8 d.1) 22 (0, 0)), (b6, Obj.cells (arr8 c.1) 22 (0, 0)), (b5, Obj.cells (arr8 b.1) 22 (0, 0)), (b4, Obj.cells (arr8 a.1) 22 (0, 0))]) 5 #[true, true, true, true, true, true, true, true, true, false, true, false, true, true, true, false, false, false] ?_ (fun hmid4 => ?_)
  · -- state [0, 1, 2, 3, 4, 5, 6, 7, 8, 10, 12, 13, 14]
    rintro _ hq
    refine JA.one 9 ?_
    refine JO.val rfl rfl rfl (.yes rfl rfl rfl) (Ev.lB Tryd.underlying22 Tryd.sizeOf22) ?_
    exact JA.weak rfl (by kernel_rfl) (by exact Keeps.k) (by exact Sub.k) (hmid1 () (by first | assumption | (rw [hgA]; rfl) | (rw [hgA, hgB]; rfl)))
  refine JA.mid (X := Unit) (fun _ => (!decide (a.1 = c.1) || !decide (b.1 = d.1)) = true) (fun _ => [(4, .pointer (some ⟨b4, 0, none⟩)), (5, .pointer (some ⟨b5, 0, none⟩)), (6, .pointer (some ⟨b6, 0, none⟩)), (7, .pointer (some ⟨b7, 0, none⟩)), (8, .bool false), (17, .bool true), (18, .agg (arr8 a.1)), (19, .agg (arr8 b.1)), (21, .agg (arr8 c.1)), (22, .agg (arr8 d.1))]) (fun _ => [(b7, Obj.cells (arr8 d.1) 22 (0, 0)), (b6, Obj.cells (arr8 c.1) 22 (0, 0)), (b5, Obj.cells (arr8 b.1) 22 (0, 0)), (b4, Obj.cells (arr8 a.1) 22 (0, 0))]) 5 #[true, true, true, true, true, true, true, true, true, true, true, false, true, true, false, false, false, false] ?_ (fun hmid5 => ?_)
  · -- state [0, 1, 2, 3, 4, 5, 6, 7, 8, 9, 10, 12, 13]
    rintro _ hq
    refine JA.one 11 ?_
    refine JO.callV rfl (.yes rfl rfl rfl) rfl Tryd.call23 (fun w1 hw1 => nodeG_any _ _ w1 (hk.old hw1) (hf.old hw1)) ?_
    exact JA.weak rfl (by kernel_rfl) (by exact Keeps.k) (by exact Sub.k) (hmid2 () (by first | assumption | (rw [hgA]; rfl) | (rw [hgA, hgB]; rfl)))
  refine JA.mid (X := Unit) (fun _ => (!decide (a.1 = c.1) || !decide (b.1 = d.1)) = true) (fun _ => [(4, .pointer (some ⟨b4, 0, none⟩)), (5, .pointer (some ⟨b5, 0, none⟩)), (6, .pointer (some ⟨b6, 0, none⟩)), (7, .pointer (some ⟨b7, 0, none⟩)), (8, .bool false), (17, .bool true), (18, .agg (arr8 a.1)), (19, .agg (arr8 b.1)), (20, .agg (arr8 (nodeD a b).1)), (21, .agg (arr8 c.1))]) (fun _ => [(b7, Obj.cells (arr8 d.1) 22 (0, 0)), (b6, Obj.cells (arr8 c.1) 22 (0, 0)), (b5, Obj.cells (arr8 b.1) 22 (0, 0)), (b4, Obj.cells (arr8 a.1) 22 (0, 0))]) 5 #[true, true, true, true, true, true, true, true, true, true, true, true, true, false, false, false, false, false] ?_ (fun hmid6 => ?_)
  · -- state [0, 1, 2, 3, 4, 5, 6, 7, 8, 9, 10, 11, 12]
    rintro _ hq
    refine JA.one 13 ?_
    refine JO.val rfl rfl rfl (.yes rfl rfl rfl) (Ev.lB Tryd.underlying22 Tryd.sizeOf22) ?_
    exact JA.weak rfl (by kernel_rfl) (by exact Keeps.k) (by exact Sub.k) (hmid2 () (by first | assumption | (rw [hgA]; rfl) | (rw [hgA, hgB]; rfl)))
  refine JA.mid (X := Unit) (fun _ => (!decide (a.1 = c.1) || !decide (b.1 = d.1)) = true) (fun _ => [(4, .pointer (some ⟨b4, 0, none⟩)), (5, .pointer (some ⟨b5, 0, none⟩)), (6, .pointer (some ⟨b6, 0, none⟩)), (7, .pointer (some ⟨b7, 0, none⟩)), (8, .bool false), (17, .bool true), (18, .agg (arr8 a.1)), (19, .agg (arr8 b.1)), (20, .agg (arr8 (nodeD a b).1)), (22, .agg (arr8 d.1))]) (fun _ => [(b7, Obj.cells (arr8 d.1) 22 (0, 0)), (b6, Obj.cells (arr8 c.1) 22 (0, 0)), (b5, Obj.cells (arr8 b.1) 22 (0, 0)), (b4, Obj.cells (arr8 a.1) 22 (0, 0))]) 5 #[true, true, true, true, true, true, true, true, true, true, true, true, false, true, false, false, false, false] ?_ (fun hmid7 => ?_)
  · -- state [0, 1, 2, 3, 4, 5, 6, 7, 8, 9, 10, 11, 13]
    rintro _ hq
    refine JA.one 12 ?_
    refine JO.val rfl rfl rfl (.yes rfl rfl rfl) (Ev.lB Tryd.underlying22 Tryd.sizeOf22) ?_
    exact JA.weak rfl (by kernel_rfl) (by exact Keeps.k) (by exact Sub.k) (hmid2 () (by first | assumption | (rw [hgA]; rfl) | (rw [hgA, hgB]; rfl)))
  refine JA.mid (X := Unit) (fun _ => (!decide (a.1 = c.1) || !decide (b.1 = d.1)) = true) (fun _ => [(4, .pointer (some ⟨b4, 0, none⟩)), (5, .pointer (some ⟨b5, 0, none⟩)), (6, .pointer (some ⟨b6, 0, none⟩)), (7, .pointer (some ⟨b7, 0, none⟩)), (8, .bool false), (17, .bool true), (21, .agg (arr8 c.1)), (22, .agg (arr8 d.1)), (23, .agg (arr8 (nodeD c d).1))]) (fun _ => [(b7, Obj.cells (arr8 d.1) 22 (0, 0)), (b6, Obj.cells (arr8 c.1) 22 (0, 0)), (b5, Obj.cells (arr8 b.1) 22 (0, 0)), (b4, Obj.cells (arr8 a.1) 22 (0, 0))]) 6 #[true, true, true, true, true, true, true, true, true, false, false, false, true, true, true, false, false, false] ?_ (fun hmid8 => ?_)
  · -- state [0, 1, 2, 3, 4, 5, 6, 7, 8, 12, 13, 14]
    rintro _ hq
    refine JA.branch [9, 10] (by kernel_rfl) rfl ?_
    refine JAll.cons rfl ?_ ?_
    · -- 9
      refine JO.val rfl rfl rfl (.yes rfl rfl rfl) (Ev.lB Tryd.underlying22 Tryd.sizeOf22) ?_
      exact JA.weak rfl (by kernel_rfl) (by exact Keeps.k) (by exact Sub.k) (hmid3 () (by first | assumption | (rw [hgA]; rfl) | (rw [hgA, hgB]; rfl)))
    refine JAll.cons rfl ?_ JAll.nil
    refine JO.val rfl rfl rfl (.yes rfl rfl rfl) (Ev.lB Tryd.underlying22 Tryd.sizeOf22) ?_
    exact JA.weak rfl (by kernel_rfl) (by exact Keeps.k) (by exact Sub.k) (hmid4 () (by first | assumption | (rw [hgA]; rfl) | (rw [hgA, hgB]; rfl)))
  refine JA.mid (X := Unit) (fun _ => (!decide (a.1 = c.1) || !decide (b.1 = d.1)) = true) (fun _ => [(4, .pointer (some ⟨b4, 0, none⟩)), (5, .pointer (some ⟨b5, 0, none⟩)), (6, .pointer (some ⟨b6, 0, none⟩)), (7, .pointer (some ⟨b7, 0, none⟩)), (8, .bool false), (17, .bool true), (18, .agg (arr8 a.1)), (21, .agg (arr8 c.1)), (22, .agg (arr8 d.1))]) (fun _ => [(b7, Obj.cells (arr8 d.1) 22 (0, 0)), (b6, Obj.cells (arr8 c.1) 22 (0, 0)), (b5, Obj.cells (arr8 b.1) 22 (0, 0)), (b4, Obj.cells (arr8 a.1) 22 (0, 0))]) 6 #[true, true, true, true, true, true, true, true, true, true, false, false, true, true, false, false, false, false] ?_ (fun hmid9 => ?_)
  · -- state [0, 1, 2, 3, 4, 5, 6, 7, 8, 9, 12, 13]
    rintro _ hq
    refine JA.one 10 ?_
    refine JO.val rfl rfl rfl (.yes rfl rfl rfl) (Ev.lB Tryd.underlying22 Tryd.sizeOf22) ?_
    exact JA.weak rfl (by kernel_rfl) (by exact Keeps.k) (by exact Sub.k) (hmid5 () (by first | assumption | (rw [hgA]; rfl) | (rw [hgA, hgB]; rfl)))
  refine JA.mid (X := Unit) (fun _ => (!decide (a.1 = c.1) || !decide (b.1 = d.1)) = true) (fun _ => [(4, .pointer (some ⟨b4, 0, none⟩)), (5, .pointer (some ⟨b5, 0, none⟩)), (6, .pointer (some ⟨b6, 0, none⟩)), (7, .pointer (some ⟨b7, 0, none⟩)), (8, .bool false), (17, .bool true), (19, .agg (arr8 b.1)), (21, .agg (arr8 c.1)), (22, .agg (arr8 d.1))]) (fun _ => [(b7, Obj.cells (arr8 d.1) 22 (0, 0)), (b6, Obj.cells (arr8 c.1) 22 (0, 0)), (b5, Obj.cells (arr8 b.1) 22 (0, 0)), (b4, Obj.cells (arr8 a.1) 22 (0, 0))]) 6 #[true, true, true, true, true, true, true, true, true, false, true, false, true, true, false, false, false, false] ?_ (fun hmid10 => ?_)
  · -- state [0, 1, 2, 3, 4, 5, 6, 7, 8, 10, 12, 13]
    rintro _ hq
    refine JA.one 9 ?_
    refine JO.val rfl rfl rfl (.yes rfl rfl rfl) (Ev.lB Tryd.underlying22 Tryd.sizeOf22) ?_
    exact JA.weak rfl (by kernel_rfl) (by exact Keeps.k) (by exact Sub.k) (hmid5 () (by first | assumption | (rw [hgA]; rfl) | (rw [hgA, hgB]; rfl)))
  refine JA.mid (X := Unit) (fun _ => (!decide (a.1 = c.1) || !decide (b.1 = d.1)) = true) (fun _ => [(4, .pointer (some ⟨b4, 0, none⟩)), (5, .pointer (some ⟨b5, 0, none⟩)), (6, .pointer (some ⟨b6, 0, none⟩)), (7, .pointer (some ⟨b7, 0, none⟩)), (8, .bool false), (17, .bool true), (18, .agg (arr8 a.1)), (19, .agg (arr8 b.1)), (21, .agg (arr8 c.1))]) (fun _ => [(b7, Obj.cells (arr8 d.1) 22 (0, 0)), (b6, Obj.cells (arr8 c.1) 22 (0, 0)), (b5, Obj.cells (arr8 b.1) 22 (0, 0)), (b4, Obj.cells (arr8 a.1) 22 (0, 0))]) 6 #[true, true, true, true, true, true, true, true, true, true, true, false, true, false, false, false, false, false] ?_ (fun hmid11 => ?_)
  · -- state [0, 1, 2, 3, 4, 5, 6, 7, 8, 9, 10, 12]
    rintro _ hq
    refine JA.branch [11, 13] (by kernel_rfl) rfl ?_
    refine JAll.cons rfl ?_ ?_
    · -- 11
      refine JO.callV rfl (.yes rfl rfl rfl) rfl Tryd.call23 (fun w1 hw1 => nodeG_any _ _ w1 (hk.old hw1) (hf.old hw1)) ?_
      exact JA.weak rfl (by kernel_rfl) (by exact Keeps.k) (by exact Sub.k) (hmid6 () (by first | assumption | (rw [hgA]; rfl) | (rw [hgA, hgB]; rfl)))
    refine JAll.cons rfl ?_ JAll.nil
    refine JO.val rfl rfl rfl (.yes rfl rfl rfl) (Ev.lB Tryd.underlying22 Tryd.sizeOf22) ?_
    exact JA.weak rfl (by kernel_rfl) (by exact Keeps.k) (by exact Sub.k) (hmid5 () (by first | assumption | (rw [hgA]; rfl) | (rw [hgA, hgB]; rfl)))
  refine JA.mid (X := Unit) (fun _ => (!decide (a.1 = c.1) || !decide (b.1 = d.1)) = true) (fun _ => [(4, .pointer (some ⟨b4, 0, none⟩)), (5, .pointer (some ⟨b5, 0, none⟩)), (6, .pointer (some ⟨b6, 0, none⟩)), (7, .pointer (some ⟨b7, 0, none⟩)), (8, .bool false), (17, .bool true), (18, .agg (arr8 a.1)), (19, .agg (arr8 b.1)), (22, .agg (arr8 d.1))]) (fun _ => [(b7, Obj.cells (arr8 d.1) 22 (0, 0)), (b6, Obj.cells (arr8 c.1) 22 (0, 0)), (b5, Obj.cells (arr8 b.1) 22 (0, 0)), (b4, Obj.cells (arr8 a.1) 22 (0, 0))]) 6 #[true, true, true, true, true, true, true, true, true, true, true, false, false, true, false, false, false, false] ?_ (fun hmid12 => ?_)
  · -- state [0, 1, 2, 3, 4, 5, 6, 7, 8, 9, 10, 13]
    rintro _ hq
    refine JA.branch [11, 12] (by kernel_rfl) rfl ?_
    refine JAll.cons rfl ?_ ?_
    · -- 11
      refine JO.callV rfl (.yes rfl rfl rfl) rfl Tryd.call23 (fun w1 hw1 => nodeG_any _ _ w1 (hk.old hw1) (hf.old hw1)) ?_
      exact JA.weak rfl (by kernel_rfl) (by exact Keeps.k) (by exact Sub.k) (hmid7 () (by first | assumption | (rw [hgA]; rfl) | (rw [hgA, hgB]; rfl)))
    refine JAll.cons rfl ?_ JAll.nil
    refine JO.val rfl rfl rfl (.yes rfl rfl rfl) (Ev.lB Tryd.underlying22 Tryd.sizeOf22) ?_
    exact JA.weak rfl (by kernel_rfl) (by exact Keeps.k) (by exact Sub.k) (hmid5 () (by first | assumption | (rw [hgA]; rfl) | (rw [hgA, hgB]; rfl)))
  refine JA.mid (X := Unit) (fun _ => (!decide (a.1 = c.1) || !decide (b.1 = d.1)) = true) (fun _ => [(4, .pointer (some ⟨b4, 0, none⟩)), (5, .pointer (some ⟨b5, 0, none⟩)), (6, .pointer (some ⟨b6, 0, none⟩)), (7, .pointer (some ⟨b7, 0, none⟩)), (8, .bool false), (17, .bool true), (18, .agg (arr8 a.1)), (19, .agg (arr8 b.1)), (20, .agg (arr8 (nodeD a b).1))]) (fun _ => [(b7, Obj.cells (arr8 d.1) 22 (0, 0)), (b6, Obj.cells (arr8 c.1) 22 (0, 0)), (b5, Obj.cells (arr8 b.1) 22 (0, 0)), (b4, Obj.cells (arr8 a.1) 22 (0, 0))]) 6 #[true, true, true, true, true, true, true, true, true, true, true, true, false, false, false, false, false, false] ?_ (fun hmid13 => ?_)
  · -- state [0, 1, 2, 3, 4, 5, 6, 7, 8, 9, 10, 11]
    rintro _ hq
    refine JA.branch [12, 13] (by kernel_rfl) rfl ?_
    refine JAll.cons rfl ?_ ?_
    · -- 12
      refine JO.val rfl rfl rfl (.yes rfl rfl rfl) (Ev.lB Tryd.underlying22 Tryd.sizeOf22) ?_
      exact JA.weak rfl (by kernel_rfl) (by exact Keeps.k) (by exact Sub.k) (hmid6 () (by first | assumption | (rw [hgA]; rfl) | (rw [hgA, hgB]; rfl)))
    refine JAll.cons rfl ?_ JAll.nil
    refine JO.val rfl rfl rfl (.yes rfl rfl rfl) (Ev.lB Tryd.underlying22 Tryd.sizeOf22) ?_
    exact JA.weak rfl (by kernel_rfl) (by exact Keeps.k) (by exact Sub.k) (hmid7 () (by first | assumption | (rw [hgA]; rfl) | (rw [hgA, hgB]; rfl)))
  refine JA.mid (X := Unit) (fun _ => (!decide (a.1 = c.1) || !decide (b.1 = d.1)) = true) (fun _ => [(4, .pointer (some ⟨b4, 0, none⟩)), (5, .pointer (some ⟨b5, 0, none⟩)), (6, .pointer (some ⟨b6, 0, none⟩)), (7, .pointer (some ⟨b7, 0, none⟩)), (8, .bool false), (17, .bool true), (21, .agg (arr8 c.1)), (22, .agg (arr8 d.1))]) (fun _ => [(b7, Obj.cells (arr8 d.1) 22 (0, 0)), (b6, Obj.cells (arr8 c.1) 22 (0, 0)), (b5, Obj.cells (arr8 b.1) 22 (0, 0)), (b4, Obj.cells (arr8 a.1) 22 (0, 0))]) 7 #[true, true, true, true, true, true, true, true, true, false, false, false, true, true, false, false, false, false] ?_ (fun hmid14 => ?_)
  · -- state [0, 1, 2, 3, 4, 5, 6, 7, 8, 12, 13]
    rintro _ hq
    refine JA.branch [9, 10] (by kernel_rfl) rfl ?_
    refine JAll.cons rfl ?_ ?_
    · -- 9
      refine JO.val rfl rfl rfl (.yes rfl rfl rfl) (Ev.lB Tryd.underlying22 Tryd.sizeOf22) ?_
      exact JA.weak rfl (by kernel_rfl) (by exact Keeps.k) (by exact Sub.k) (hmid9 () (by first | assumption | (rw [hgA]; rfl) | (rw [hgA, hgB]; rfl)))
    refine JAll.cons rfl ?_ JAll.nil
    refine JO.val rfl rfl rfl (.yes rfl rfl rfl) (Ev.lB Tryd.underlying22 Tryd.sizeOf22) ?_
    exact JA.weak rfl (by kernel_rfl) (by exact Keeps.k) (by exact Sub.k) (hmid10 () (by first | assumption | (rw [hgA]; rfl) | (rw [hgA, hgB]; rfl)))
  refine JA.mid (X := Unit) (fun _ => (!decide (a.1 = c.1) || !decide (b.1 = d.1)) = true) (fun _ => [(4, .pointer (some ⟨b4, 0, none⟩)), (5, .pointer (some ⟨b5, 0, none⟩)), (6, .pointer (some ⟨b6, 0, none⟩)), (7, .pointer (some ⟨b7, 0, none⟩)), (8, .bool false), (17, .bool true), (18, .agg (arr8 a.1)), (21, .agg (arr8 c.1))]) (fun _ => [(b7, Obj.cells (arr8 d.1) 22 (0, 0)), (b6, Obj.cells (arr8 c.1) 22 (0, 0)), (b5, Obj.cells (arr8 b.1) 22 (0, 0)), (b4, Obj.cells (arr8 a.1) 22 (0, 0))]) 7 #[true, true, true, true, true, true, true, true, true, true, false, false, true, false, false, false, false, false] ?_ (fun hmid15 => ?_)
  · -- state [0, 1, 2, 3, 4, 5, 6, 7, 8, 9, 12]
    rintro _ hq
    refine JA.branch [10, 13] (by kernel_rfl) rfl ?_
    refine JAll.cons rfl ?_ ?_
    · -- 10
      refine JO.val rfl rfl rfl (.yes rfl rfl rfl) (Ev.lB Tryd.underlying22 Tryd.sizeOf22) ?_
      exact JA.weak rfl (by kernel_rfl) (by exact Keeps.k) (by exact Sub.k) (hmid11 () (by first | assumption | (rw [hgA]; rfl) | (rw [hgA, hgB]; rfl)))
    refine JAll.cons rfl ?_ JAll.nil
    refine JO.val rfl rfl rfl (.yes rfl rfl rfl) (Ev.lB Tryd.underlying22 Tryd.sizeOf22) ?_
    exact JA.weak rfl (by kernel_rfl) (by exact Keeps.k) (by exact Sub.k) (hmid9 () (by first | assumption | (rw [hgA]; rfl) | (rw [hgA, hgB]; rfl)))
  refine JA.mid (X := Unit) (fun _ => (!decide (a.1 = c.1) || !decide (b.1 = d.1)) = true) (fun _ => [(4, .pointer (some ⟨b4, 0, none⟩)), (5, .pointer (some ⟨b5, 0, none⟩)), (6, .pointer (some ⟨b6, 0, none⟩)), (7, .pointer (some ⟨b7, 0, none⟩)), (8, .bool false), (17, .bool true), (18, .agg (arr8 a.1)), (22, .agg (arr8 d.1))]) (fun _ => [(b7, Obj.cells (arr8 d.1) 22 (0, 0)), (b6, Obj.cells (arr8 c.1) 22 (0, 0)), (b5, Obj.cells (arr8 b.1) 22 (0, 0)), (b4, Obj.cells (arr8 a.1) 22 (0, 0))]) 7 #[true, true, true, true, true, true, true, true, true, true, false, false, false, true, false, false, false, false] ?_ (fun hmid16 => ?_)
  · -- state [0, 1, 2, 3, 4, 5, 6, 7, 8, 9, 13]
    rintro _ hq
    refine JA.branch [10, 12] (by kernel_rfl) rfl ?_
    refine JAll.cons rfl ?_ ?_
    · -- 10
      refine JO.val rfl rfl rfl (.yes rfl rfl rfl) (Ev.lB Tryd.underlying22 Tryd.sizeOf22) ?_
      exact JA.weak rfl (by kernel_rfl) (by exact Keeps.k) (by exact Sub.k) (hmid12 () (by first | assumption | (rw [hgA]; rfl) | (rw [hgA, hgB]; rfl)))
    refine JAll.cons rfl ?_ JAll.nil
    refine JO.val rfl rfl rfl (.yes rfl rfl rfl) (Ev.lB Tryd.underlying22 Tryd.sizeOf22) ?_
    exact JA.weak rfl (by kernel_rfl) (by exact Keeps.k) (by exact Sub.k) (hmid9 () (by first | assumption | (rw [hgA]; rfl) | (rw [hgA, hgB]; rfl)))
  refine JA.mid (X := Unit) (fun _ => (!decide (a.1 = c.1) || !decide (b.1 = d.1)) = true) (fun _ => [(4, .pointer (some ⟨b4, 0, none⟩)), (5, .pointer (some ⟨b5, 0, none⟩)), (6, .pointer (some ⟨b6, 0, none⟩)), (7, .pointer (some ⟨b7, 0, none⟩)), (8, .bool false), (17, .bool true), (19, .agg (arr8 b.1)), (21, .agg (arr8 c.1))]) (fun _ => [(b7, Obj.cells (arr8 d.1) 22 (0, 0)), (b6, Obj.cells (arr8 c.1) 22 (0, 0)), (b5, Obj.cells (arr8 b.1) 22 (0, 0)), (b4, Obj.cells (arr8 a.1) 22 (0, 0))]) 7 #[true, true, true, true, true, true, true, true, true, false, true, false, true, false, false, false, false, false] ?_ (fun hmid17 => ?_)
  · -- state [0, 1, 2, 3, 4, 5, 6, 7, 8, 10, 12]
    rintro _ hq
    refine JA.branch [9, 13] (by kernel_rfl) rfl ?_
    refine JAll.cons rfl ?_ ?_
    · -- 9
      refine JO.val rfl rfl rfl (.yes rfl rfl rfl) (Ev.lB Tryd.underlying22 Tryd.sizeOf22) ?_
      exact JA.weak rfl (by kernel_rfl) (by exact Keeps.k) (by exact Sub.k) (hmid11 () (by first | assumption | (rw [hgA]; rfl) | (rw [hgA, hgB]; rfl)))
    refine JAll.cons rfl ?_ JAll.nil
    refine JO.val rfl rfl rfl (.yes rfl rfl rfl) (Ev.lB Tryd.underlying22 Tryd.sizeOf22) ?_
    exact JA.weak rfl (by kernel_rfl) (by exact Keeps.k) (by exact Sub.k) (hmid10 () (by first | assumption | (rw [hgA]; rfl) | (rw [hgA, hgB]; rfl)))
  refine JA.mid (X := Unit) (fun _ => (!decide (a.1 = c.1) || !decide (b.1 = d.1)) = true) (fun _ => [(4, .pointer (some ⟨b4, 0, none⟩)), (5, .pointer (some ⟨b5, 0, none⟩)), (6, .pointer (some ⟨b6, 0, none⟩)), (7, .pointer (some ⟨b7, 0, none⟩)), (8, .bool false), (17, .bool true), (19, .agg (arr8 b.1)), (22, .agg (arr8 d.1))]) (fun _ => [(b7, Obj.cells (arr8 d.1) 22 (0, 0)), (b6, Obj.cells (arr8 c.1) 22 (0, 0)), (b5, Obj.cells (arr8 b.1) 22 (0, 0)), (b4, Obj.cells (arr8 a.1) 22 (0, 0))]) 7 #[true, true, true, true, true, true, true, true, true, false, true, false, false, true, false, false, false, false] ?_ (fun hmid18 => ?_)
  · -- state [0, 1, 2, 3, 4, 5, 6, 7, 8, 10, 13]
    rintro _ hq
    refine JA.branch [9, 12] (by kernel_rfl) rfl ?_
    refine JAll.cons rfl ?_ ?_
    · -- 9
      refine JO.val rfl rfl rfl (.yes rfl rfl rfl) (Ev.lB Tryd.underlying22 Tryd.sizeOf22) ?_
      exact JA.weak rfl (by kernel_rfl) (by exact Keeps.k) (by exact Sub.k) (hmid12 () (by first | assumption | (rw [hgA]; rfl) | (rw [hgA, hgB]; rfl)))
    refine JAll.cons rfl ?_ JAll.nil
    refine JO.val rfl rfl rfl (.yes rfl rfl rfl) (Ev.lB Tryd.underlying22 Tryd.sizeOf22) ?_
    exact JA.weak rfl (by kernel_rfl) (by exact Keeps.k) (by exact Sub.k) (hmid10 () (by first | assumption | (rw [hgA]; rfl) | (rw [hgA, hgB]; rfl)))
  refine JA.mid (X := Unit) (fun _ => (!decide (a.1 = c.1) || !decide (b.1 = d.1)) = true) (fun _ => [(4, .pointer (some ⟨b4, 0, none⟩)), (5, .pointer (some ⟨b5, 0, none⟩)), (6, .pointer (some ⟨b6, 0, none⟩)), (7, .pointer (some ⟨b7, 0, none⟩)), (8, .bool false), (17, .bool true), (18, .agg (arr8 a.1)), (19, .agg (arr8 b.1))]) (fun _ => [(b7, Obj.cells (arr8 d.1) 22 (0, 0)), (b6, Obj.cells (arr8 c.1) 22 (0, 0)), (b5, Obj.cells (arr8 b.1) 22 (0, 0)), (b4, Obj.cells (arr8 a.1) 22 (0, 0))]) 7 #[true, true, true, true, true, true, true, true, true, true, true, false, false, false, false, false, false, false] ?_ (fun hmid19 => ?_)
  · -- state [0, 1, 2, 3, 4, 5, 6, 7, 8, 9, 10]
    rintro _ hq
    refine JA.branch [11, 12, 13] (by kernel_rfl) rfl ?_
    refine JAll.cons rfl ?_ ?_
    · -- 11
      refine JO.callV rfl (.yes rfl rfl rfl) rfl Tryd.call23 (fun w1 hw1 => nodeG_any _ _ w1 (hk.old hw1) (hf.old hw1)) ?_
      exact JA.weak rfl (by kernel_rfl) (by exact Keeps.k) (by exact Sub.k) (hmid13 () (by first | assumption | (rw [hgA]; rfl) | (rw [hgA, hgB]; rfl)))
    refine JAll.cons rfl ?_ ?_
    · -- 12
      refine JO.val rfl rfl rfl (.yes rfl rfl rfl) (Ev.lB Tryd.underlying22 Tryd.sizeOf22) ?_
      exact JA.weak rfl (by kernel_rfl) (by exact Keeps.k) (by exact Sub.k) (hmid11 () (by first | assumption | (rw [hgA]; rfl) | (rw [hgA, hgB]; rfl)))
    refine JAll.cons rfl ?_ JAll.nil
    refine JO.val rfl rfl rfl (.yes rfl rfl rfl) (Ev.lB Tryd.underlying22 Tryd.sizeOf22) ?_
    exact JA.weak rfl (by kernel_rfl) (by exact Keeps.k) (by exact Sub.k) (hmid12 () (by first | assumption | (rw [hgA]; rfl) | (rw [hgA, hgB]; rfl)))
  refine JA.mid (X := Unit) (fun _ => (!decide (a.1 = c.1) || !decide (b.1 = d.1)) = true) (fun _ => [(4, .pointer (some ⟨b4, 0, none⟩)), (5, .pointer (some ⟨b5, 0, none⟩)), (6, .pointer (some ⟨b6, 0, none⟩)), (7, .pointer (some ⟨b7, 0, none⟩)), (8, .bool false), (17, .bool true), (21, .agg (arr8 c.1))]) (fun _ => [(b7, Obj.cells (arr8 d.1) 22 (0, 0)), (b6, Obj.cells (arr8 c.1) 22 (0, 0)), (b5, Obj.cells (arr8 b.1) 22 (0, 0)), (b4, Obj.cells (arr8 a.1) 22 (0, 0))]) 8 #[true, true, true, true, true, true, true, true, true, false, false, false, true, false, false, false, false, false] ?_ (fun hmid20 => ?_)
  · -- state [0, 1, 2, 3, 4, 5, 6, 7, 8, 12]
    rintro _ hq
    refine JA.branch [9, 10, 13] (by kernel_rfl) rfl ?_
    refine JAll.cons rfl ?_ ?_
    · -- 9
      refine JO.val rfl rfl rfl (.yes rfl rfl rfl) (Ev.lB Tryd.underlying22 Tryd.sizeOf22) ?_
      exact JA.weak rfl (by kernel_rfl) (by exact Keeps.k) (by exact Sub.k) (hmid15 () (by first | assumption | (rw [hgA]; rfl) | (rw [hgA, hgB]; rfl)))
    refine JAll.cons rfl ?_ ?_
    · -- 10
      refine JO.val rfl rfl rfl (.yes rfl rfl rfl) (Ev.lB Tryd.underlying22 Tryd.sizeOf22) ?_
      exact JA.weak rfl (by kernel_rfl) (by exact Keeps.k) (by exact Sub.k) (hmid17 () (by first | assumption | (rw [hgA]; rfl) | (rw [hgA, hgB]; rfl)))
    refine JAll.cons rfl ?_ JAll.nil
    refine JO.val rfl rfl rfl (.yes rfl rfl rfl) (Ev.lB Tryd.underlying22 Tryd.sizeOf22) ?_
    exact JA.weak rfl (by kernel_rfl) (by exact Keeps.k) (by exact Sub.k) (hmid14 () (by first | assumption | (rw [hgA]; rfl) | (rw [hgA, hgB]; rfl)))
  refine JA.mid (X := Unit) (fun _ => (!decide (a.1 = c.1) || !decide (b.1 = d.1)) = true) (fun _ => [(4, .pointer (some ⟨b4, 0, none⟩)), (5, .pointer (some ⟨b5, 0, none⟩)), (6, .pointer (some ⟨b6, 0, none⟩)), (7, .pointer (some ⟨b7, 0, none⟩)), (8, .bool false), (17, .bool true), (22, .agg (arr8 d.1))]) (fun _ => [(b7, Obj.cells (arr8 d.1) 22 (0, 0)), (b6, Obj.cells (arr8 c.1) 22 (0, 0)), (b5, Obj.cells (arr8 b.1) 22 (0, 0)), (b4, Obj.cells (arr8 a.1) 22 (0, 0))]) 8 #[true, true, true, true, true, true, true, true, true, false, false, false, false, true, false, false, false, false] ?_ (fun hmid21 => ?_)
  · -- state [0, 1, 2, 3, 4, 5, 6, 7, 8, 13]
    rintro _ hq
    refine JA.branch [9, 10, 12] (by kernel_rfl) rfl ?_
    refine JAll.cons rfl ?_ ?_
    · -- 9
      refine JO.val rfl rfl rfl (.yes rfl rfl rfl) (Ev.lB Tryd.underlying22 Tryd.sizeOf22) ?_
      exact JA.weak rfl (by kernel_rfl) (by exact Keeps.k) (by exact Sub.k) (hmid16 () (by first | assumption | (rw [hgA]; rfl) | (rw [hgA, hgB]; rfl)))
    refine JAll.cons rfl ?_ ?_
    · -- 10
      refine JO.val rfl rfl rfl (.yes rfl rfl rfl) (Ev.lB Tryd.underlying22 Tryd.sizeOf22) ?_
      exact JA.weak rfl (by kernel_rfl) (by exact Keeps.k) (by exact Sub.k) (hmid18 () (by first | assumption | (rw [hgA]; rfl) | (rw [hgA, hgB]; rfl)))
    refine JAll.cons rfl ?_ JAll.nil
    refine JO.val rfl rfl rfl (.yes rfl rfl rfl) (Ev.lB Tryd.underlying22 Tryd.sizeOf22) ?_
    exact JA.weak rfl (by kernel_rfl) (by exact Keeps.k) (by exact Sub.k) (hmid14 () (by first | assumption | (rw [hgA]; rfl) | (rw [hgA, hgB]; rfl)))
  refine JA.mid (X := Unit) (fun _ => (!decide (a.1 = c.1) || !decide (b.1 = d.1)) = true) (fun _ => [(4, .pointer (some ⟨b4, 0, none⟩)), (5, .pointer (some ⟨b5, 0, none⟩)), (6, .pointer (some ⟨b6, 0, none⟩)), (7, .pointer (some ⟨b7, 0, none⟩)), (8, .bool false), (17, .bool true), (18, .agg (arr8 a.1))]) (fun _ => [(b7, Obj.cells (arr8 d.1) 22 (0, 0)), (b6, Obj.cells (arr8 c.1) 22 (0, 0)), (b5, Obj.cells (arr8 b.1) 22 (0, 0)), (b4, Obj.cells (arr8 a.1) 22 (0, 0))]) 8 #[true, true, true, true, true, true, true, true, true, true, false, false, false, false, false, false, false, false] ?_ (fun hmid22 => ?_)
  · -- state [0, 1, 2, 3, 4, 5, 6, 7, 8, 9]
    rintro _ hq
    refine JA.branch [10, 12, 13] (by kernel_rfl) rfl ?_
    refine JAll.cons rfl ?_ ?_
    · -- 10
      refine JO.val rfl rfl rfl (.yes rfl rfl rfl) (Ev.lB Tryd.underlying22 Tryd.sizeOf22) ?_
      exact JA.weak rfl (by kernel_rfl) (by exact Keeps.k) (by exact Sub.k) (hmid19 () (by first | assumption | (rw [hgA]; rfl) | (rw [hgA, hgB]; rfl)))
    refine JAll.cons rfl ?_ ?_
    · -- 12
      refine JO.val rfl rfl rfl (.yes rfl rfl rfl) (Ev.lB Tryd.underlying22 Tryd.sizeOf22) ?_
      exact JA.weak rfl (by kernel_rfl) (by exact Keeps.k) (by exact Sub.k) (hmid15 () (by first | assumption | (rw [hgA]; rfl) | (rw [hgA, hgB]; rfl)))
    refine JAll.cons rfl ?_ JAll.nil
    refine JO.val rfl rfl rfl (.yes rfl rfl rfl) (Ev.lB Tryd.underlying22 Tryd.sizeOf22) ?_
    exact JA.weak rfl (by kernel_rfl) (by exact Keeps.k) (by exact Sub.k) (hmid16 () (by first | assumption | (rw [hgA]; rfl) | (rw [hgA, hgB]; rfl)))
  refine JA.mid (X := Unit) (fun _ => (!decide (a.1 = c.1) || !decide (b.1 = d.1)) = true) (fun _ => [(4, .pointer (some ⟨b4, 0, none⟩)), (5, .pointer (some ⟨b5, 0, none⟩)), (6, .pointer (some ⟨b6, 0, none⟩)), (7, .pointer (some ⟨b7, 0, none⟩)), (8, .bool false), (17, .bool true), (19, .agg (arr8 b.1))]) (fun _ => [(b7, Obj.cells (arr8 d.1) 22 (0, 0)), (b6, Obj.cells (arr8 c.1) 22 (0, 0)), (b5, Obj.cells (arr8 b.1) 22 (0, 0)), (b4, Obj.cells (arr8 a.1) 22 (0, 0))]) 8 #[true, true, true, true, true, true, true, true, true, false, true, false, false, false, false, false, false, false] ?_ (fun hmid23 => ?_)
  · -- state [0, 1, 2, 3, 4, 5, 6, 7, 8, 10]
    rintro _ hq
    refine JA.branch [9, 12, 13] (by kernel_rfl) rfl ?_
    refine JAll.cons rfl ?_ ?_
    · -- 9
      refine JO.val rfl rfl rfl (.yes rfl rfl rfl) (Ev.lB Tryd.underlying22 Tryd.sizeOf22) ?_
      exact JA.weak rfl (by kernel_rfl) (by exact Keeps.k) (by exact Sub.k) (hmid19 () (by first | assumption | (rw [hgA]; rfl) | (rw [hgA, hgB]; rfl)))
    refine JAll.cons rfl ?_ ?_
    · -- 12
      refine JO.val rfl rfl rfl (.yes rfl rfl rfl) (Ev.lB Tryd.underlying22 Tryd.sizeOf22) ?_
      exact JA.weak rfl (by kernel_rfl) (by exact Keeps.k) (by exact Sub.k) (hmid17 () (by first | assumption | (rw [hgA]; rfl) | (rw [hgA, hgB]; rfl)))
    refine JAll.cons rfl ?_ JAll.nil
    refine JO.val rfl rfl rfl (.yes rfl rfl rfl) (Ev.lB Tryd.underlying22 Tryd.sizeOf22) ?_
    exact JA.weak rfl (by kernel_rfl) (by exact Keeps.k) (by exact Sub.k) (hmid18 () (by first | assumption | (rw [hgA]; rfl) | (rw [hgA, hgB]; rfl)))
  refine JA.mid (X := Unit) (fun _ => (!decide (a.1 = c.1) || !decide (b.1 = d.1)) = true) (fun _ => [(4, .pointer (some ⟨b4, 0, none⟩)), (5, .pointer (some ⟨b5, 0, none⟩)), (6, .pointer (some ⟨b6, 0, none⟩)), (7, .pointer (some ⟨b7, 0, none⟩)), (8, .bool false), (17, .bool true)]) (fun _ => [(b7, Obj.cells (arr8 d.1) 22 (0, 0)), (b6, Obj.cells (arr8 c.1) 22 (0, 0)), (b5, Obj.cells (arr8 b.1) 22 (0, 0)), (b4, Obj.cells (arr8 a.1) 22 (0, 0))]) 9 #[true, true, true, true, true, true, true, true, true, false, false, false, false, false, false, false, false, false] ?_ (fun hmid24 => ?_)
  · -- state [0, 1, 2, 3, 4, 5, 6, 7, 8]
    rintro _ hq
    refine JA.branch [9, 10, 12, 13] (by kernel_rfl) rfl ?_
    refine JAll.cons rfl ?_ ?_
    · -- 9
      refine JO.val rfl rfl rfl (.yes rfl rfl rfl) (Ev.lB Tryd.underlying22 Tryd.sizeOf22) ?_
      exact JA.weak rfl (by kernel_rfl) (by exact Keeps.k) (by exact Sub.k) (hmid22 () (by first | assumption | (rw [hgA]; rfl) | (rw [hgA, hgB]; rfl)))
    refine JAll.cons rfl ?_ ?_
    · -- 10
      refine JO.val rfl rfl rfl (.yes rfl rfl rfl) (Ev.lB Tryd.underlying22 Tryd.sizeOf22) ?_
      exact JA.weak rfl (by kernel_rfl) (by exact Keeps.k) (by exact Sub.k) (hmid23 () (by first | assumption | (rw [hgA]; rfl) | (rw [hgA, hgB]; rfl)))
    refine JAll.cons rfl ?_ ?_
    · -- 12
      refine JO.val rfl rfl rfl (.yes rfl rfl rfl) (Ev.lB Tryd.underlying22 Tryd.sizeOf22) ?_
      exact JA.weak rfl (by kernel_rfl) (by exact Keeps.k) (by exact Sub.k) (hmid20 () (by first | assumption | (rw [hgA]; rfl) | (rw [hgA, hgB]; rfl)))
    refine JAll.cons rfl ?_ JAll.nil
    refine JO.val rfl rfl rfl (.yes rfl rfl rfl) (Ev.lB Tryd.underlying22 Tryd.sizeOf22) ?_
    exact JA.weak rfl (by kernel_rfl) (by exact Keeps.k) (by exact Sub.k) (hmid21 () (by first | assumption | (rw [hgA]; rfl) | (rw [hgA, hgB]; rfl)))
  refine JA.mid (X := Unit) (fun _ => (!decide (a.1 = c.1) || !decide (b.1 = d.1)) = false) (fun _ => [(4, .pointer (some ⟨b4, 0, none⟩)), (5, .pointer (some ⟨b5, 0, none⟩)), (6, .pointer (some ⟨b6, 0, none⟩)), (7, .pointer (some ⟨b7, 0, none⟩)), (8, .bool false), (17, .bool false), (18, undef), (19, undef), (20, undef), (21, undef), (22, undef), (23, undef)]) (fun _ => [(b7, Obj.cells (arr8 d.1) 22 (0, 0)), (b6, Obj.cells (arr8 c.1) 22 (0, 0)), (b5, Obj.cells (arr8 b.1) 22 (0, 0)), (b4, Obj.cells (arr8 a.1) 22 (0, 0))]) 3 #[true, true, true, true, true, true, true, true, true, true, true, true, true, true, true, false, false, false] ?_ (fun hmid25 => ?_)
  · -- state [0, 1, 2, 3, 4, 5, 6, 7, 8, 9, 10, 11, 12, 13, 14]
    rintro _ hq
    refine JA.skipR 15 (by kernel_rfl) rfl rfl rfl (by kernel_rfl) (by kernel_rfl) (by kernel_rfl) (fun _ _ _ h => h) (fun _ _ => rfl) (.noT rfl rfl rfl) ?_
    refine JA.tk 16 rfl (.none rfl) (fun _ => (Ev.pickF rfl rfl)) ?_
    refine JA.tk 17 rfl (.none rfl) (fun _ => (Ev.assign rfl)) ?_
    refine JA.done (by kernel_rfl) ?_
    refine JQ.thenN ?_
    refine JC.ret ?_
    refine JQ.end1 (H' := []) (.inl rfl) rfl (.tmp rfl) ?_ ?_
    · exact Sub.k
    · exact congrArg Value.bool (by unfold clashR; rw [hq]; rfl)
  refine JA.mid (X := Unit) (fun _ => (!decide (a.1 = c.1) || !decide (b.1 = d.1)) = false) (fun _ => [(4, .pointer (some ⟨b4, 0, none⟩)), (5, .pointer (some ⟨b5, 0, none⟩)), (6, .pointer (some ⟨b6, 0, none⟩)), (7, .pointer (some ⟨b7, 0, none⟩)), (8, .bool false), (17, .bool false), (18, undef), (19, undef), (21, undef), (22, undef), (23, undef)]) (fun _ => [(b7, Obj.cells (arr8 d.1) 22 (0, 0)), (b6, Obj.cells (arr8 c.1) 22 (0, 0)), (b5, Obj.cells (arr8 b.1) 22 (0, 0)), (b4, Obj.cells (arr8 a.1) 22 (0, 0))]) 4 #[true, true, true, true, true, true, true, true, true, true, true, false, true, true, true, false, false, false] ?_ (fun hmid26 => ?_)
  · -- state [0, 1, 2, 3, 4, 5, 6, 7, 8, 9, 10, 12, 13, 14]
    rintro _ hq
    refine JA.one 11 ?_
    refine JO.skip rfl rfl (.noT rfl rfl rfl) ?_
    exact JA.weak rfl (by kernel_rfl) (by exact Keeps.k) (by exact Sub.k) (hmid25 () (by first | assumption | (rw [hgA]; rfl) | (rw [hgA, hgB]; rfl)))
  refine JA.mid (X := Unit) (fun _ => (!decide (a.1 = c.1) || !decide (b.1 = d.1)) = false) (fun _ => [(4, .pointer (some ⟨b4, 0, none⟩)), (5, .pointer (some ⟨b5, 0, none⟩)), (6, .pointer (some ⟨b6, 0, none⟩)), (7, .pointer (some ⟨b7, 0, none⟩)), (8, .bool false), (17, .bool false), (18, undef), (19, undef), (20, undef), (21, undef), (22, undef)]) (fun _ => [(b7, Obj.cells (arr8 d.1) 22 (0, 0)), (b6, Obj.cells (arr8 c.1) 22 (0, 0)), (b5, Obj.cells (arr8 b.1) 22 (0, 0)), (b4, Obj.cells (arr8 a.1) 22 (0, 0))]) 4 #[true, true, true, true, true, true, true, true, true, true, true, true, true, true, false, false, false, false] ?_ (fun hmid27 => ?_)
  · -- state [0, 1, 2, 3, 4, 5, 6, 7, 8, 9, 10, 11, 12, 13]
    rintro _ hq
    refine JA.one 14 ?_
    refine JO.skip rfl rfl (.noT rfl rfl rfl) ?_
    exact JA.weak rfl (by kernel_rfl) (by exact Keeps.k) (by exact Sub.k) (hmid25 () (by first | assumption | (rw [hgA]; rfl) | (rw [hgA, hgB]; rfl)))
  refine JA.mid (X := Unit) (fun _ => (!decide (a.1 = c.1) || !decide (b.1 = d.1)) = false) (fun _ => [(4, .pointer (some ⟨b4, 0, none⟩)), (5, .pointer (some ⟨b5, 0, none⟩)), (6, .pointer (some ⟨b6, 0, none⟩)), (7, .pointer (some ⟨b7, 0, none⟩)), (8, .bool false), (17, .bool false), (18, undef), (21, undef), (22, undef), (23, undef)]) (fun _ => [(b7, Obj.cells (arr8 d.1) 22 (0, 0)), (b6, Obj.cells (arr8 c.1) 22 (0, 0)), (b5, Obj.cells (arr8 b.1) 22 (0, 0)), (b4, Obj.cells (arr8 a.1) 22 (0, 0))]) 5 #[true, true, true, true, true, true, true, true, true, true, false, false, true, true, true, false, false, false] ?_ (fun hmid28 => ?_)
  · -- state [0, 1, 2, 3, 4, 5, 6, 7, 8, 9, 12, 13, 14]
    rintro _ hq
    refine JA.skipR 10 (by kernel_rfl) rfl rfl rfl (by kernel_rfl) (by kernel_rfl) (by kernel_rfl) (fun _ _ _ h => h) (fun _ _ => rfl) (.noT rfl rfl rfl) ?_
    exact JA.weak rfl (by kernel_rfl) (by exact Keeps.k) (by exact Sub.k) (hmid26 () (by first | assumption | (rw [hgA]; rfl) | (rw [hgA, hgB]; rfl)))
  refine JA.mid (X := Unit) (fun _ => (!decide (a.1 = c.1) || !decide (b.1 = d.1)) = false) (fun _ => [(4, .pointer (some ⟨b4, 0, none⟩)), (5, .pointer (some ⟨b5, 0, none⟩)), (6, .pointer (some ⟨b6, 0, none⟩)), (7, .pointer (some ⟨b7, 0, none⟩)), (8, .bool false), (17, .bool false), (19, undef), (21, undef), (22, undef), (23, undef)]) (fun _ => [(b7, Obj.cells (arr8 d.1) 22 (0, 0)), (b6, Obj.cells (arr8 c.1) 22 (0, 0)), (b5, Obj.cells (arr8 b.1) 22 (0, 0)), (b4, Obj.cells (arr8 a.1) 22 (0, 0))]) 5 #[true, true, true, true, true, true, true, true, true, false, true, false, true, true, true, false, false, false] ?_ (fun hmid29 => ?_)
  · -- state [0, 1, 2, 3, 4, 5, 6, 7, 8, 10, 12, 13, 14]
    rintro _ hq
    refine JA.skipR 9 (by kernel_rfl) rfl rfl rfl (by kernel_rfl) (by kernel_rfl) (by kernel_rfl) (fun _ _ _ h => h) (fun _ _ => rfl) (.noT rfl rfl rfl) ?_
    exact JA.weak rfl (by kernel_rfl) (by exact Keeps.k) (by exact Sub.k) (hmid26 () (by first | assumption | (rw [hgA]; rfl) | (rw [hgA, hgB]; rfl)))
  refine JA.mid (X := Unit) (fun _ => (!decide (a.1 = c.1) || !decide (b.1 = d.1)) = false) (fun _ => [(4, .pointer (some ⟨b4, 0, none⟩)), (5, .pointer (some ⟨b5, 0, none⟩)), (6, .pointer (some ⟨b6, 0, none⟩)), (7, .pointer (some ⟨b7, 0, none⟩)), (8, .bool false), (17, .bool false), (18, undef), (19, undef), (21, undef), (22, undef)]) (fun _ => [(b7, Obj.cells (arr8 d.1) 22 (0, 0)), (b6, Obj.cells (arr8 c.1) 22 (0, 0)), (b5, Obj.cells (arr8 b.1) 22 (0, 0)), (b4, Obj.cells (arr8 a.1) 22 (0, 0))]) 5 #[true, true, true, true, true, true, true, true, true, true, true, false, true, true, false, false, false, false] ?_ (fun hmid30 => ?_)
  · -- state [0, 1, 2, 3, 4, 5, 6, 7, 8, 9, 10, 12, 13]
    rintro _ hq
    refine JA.one 11 ?_
    refine JO.skip rfl rfl (.noT rfl rfl rfl) ?_
    exact JA.weak rfl (by kernel_rfl) (by exact Keeps.k) (by exact Sub.k) (hmid27 () (by first | assumption | (rw [hgA]; rfl) | (rw [hgA, hgB]; rfl)))
  refine JA.mid (X := Unit) (fun _ => (!decide (a.1 = c.1) || !decide (b.1 = d.1)) = false) (fun _ => [(4, .pointer (some ⟨b4, 0, none⟩)), (5, .pointer (some ⟨b5, 0, none⟩)), (6, .pointer (some ⟨b6, 0, none⟩)), (7, .pointer (some ⟨b7, 0, none⟩)), (8, .bool false), (17, .bool false), (18, undef), (19, undef), (20, undef), (21, undef)]) (fun _ => [(b7, Obj.cells (arr8 d.1) 22 (0, 0)), (b6, Obj.cells (arr8 c.1) 22 (0, 0)), (b5, Obj.cells (arr8 b.1) 22 (0, 0)), (b4, Obj.cells (arr8 a.1) 22 (0, 0))]) 5 #[true, true, true, true, true, true, true, true, true, true, true, true, true, false, false, false, false, false] ?_ (fun hmid31 => ?_)
  · -- state [0, 1, 2, 3, 4, 5, 6, 7, 8, 9, 10, 11, 12]
    rintro _ hq
    refine JA.skipR 13 (by kernel_rfl) rfl rfl rfl (by kernel_rfl) (by kernel_rfl) (by kernel_rfl) (fun _ _ _ h => h) (fun _ _ => rfl) (.noT rfl rfl rfl) ?_
    exact JA.weak rfl (by kernel_rfl) (by exact Keeps.k) (by exact Sub.k) (hmid27 () (by first | assumption | (rw [hgA]; rfl) | (rw [hgA, hgB]; rfl)))
  refine JA.mid (X := Unit) (fun _ => (!decide (a.1 = c.1) || !decide (b.1 = d.1)) = false) (fun _ => [(4, .pointer (some ⟨b4, 0, none⟩)), (5, .pointer (some ⟨b5, 0, none⟩)), (6, .pointer (some ⟨b6, 0, none⟩)), (7, .pointer (some ⟨b7, 0, none⟩)), (8, .bool false), (17, .bool false), (18, undef), (19, undef), (20, undef), (22, undef)]) (fun _ => [(b7, Obj.cells (arr8 d.1) 22 (0, 0)), (b6, Obj.cells (arr8 c.1) 22 (0, 0)), (b5, Obj.cells (arr8 b.1) 22 (0, 0)), (b4, Obj.cells (arr8 a.1) 22 (0, 0))]) 5 #[true, true, true, true, true, true, true, true, true, true, true, true, false, true, false, false, false, false] ?_ (fun hmid32 => ?_)
  · -- state [0, 1, 2, 3, 4, 5, 6, 7, 8, 9, 10, 11, 13]
    rintro _ hq
    refine JA.skipR 12 (by kernel_rfl) rfl rfl rfl (by kernel_rfl) (by kernel_rfl) (by kernel_rfl) (fun _ _ _ h => h) (fun _ _ => rfl) (.noT rfl rfl rfl) ?_
    exact JA.weak rfl (by kernel_rfl) (by exact Keeps.k) (by exact Sub.k) (hmid27 () (by first | assumption | (rw [hgA]; rfl) | (rw [hgA, hgB]; rfl)))
  refine JA.mid (X := Unit) (fun _ => (!decide (a.1 = c.1) || !decide (b.1 = d.1)) = false) (fun _ => [(4, .pointer (some ⟨b4, 0, none⟩)), (5, .pointer (some ⟨b5, 0, none⟩)), (6, .pointer (some ⟨b6, 0, none⟩)), (7, .pointer (some ⟨b7, 0, none⟩)), (8, .bool false), (17, .bool false), (21, undef), (22, undef), (23, undef)]) (fun _ => [(b7, Obj.cells (arr8 d.1) 22 (0, 0)), (b6, Obj.cells (arr8 c.1) 22 (0, 0)), (b5, Obj.cells (arr8 b.1) 22 (0, 0)), (b4, Obj.cells (arr8 a.1) 22 (0, 0))]) 6 #[true, true, true, true, true, true, true, true, true, false, false, false, true, true, true, false, false, false] ?_ (fun hmid33 => ?_)
  · -- state [0, 1, 2, 3, 4, 5, 6, 7, 8, 12, 13, 14]
    rintro _ hq
    refine JA.skipR 9 (by kernel_rfl) rfl rfl rfl (by kernel_rfl) (by kernel_rfl) (by kernel_rfl) (fun _ _ _ h => h) (fun _ _ => rfl) (.noT rfl rfl rfl) ?_
    exact JA.weak rfl (by kernel_rfl) (by exact Keeps.k) (by exact Sub.k) (hmid28 () (by first | assumption | (rw [hgA]; rfl) | (rw [hgA, hgB]; rfl)))
  refine JA.mid (X := Unit) (fun _ => (!decide (a.1 = c.1) || !decide (b.1 = d.1)) = false) (fun _ => [(4, .pointer (some ⟨b4, 0, none⟩)), (5, .pointer (some ⟨b5, 0, none⟩)), (6, .pointer (some ⟨b6, 0, none⟩)), (7, .pointer (some ⟨b7, 0, none⟩)), (8, .bool false), (17, .bool false), (18, undef), (21, undef), (22, undef)]) (fun _ => [(b7, Obj.cells (arr8 d.1) 22 (0, 0)), (b6, Obj.cells (arr8 c.1) 22 (0, 0)), (b5, Obj.cells (arr8 b.1) 22 (0, 0)), (b4, Obj.cells (arr8 a.1) 22 (0, 0))]) 6 #[true, true, true, true, true, true, true, true, true, true, false, false, true, true, false, false, false, false] ?_ (fun hmid34 => ?_)
  · -- state [0, 1, 2, 3, 4, 5, 6, 7, 8, 9, 12, 13]
    rintro _ hq
    refine JA.skipR 10 (by kernel_rfl) rfl rfl rfl (by kernel_rfl) (by kernel_rfl) (by kernel_rfl) (fun _ _ _ h => h) (fun _ _ => rfl) (.noT rfl rfl rfl) ?_
    exact JA.weak rfl (by kernel_rfl) (by exact Keeps.k) (by exact Sub.k) (hmid30 () (by first | assumption | (rw [hgA]; rfl) | (rw [hgA, hgB]; rfl)))
  refine JA.mid (X := Unit) (fun _ => (!decide (a.1 = c.1) || !decide (b.1 = d.1)) = false) (fun _ => [(4, .pointer (some ⟨b4, 0, none⟩)), (5, .pointer (some ⟨b5, 0, none⟩)), (6, .pointer (some ⟨b6, 0, none⟩)), (7, .pointer (some ⟨b7, 0, none⟩)), (8, .bool false), (17, .bool false), (19, undef), (21, undef), (22, undef)]) (fun _ => [(b7, Obj.cells (arr8 d.1) 22 (0, 0)), (b6, Obj.cells (arr8 c.1) 22 (0, 0)), (b5, Obj.cells (arr8 b.1) 22 (0, 0)), (b4, Obj.cells (arr8 a.1) 22 (0, 0))]) 6 #[true, true, true, true, true, true, true, true, true, false, true, false, true, true, false, false, false, false] ?_ (fun hmid35 => ?_)
  · -- state [0, 1, 2, 3, 4, 5, 6, 7, 8, 10, 12, 13]
    rintro _ hq
    refine JA.skipR 9 (by kernel_rfl) rfl rfl rfl (by kernel_rfl) (by kernel_rfl) (by kernel_rfl) (fun _ _ _ h => h) (fun _ _ => rfl) (.noT rfl rfl rfl) ?_
    exact JA.weak rfl (by kernel_rfl) (by exact Keeps.k) (by exact Sub.k) (hmid30 () (by first | assumption | (rw [hgA]; rfl) | (rw [hgA, hgB]; rfl)))
  refine JA.mid (X := Unit) (fun _ => (!decide (a.1 = c.1) || !decide (b.1 = d.1)) = false) (fun _ => [(4, .pointer (some ⟨b4, 0, none⟩)), (5, .pointer (some ⟨b5, 0, none⟩)), (6, .pointer (some ⟨b6, 0, none⟩)), (7, .pointer (some ⟨b7, 0, none⟩)), (8, .bool false), (17, .bool false), (18, undef), (19, undef), (21, undef)]) (fun _ => [(b7, Obj.cells (arr8 d.1) 22 (0, 0)), (b6, Obj.cells (arr8 c.1) 22 (0, 0)), (b5, Obj.cells (arr8 b.1) 22 (0, 0)), (b4, Obj.cells (arr8 a.1) 22 (0, 0))]) 6 #[true, true, true, true, true, true, true, true, true, true, true, false, true, false, false, false, false, false] ?_ (fun hmid36 => ?_)
  · -- state [0, 1, 2, 3, 4, 5, 6, 7, 8, 9, 10, 12]
    rintro _ hq
    refine JA.skipR 13 (by kernel_rfl) rfl rfl rfl (by kernel_rfl) (by kernel_rfl) (by kernel_rfl) (fun _ _ _ h => h) (fun _ _ => rfl) (.noT rfl rfl rfl) ?_
    exact JA.weak rfl (by kernel_rfl) (by exact Keeps.k) (by exact Sub.k) (hmid30 () (by first | assumption | (rw [hgA]; rfl) | (rw [hgA, hgB]; rfl)))
  refine JA.mid (X := Unit) (fun _ => (!decide (a.1 = c.1) || !decide (b.1 = d.1)) = false) (fun _ => [(4, .pointer (some ⟨b4, 0, none⟩)), (5, .pointer (some ⟨b5, 0, none⟩)), (6, .pointer (some ⟨b6, 0, none⟩)), (7, .pointer (some ⟨b7, 0, none⟩)), (8, .bool false), (17, .bool false), (18, undef), (19, undef), (22, undef)]) (fun _ => [(b7, Obj.cells (arr8 d.1) 22 (0, 0)), (b6, Obj.cells (arr8 c.1) 22 (0, 0)), (b5, Obj.cells (arr8 b.1) 22 (0, 0)), (b4, Obj.cells (arr8 a.1) 22 (0, 0))]) 6 #[true, true, true, true, true, true, true, true, true, true, true, false, false, true, false, false, false, false] ?_ (fun hmid37 => ?_)
  · -- state [0, 1, 2, 3, 4, 5, 6, 7, 8, 9, 10, 13]
    rintro _ hq
    refine JA.skipR 12 (by kernel_rfl) rfl rfl rfl (by kernel_rfl) (by kernel_rfl) (by kernel_rfl) (fun _ _ _ h => h) (fun _ _ => rfl) (.noT rfl rfl rfl) ?_
    exact JA.weak rfl (by kernel_rfl) (by exact Keeps.k) (by exact Sub.k) (hmid30 () (by first | assumption | (rw [hgA]; rfl) | (rw [hgA, hgB]; rfl)))
  refine JA.mid (X := Unit) (fun _ => (!decide (a.1 = c.1) || !decide (b.1 = d.1)) = false) (fun _ => [(4, .pointer (some ⟨b4, 0, none⟩)), (5, .pointer (some ⟨b5, 0, none⟩)), (6, .pointer (some ⟨b6, 0, none⟩)), (7, .pointer (some ⟨b7, 0, none⟩)), (8, .bool false), (17, .bool false), (18, undef), (19, undef), (20, undef)]) (fun _ => [(b7, Obj.cells (arr8 d.1) 22 (0, 0)), (b6, Obj.cells (arr8 c.1) 22 (0, 0)), (b5, Obj.cells (arr8 b.1) 22 (0, 0)), (b4, Obj.cells (arr8 a.1) 22 (0, 0))]) 6 #[true, true, true, true, true, true, true, true, true, true, true, true, false, false, false, false, false, false] ?_ (fun hmid38 => ?_)
  · -- state [0, 1, 2, 3, 4, 5, 6, 7, 8, 9, 10, 11]
    rintro _ hq
    refine JA.skipR 12 (by kernel_rfl) rfl rfl rfl (by kernel_rfl) (by kernel_rfl) (by kernel_rfl) (fun _ _ _ h => h) (fun _ _ => rfl) (.noT rfl rfl rfl) ?_
    exact JA.weak rfl (by kernel_rfl) (by exact Keeps.k) (by exact Sub.k) (hmid31 () (by first | assumption | (rw [hgA]; rfl) | (rw [hgA, hgB]; rfl)))
  refine JA.mid (X := Unit) (fun _ => (!decide (a.1 = c.1) || !decide (b.1 = d.1)) = false) (fun _ => [(4, .pointer (some ⟨b4, 0, none⟩)), (5, .pointer (some ⟨b5, 0, none⟩)), (6, .pointer (some ⟨b6, 0, none⟩)), (7, .pointer (some ⟨b7, 0, none⟩)), (8, .bool false), (17, .bool false), (21, undef), (22, undef)]) (fun _ => [(b7, Obj.cells (arr8 d.1) 22 (0, 0)), (b6, Obj.cells (arr8 c.1) 22 (0, 0)), (b5, Obj.cells (arr8 b.1) 22 (0, 0)), (b4, Obj.cells (arr8 a.1) 22 (0, 0))]) 7 #[true, true, true, true, true, true, true, true, true, false, false, false, true, true, false, false, false, false] ?_ (fun hmid39 => ?_)
  · -- state [0, 1, 2, 3, 4, 5, 6, 7, 8, 12, 13]
    rintro _ hq
    refine JA.skipR 9 (by kernel_rfl) rfl rfl rfl (by kernel_rfl) (by kernel_rfl) (by kernel_rfl) (fun _ _ _ h => h) (fun _ _ => rfl) (.noT rfl rfl rfl) ?_
    exact JA.weak rfl (by kernel_rfl) (by exact Keeps.k) (by exact Sub.k) (hmid34 () (by first | assumption | (rw [hgA]; rfl) | (rw [hgA, hgB]; rfl)))
  refine JA.mid (X := Unit) (fun _ => (!decide (a.1 = c.1) || !decide (b.1 = d.1)) = false) (fun _ => [(4, .pointer (some ⟨b4, 0, none⟩)), (5, .pointer (some ⟨b5, 0, none⟩)), (6, .pointer (some ⟨b6, 0, none⟩)), (7, .pointer (some ⟨b7, 0, none⟩)), (8, .bool false), (17, .bool false), (18, undef), (21, undef)]) (fun _ => [(b7, Obj.cells (arr8 d.1) 22 (0, 0)), (b6, Obj.cells (arr8 c.1) 22 (0, 0)), (b5, Obj.cells (arr8 b.1) 22 (0, 0)), (b4, Obj.cells (arr8 a.1) 22 (0, 0))]) 7 #[true, true, true, true, true, true, true, true, true, true, false, false, true, false, false, false, false, false] ?_ (fun hmid40 => ?_)
  · -- state [0, 1, 2, 3, 4, 5, 6, 7, 8, 9, 12]
    rintro _ hq
    refine JA.skipR 10 (by kernel_rfl) rfl rfl rfl (by kernel_rfl) (by kernel_rfl) (by kernel_rfl) (fun _ _ _ h => h) (fun _ _ => rfl) (.noT rfl rfl rfl) ?_
    exact JA.weak rfl (by kernel_rfl) (by exact Keeps.k) (by exact Sub.k) (hmid36 () (by first | assumption | (rw [hgA]; rfl) | (rw [hgA, hgB]; rfl)))
  refine JA.mid (X := Unit) (fun _ => (!decide (a.1 = c.1) || !decide (b.1 = d.1)) = false) (fun _ => [(4, .pointer (some ⟨b4, 0, none⟩)), (5, .pointer (some ⟨b5, 0, none⟩)), (6, .pointer (some ⟨b6, 0, none⟩)), (7, .pointer (some ⟨b7, 0, none⟩)), (8, .bool false), (17, .bool false), (18, undef), (22, undef)]) (fun _ => [(b7, Obj.cells (arr8 d.1) 22 (0, 0)), (b6, Obj.cells (arr8 c.1) 22 (0, 0)), (b5, Obj.cells (arr8 b.1) 22 (0, 0)), (b4, Obj.cells (arr8 a.1) 22 (0, 0))]) 7 #[true, true, true, true, true, true, true, true, true, true, false, false, false, true, false, false, false, false] ?_ (fun hmid41 => ?_)
  · -- state [0, 1, 2, 3, 4, 5, 6, 7, 8, 9, 13]
    rintro _ hq
    refine JA.skipR 10 (by kernel_rfl) rfl rfl rfl (by kernel_rfl) (by kernel_rfl) (by kernel_rfl) (fun _ _ _ h => h) (fun _ _ => rfl) (.noT rfl rfl rfl) ?_
    exact JA.weak rfl (by kernel_rfl) (by exact Keeps.k) (by exact Sub.k) (hmid37 () (by first | assumption | (rw [hgA]; rfl) | (rw [hgA, hgB]; rfl)))
  refine JA.mid (X := Unit) (fun _ => (!decide (a.1 = c.1) || !decide (b.1 = d.1)) = false) (fun _ => [(4, .pointer (some ⟨b4, 0, none⟩)), (5, .pointer (some ⟨b5, 0, none⟩)), (6, .pointer (some ⟨b6, 0, none⟩)), (7, .pointer (some ⟨b7, 0, none⟩)), (8, .bool false), (17, .bool false), (19, undef), (21, undef)]) (fun _ => [(b7, Obj.cells (arr8 d.1) 22 (0, 0)), (b6, Obj.cells (arr8 c.1) 22 (0, 0)), (b5, Obj.cells (arr8 b.1) 22 (0, 0)), (b4, Obj.cells (arr8 a.1) 22 (0, 0))]) 7 #[true, true, true, true, true, true, true, true, true, false, true, false, true, false, false, false, false, false] ?_ (fun hmid42 => ?_)
  · -- state [0, 1, 2, 3, 4, 5, 6, 7, 8, 10, 12]
    rintro _ hq
    refine JA.skipR 9 (by kernel_rfl) rfl rfl rfl (by kernel_rfl) (by kernel_rfl) (by kernel_rfl) (fun _ _ _ h => h) (fun _ _ => rfl) (.noT rfl rfl rfl) ?_
    exact JA.weak rfl (by kernel_rfl) (by exact Keeps.k) (by exact Sub.k) (hmid36 () (by first | assumption | (rw [hgA]; rfl) | (rw [hgA, hgB]; rfl)))
  refine JA.mid (X := Unit) (fun _ => (!decide (a.1 = c.1) || !decide (b.1 = d.1)) = false) (fun _ => [(4, .pointer (some ⟨b4, 0, none⟩)), (5, .pointer (some ⟨b5, 0, none⟩)), (6, .pointer (some ⟨b6, 0, none⟩)), (7, .pointer (some ⟨b7, 0, none⟩)), (8, .bool false), (17, .bool false), (19, undef), (22, undef)]) (fun _ => [(b7, Obj.cells (arr8 d.1) 22 (0, 0)), (b6, Obj.cells (arr8 c.1) 22 (0, 0)), (b5, Obj.cells (arr8 b.1) 22 (0, 0)), (b4, Obj.cells (arr8 a.1) 22 (0, 0))]) 7 #[true, true, true, true, true, true, true, true, true, false, true, false, false, true, false, false, false, false] ?_ (fun hmid43 => ?_)
  · -- state [0, 1, 2, 3, 4, 5, 6, 7, 8, 10, 13]
    rintro _ hq
    refine JA.skipR 9 (by kernel_rfl) rfl rfl rfl (by kernel_rfl) (by kernel_rfl) (by kernel_rfl) (fun _ _ _ h => h) (fun _ _ => rfl) (.noT rfl rfl rfl) ?_
    exact JA.weak rfl (by kernel_rfl) (by exact Keeps.k) (by exact Sub.k) (hmid37 () (by first | assumption | (rw [hgA]; rfl) | (rw [hgA, hgB]; rfl)))
  refine JA.mid (X := Unit) (fun _ => (!decide (a.1 = c.1) || !decide (b.1 = d.1)) = false) (fun _ => [(4, .pointer (some ⟨b4, 0, none⟩)), (5, .pointer (some ⟨b5, 0, none⟩)), (6, .pointer (some ⟨b6, 0, none⟩)), (7, .pointer (some ⟨b7, 0, none⟩)), (8, .bool false), (17, .bool false), (18, undef), (19, undef)]) (fun _ => [(b7, Obj.cells (arr8 d.1) 22 (0, 0)), (b6, Obj.cells (arr8 c.1) 22 (0, 0)), (b5, Obj.cells (arr8 b.1) 22 (0, 0)), (b4, Obj.cells (arr8 a.1) 22 (0, 0))]) 7 #[true, true, true, true, true, true, true, true, true, true, true, false, false, false, false, false, false, false] ?_ (fun hmid44 => ?_)
  · -- state [0, 1, 2, 3, 4, 5, 6, 7, 8, 9, 10]
    rintro _ hq
    refine JA.skipR 12 (by kernel_rfl) rfl rfl rfl (by kernel_rfl) (by kernel_rfl) (by kernel_rfl) (fun _ _ _ h => h) (fun _ _ => rfl) (.noT rfl rfl rfl) ?_
    exact JA.weak rfl (by kernel_rfl) (by exact Keeps.k) (by exact Sub.k) (hmid36 () (by first | assumption | (rw [hgA]; rfl) | (rw [hgA, hgB]; rfl)))
  refine JA.mid (X := Unit) (fun _ => (!decide (a.1 = c.1) || !decide (b.1 = d.1)) = false) (fun _ => [(4, .pointer (some ⟨b4, 0, none⟩)), (5, .pointer (some ⟨b5, 0, none⟩)), (6, .pointer (some ⟨b6, 0, none⟩)), (7, .pointer (some ⟨b7, 0, none⟩)), (8, .bool false), (17, .bool false), (21, undef)]) (fun _ => [(b7, Obj.cells (arr8 d.1) 22 (0, 0)), (b6, Obj.cells (arr8 c.1) 22 (0, 0)), (b5, Obj.cells (arr8 b.1) 22 (0, 0)), (b4, Obj.cells (arr8 a.1) 22 (0, 0))]) 8 #[true, true, true, true, true, true, true, true, true, false, false, false, true, false, false, false, false, false] ?_ (fun hmid45 => ?_)
  · -- state [0, 1, 2, 3, 4, 5, 6, 7, 8, 12]
    rintro _ hq
    refine JA.skipR 9 (by kernel_rfl) rfl rfl rfl (by kernel_rfl) (by kernel_rfl) (by kernel_rfl) (fun _ _ _ h => h) (fun _ _ => rfl) (.noT rfl rfl rfl) ?_
    exact JA.weak rfl (by kernel_rfl) (by exact Keeps.k) (by exact Sub.k) (hmid40 () (by first | assumption | (rw [hgA]; rfl) | (rw [hgA, hgB]; rfl)))
  refine JA.mid (X := Unit) (fun _ => (!decide (a.1 = c.1) || !decide (b.1 = d.1)) = false) (fun _ => [(4, .pointer (some ⟨b4, 0, none⟩)), (5, .pointer (some ⟨b5, 0, none⟩)), (6, .pointer (some ⟨b6, 0, none⟩)), (7, .pointer (some ⟨b7, 0, none⟩)), (8, .bool false), (17, .bool false), (22, undef)]) (fun _ => [(b7, Obj.cells (arr8 d.1) 22 (0, 0)), (b6, Obj.cells (arr8 c.1) 22 (0, 0)), (b5, Obj.cells (arr8 b.1) 22 (0, 0)), (b4, Obj.cells (arr8 a.1) 22 (0, 0))]) 8 #[true, true, true, true, true, true, true, true, true, false, false, false, false, true, false, false, false, false] ?_ (fun hmid46 => ?_)
  · -- state [0, 1, 2, 3, 4, 5, 6, 7, 8, 13]
    rintro _ hq
    refine JA.skipR 9 (by kernel_rfl) rfl rfl rfl (by kernel_rfl) (by kernel_rfl) (by kernel_rfl) (fun _ _ _ h => h) (fun _ _ => rfl) (.noT rfl rfl rfl) ?_
    exact JA.weak rfl (by kernel_rfl) (by exact Keeps.k) (by exact Sub.k) (hmid41 () (by first | assumption | (rw [hgA]; rfl) | (rw [hgA, hgB]; rfl)))
  refine JA.mid (X := Unit) (fun _ => (!decide (a.1 = c.1) || !decide (b.1 = d.1)) = false) (fun _ => [(4, .pointer (some ⟨b4, 0, none⟩)), (5, .pointer (some ⟨b5, 0, none⟩)), (6, .pointer (some ⟨b6, 0, none⟩)), (7, .pointer (some ⟨b7, 0, none⟩)), (8, .bool false), (17, .bool false), (18, undef)]) (fun _ => [(b7, Obj.cells (arr8 d.1) 22 (0, 0)), (b6, Obj.cells (arr8 c.1) 22 (0, 0)), (b5, Obj.cells (arr8 b.1) 22 (0, 0)), (b4, Obj.cells (arr8 a.1) 22 (0, 0))]) 8 #[true, true, true, true, true, true, true, true, true, true, false, false, false, false, false, false, false, false] ?_ (fun hmid47 => ?_)
  · -- state [0, 1, 2, 3, 4, 5, 6, 7, 8, 9]
    rintro _ hq
    refine JA.skipR 10 (by kernel_rfl) rfl rfl rfl (by kernel_rfl) (by kernel_rfl) (by kernel_rfl) (fun _ _ _ h => h) (fun _ _ => rfl) (.noT rfl rfl rfl) ?_
    exact JA.weak rfl (by kernel_rfl) (by exact Keeps.k) (by exact Sub.k) (hmid44 () (by first | assumption | (rw [hgA]; rfl) | (rw [hgA, hgB]; rfl)))
  refine JA.mid (X := Unit) (fun _ => (!decide (a.1 = c.1) || !decide (b.1 = d.1)) = false) (fun _ => [(4, .pointer (some ⟨b4, 0, none⟩)), (5, .pointer (some ⟨b5, 0, none⟩)), (6, .pointer (some ⟨b6, 0, none⟩)), (7, .pointer (some ⟨b7, 0, none⟩)), (8, .bool false), (17, .bool false), (19, undef)]) (fun _ => [(b7, Obj.cells (arr8 d.1) 22 (0, 0)), (b6, Obj.cells (arr8 c.1) 22 (0, 0)), (b5, Obj.cells (arr8 b.1) 22 (0, 0)), (b4, Obj.cells (arr8 a.1) 22 (0, 0))]) 8 #[true, true, true, true, true, true, true, true, true, false, true, false, false, false, false, false, false, false] ?_ (fun hmid48 => ?_)
  · -- state [0, 1, 2, 3, 4, 5, 6, 7, 8, 10]
    rintro _ hq
    refine JA.skipR 9 (by kernel_rfl) rfl rfl rfl (by kernel_rfl) (by kernel_rfl) (by kernel_rfl) (fun _ _ _ h => h) (fun _ _ => rfl) (.noT rfl rfl rfl) ?_
    exact JA.weak rfl (by kernel_rfl) (by exact Keeps.k) (by exact Sub.k) (hmid44 () (by first | assumption | (rw [hgA]; rfl) | (rw [hgA, hgB]; rfl)))
  refine JA.mid (X := Unit) (fun _ => (!decide (a.1 = c.1) || !decide (b.1 = d.1)) = false) (fun _ => [(4, .pointer (some ⟨b4, 0, none⟩)), (5, .pointer (some ⟨b5, 0, none⟩)), (6, .pointer (some ⟨b6, 0, none⟩)), (7, .pointer (some ⟨b7, 0, none⟩)), (8, .bool false), (17, .bool false)]) (fun _ => [(b7, Obj.cells (arr8 d.1) 22 (0, 0)), (b6, Obj.cells (arr8 c.1) 22 (0, 0)), (b5, Obj.cells (arr8 b.1) 22 (0, 0)), (b4, Obj.cells (arr8 a.1) 22 (0, 0))]) 9 #[true, true, true, true, true, true, true, true, true, false, false, false, false, false, false, false, false, false] ?_ (fun hmid49 => ?_)
  · -- state [0, 1, 2, 3, 4, 5, 6, 7, 8]
    rintro _ hq
    refine JA.skipR 9 (by kernel_rfl) rfl rfl rfl (by kernel_rfl) (by kernel_rfl) (by kernel_rfl) (fun _ _ _ h => h) (fun _ _ => rfl) (.noT rfl rfl rfl) ?_
    exact JA.weak rfl (by kernel_rfl) (by exact Keeps.k) (by exact Sub.k) (hmid47 () (by first | assumption | (rw [hgA]; rfl) | (rw [hgA, hgB]; rfl)))
  refine JA.branch [0, 1] (by kernel_rfl) rfl ?_
  refine JAll.cons rfl ?_ ?_
  · -- 0
    refine JO.val rfl rfl rfl (.none rfl) (Ev.lB Tryd.underlying22 Tryd.sizeOf22) ?_
    refine JA.one 1 ?_
    refine JO.val rfl rfl rfl (.none rfl) (Ev.lB Tryd.underlying22 Tryd.sizeOf22) ?_
    refine JA.tk 2 rfl (.none rfl) (fun _ => (Ev.bin rfl rfl (neq_arr8 (n := 32) Tryd.underlying22 Tryd.underlying5 (by kernel_rfl) (by kernel_rfl) (by first | rfl | exact dig_len _ | assumption | exact sha_length _ | exact shaO_length _) (by first | rfl | exact dig_len _ | assumption | exact sha_length _ | exact shaO_length _)))) ?_
    refine JA.tk 3 rfl (.none rfl) (fun _ => (Ev.move rfl)) ?_
    refine JA.split (d := 12) rfl (fun hgA => ?_) (fun hgA => ?_)
    · -- guard 12 true
      refine JA.skipR 4 (by kernel_rfl) rfl rfl rfl (by kernel_rfl) (by kernel_rfl) (by kernel_rfl) (fun _ _ _ h => h) (fun _ _ => rfl) (.noF rfl rfl rfl) ?_
      refine JA.skipR 5 (by kernel_rfl) rfl rfl rfl (by kernel_rfl) (by kernel_rfl) (by kernel_rfl) (fun _ _ _ h => h) (fun _ _ => rfl) (.noF rfl rfl rfl) ?_
      refine JA.skipR 6 (by kernel_rfl) rfl rfl rfl (by kernel_rfl) (by kernel_rfl) (by kernel_rfl) (fun _ _ _ h => h) (fun _ _ => rfl) (.noF rfl rfl rfl) ?_
      refine JA.tk 7 rfl (.none rfl) (fun _ => (Ev.pickT rfl rfl)) ?_
      refine JA.tk 8 rfl (.none rfl) (fun _ => (Ev.move rfl)) ?_
      exact JA.weak rfl (by kernel_rfl) (by exact Keeps.k) (by exact Sub.k) (hmid24 () (by first | assumption | (rw [hgA]; rfl) | (rw [hgA, hgB]; rfl)))
    · -- guard 12 false
      refine JA.branch [4, 5] (by kernel_rfl) rfl ?_
      refine JAll.cons rfl ?_ ?_
      · -- 4
        refine JO.val rfl rfl rfl (.yes rfl rfl rfl) (Ev.lB Tryd.underlying22 Tryd.sizeOf22) ?_
        refine JA.one 5 ?_
        refine JO.val rfl rfl rfl (.yes rfl rfl rfl) (Ev.lB Tryd.underlying22 Tryd.sizeOf22) ?_
        refine JA.tk 6 rfl (.yes rfl rfl rfl) (fun _ => (Ev.bin rfl rfl (neq_arr8 (n := 32) Tryd.underlying22 Tryd.underlying5 (by kernel_rfl) (by kernel_rfl) (by first | rfl | exact dig_len _ | assumption | exact sha_length _ | exact shaO_length _) (by first | rfl | exact dig_len _ | assumption | exact sha_length _ | exact shaO_length _)))) ?_
        refine JA.tk 7 rfl (.none rfl) (fun _ => (Ev.pickF rfl rfl)) ?_
        refine JA.tk 8 rfl (.none rfl) (fun _ => (Ev.move rfl)) ?_
        refine JA.split (d := 17) rfl (fun hgB => ?_) (fun hgB => ?_)
        · -- guard 17 true
          exact JA.weak rfl (by kernel_rfl) (by exact Keeps.k) (by exact Sub.k) (hmid24 () (by first | assumption | (rw [hgA]; rfl) | (rw [hgA, hgB]; rfl)))
        · -- guard 17 false
          exact JA.weak rfl (by kernel_rfl) (by exact Keeps.k) (by exact Sub.k) (hmid49 () (by first | assumption | (rw [hgA]; rfl) | (rw [hgA, hgB]; rfl)))
      refine JAll.cons rfl ?_ JAll.nil
      refine JO.val rfl rfl rfl (.yes rfl rfl rfl) (Ev.lB Tryd.underlying22 Tryd.sizeOf22) ?_
      refine JA.one 4 ?_
      refine JO.val rfl rfl rfl (.yes rfl rfl rfl) (Ev.lB Tryd.underlying22 Tryd.sizeOf22) ?_
      refine JA.tk 6 rfl (.yes rfl rfl rfl) (fun _ => (Ev.bin rfl rfl (neq_arr8 (n := 32) Tryd.underlying22 Tryd.underlying5 (by kernel_rfl) (by kernel_rfl) (by first | rfl | exact dig_len _ | assumption | exact sha_length _ | exact shaO_length _) (by first | rfl | exact dig_len _ | assumption | exact sha_length _ | exact shaO_length _)))) ?_
      refine JA.tk 7 rfl (.none rfl) (fun _ => (Ev.pickF rfl rfl)) ?_
      refine JA.tk 8 rfl (.none rfl) (fun _ => (Ev.move rfl)) ?_
      refine JA.split (d := 17) rfl (fun hgB => ?_) (fun hgB => ?_)
      · -- guard 17 true
        exact JA.weak rfl (by kernel_rfl) (by exact Keeps.k) (by exact Sub.k) (hmid24 () (by first | assumption | (rw [hgA]; rfl) | (rw [hgA, hgB]; rfl)))
      · -- guard 17 false
        exact JA.weak rfl (by kernel_rfl) (by exact Keeps.k) (by exact Sub.k) (hmid49 () (by first | assumption | (rw [hgA]; rfl) | (rw [hgA, hgB]; rfl)))
  refine JAll.cons rfl ?_ JAll.nil
  refine JO.val rfl rfl rfl (.none rfl) (Ev.lB Tryd.underlying22 Tryd.sizeOf22) ?_
  refine JA.one 0 ?_
  refine JO.val rfl rfl rfl (.none rfl) (Ev.lB Tryd.underlying22 Tryd.sizeOf22) ?_
  refine JA.tk 2 rfl (.none rfl) (fun _ => (Ev.bin rfl rfl (neq_arr8 (n := 32) Tryd.underlying22 Tryd.underlying5 (by kernel_rfl) (by kernel_rfl) (by first | rfl | exact dig_len _ | assumption | exact sha_length _ | exact shaO_length _) (by first | rfl | exact dig_len _ | assumption | exact sha_length _ | exact shaO_length _)))) ?_
  refine JA.tk 3 rfl (.none rfl) (fun _ => (Ev.move rfl)) ?_
  refine JA.split (d := 12) rfl (fun hgA => ?_) (fun hgA => ?_)
  · -- guard 12 true
    refine JA.skipR 4 (by kernel_rfl) rfl rfl rfl (by kernel_rfl) (by kernel_rfl) (by kernel_rfl) (fun _ _ _ h => h) (fun _ _ => rfl) (.noF rfl rfl rfl) ?_
    refine JA.skipR 5 (by kernel_rfl) rfl rfl rfl (by kernel_rfl) (by kernel_rfl) (by kernel_rfl) (fun _ _ _ h => h) (fun _ _ => rfl) (.noF rfl rfl rfl) ?_
    refine JA.skipR 6 (by kernel_rfl) rfl rfl rfl (by kernel_rfl) (by kernel_rfl) (by kernel_rfl) (fun _ _ _ h => h) (fun _ _ => rfl) (.noF rfl rfl rfl) ?_
    refine JA.tk 7 rfl (.none rfl) (fun _ => (Ev.pickT rfl rfl)) ?_
    refine JA.tk 8 rfl (.none rfl) (fun _ => (Ev.move rfl)) ?_
    exact JA.weak rfl (by kernel_rfl) (by exact Keeps.k) (by exact Sub.k) (hmid24 () (by first | assumption | (rw [hgA]; rfl) | (rw [hgA, hgB]; rfl)))
  · -- guard 12 false
    refine JA.branch [4, 5] (by kernel_rfl) rfl ?_
    refine JAll.cons rfl ?_ ?_
    · -- 4
      refine JO.val rfl rfl rfl (.yes rfl rfl rfl) (Ev.lB Tryd.underlying22 Tryd.sizeOf22) ?_
      refine JA.one 5 ?_
      refine JO.val rfl rfl rfl (.yes rfl rfl rfl) (Ev.lB Tryd.underlying22 Tryd.sizeOf22) ?_
      refine JA.tk 6 rfl (.yes rfl rfl rfl) (fun _ => (Ev.bin rfl rfl (neq_arr8 (n := 32) Tryd.underlying22 Tryd.underlying5 (by kernel_rfl) (by kernel_rfl) (by first | rfl | exact dig_len _ | assumption | exact sha_length _ | exact shaO_length _) (by first | rfl | exact dig_len _ | assumption | exact sha_length _ | exact shaO_length _)))) ?_
      refine JA.tk 7 rfl (.none rfl) (fun _ => (Ev.pickF rfl rfl)) ?_
      refine JA.tk 8 rfl (.none rfl) (fun _ => (Ev.move rfl)) ?_
      refine JA.split (d := 17) rfl (fun hgB => ?_) (fun hgB => ?_)
      · -- guard 17 true
        exact JA.weak rfl (by kernel_rfl) (by exact Keeps.k) (by exact Sub.k) (hmid24 () (by first | assumption | (rw [hgA]; rfl) | (rw [hgA, hgB]; rfl)))
      · -- guard 17 false
        exact JA.weak rfl (by kernel_rfl) (by exact Keeps.k) (by exact Sub.k) (hmid49 () (by first | assumption | (rw [hgA]; rfl) | (rw [hgA, hgB]; rfl)))
    refine JAll.cons rfl ?_ JAll.nil
    refine JO.val rfl rfl rfl (.yes rfl rfl rfl) (Ev.lB Tryd.underlying22 Tryd.sizeOf22) ?_
    refine JA.one 4 ?_
    refine JO.val rfl rfl rfl (.yes rfl rfl rfl) (Ev.lB Tryd.underlying22 Tryd.sizeOf22) ?_
    refine JA.tk 6 rfl (.yes rfl rfl rfl) (fun _ => (Ev.bin rfl rfl (neq_arr8 (n := 32) Tryd.underlying22 Tryd.underlying5 (by kernel_rfl) (by kernel_rfl) (by first | rfl | exact dig_len _ | assumption | exact sha_length _ | exact shaO_length _) (by first | rfl | exact dig_len _ | assumption | exact sha_length _ | exact shaO_length _)))) ?_
    refine JA.tk 7 rfl (.none rfl) (fun _ => (Ev.pickF rfl rfl)) ?_
    refine JA.tk 8 rfl (.none rfl) (fun _ => (Ev.move rfl)) ?_
    refine JA.split (d := 17) rfl (fun hgB => ?_) (fun hgB => ?_)
    · -- guard 17 true
      exact JA.weak rfl (by kernel_rfl) (by exact Keeps.k) (by exact Sub.k) (hmid24 () (by first | assumption | (rw [hgA]; rfl) | (rw [hgA, hgB]; rfl)))
    · -- guard 17 false
      exact JA.weak rfl (by kernel_rfl) (by exact Keeps.k) (by exact Sub.k) (hmid49 () (by first | assumption | (rw [hgA]; rfl) | (rw [hgA, hgB]; rfl)))

end Go.Proofs.YtebinlinhmohbaaDoor
