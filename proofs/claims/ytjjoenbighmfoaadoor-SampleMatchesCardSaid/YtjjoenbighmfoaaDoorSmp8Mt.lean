/-
  The laws that compare with the reference.
-/
import Derived.Test.YtjjoenbighmfoaaDoorSmp7Mt
namespace Go.Proofs.YtjjoenbighmfoaaDoor
open Go Go.RowKit
set_option maxRecDepth 100000

theorem inB_le (l : List Pl) (m : Int) : (inB l m).length ≤ l.length := by
  have h1 := inBk_le (unL l) (unL l).length m
  rw [inBk_all] at h1
  exact Nat.le_trans h1 (unL_le l)
theorem lawMatches_any (oa : Option Addr) (cap : Nat) (ss : List Int) (n : Int) (hnb : -9223372036854775808 ≤ n ∧ n ≤ 9223372036854775807) (p : Pl) (ob : Option Addr) (cb : Nat) (l : List Pl) (m : Int) (w : World) (hs : Cs w oa ss.length cap (ints ss)) (hl0 : Pz w ob cb l) (hk : KMem 1 w) (hf : FMem 0 w) :
    Calls Tryd.prog 5 #[.slice oa ss.length cap, .int .i64 n, .agg (plc p).toArray, .slice ob l.length cb, .int .i64 m] w (Ret w (fun v _ => v = .bool true)) := by
  refine enter (vs := [.slice oa ss.length cap, .int .i64 n, .agg (plc p).toArray, .slice ob l.length cb, .int .i64 m]) Tryd.func5 rfl Tryd.ntmps5 rfl ?_
  refine JC.seq ?_
  refine JC.region ?_
  refine JL.new rfl rfl rfl (.none rfl) (En.boxA rfl) (fun b7 hb7 => ?_)
  refine JL.asg ?_
  refine JL.nil ?_
  refine JQ.thenN ?_
  refine JC.seq ?_
  refine JC.seq ?_
  refine JC.region ?_
  refine JL.mv ?_
  refine JL.mv ?_
  refine JL.callV rfl (.none rfl) rfl Tryd.call19 (fun w1 hw1 => sgreat_any oa ob ss.length l.length cap cb w1) ?_
  refine JL.nil ?_
  refine JQ.thenN ?_
  refine JC.cond rfl (fun hg => ?_) (fun hg => ?_)
  · -- t25 True
    replace hg := of_decide_eq_true hg
    refine JC.seq ?_
    refine JC.region ?_
    refine JL.callV rfl (.none rfl) rfl Tryd.call4 (fun w1 hw1 => sExamples_any w1 (hk.old hw1) (hf.old hw1)) ?_
    refine JL.asg ?_
    refine JL.nil ?_
    refine JQ.thenN ?_
    refine JC.ret ?_
    refine JQ.thenR ?_
    refine JQ.end1 (H' := []) (.inl rfl) rfl (.tmp rfl) ?_ ?_
    · exact Sub.k
    · rfl
  · -- t25 False
    replace hg := of_decide_eq_false hg
    have hl : l.length ≤ 1100000 := by omega
    have hl200 : l.length ≤ 200 := by omega
    refine JC.skip ?_
    refine JQ.thenN ?_
    refine JC.seq ?_
    refine JC.region ?_
    refine JL.mv ?_
    refine JL.callV rfl (.none rfl) rfl Tryd.call16 (fun w1 hw1 => sTotal_any oa cap ss w1 (hs.old hw1)) ?_
    refine JL.mv ?_
    refine JL.val rfl rfl rfl (.none rfl) (Ev.ex0 rfl) ?_
    refine JL.val rfl rfl rfl (.none rfl) (Ev.ex1 rfl) ?_
    refine JL.asg ?_
    refine JL.asg ?_
    refine JL.nil ?_
    refine JQ.thenN ?_
    refine JC.seq ?_
    refine JC.region ?_
    refine JL.mv ?_
    refine JL.callV rfl (.none rfl) rfl Tryd.call20 (fun w1 hw1 => rTotal_any oa cap ss w1 (hs.old hw1)) ?_
    refine JL.mv ?_
    refine JL.val rfl rfl rfl (.none rfl) (Ev.ex0 rfl) ?_
    refine JL.val rfl rfl rfl (.none rfl) (Ev.ex1 rfl) ?_
    refine JL.asg ?_
    refine JL.asg ?_
    refine JL.nil ?_
    refine JQ.thenN ?_
    refine JC.seq ?_
    refine JC.region ?_
    refine JL.mv ?_
    refine JL.mv ?_
    refine JL.callV rfl (.none rfl) rfl Tryd.call14 (fun w1 hw1 => sAt_any oa cap ss n hnb w1 (hs.old hw1)) ?_
    refine JL.mv ?_
    refine JL.val rfl rfl rfl (.none rfl) (Ev.ex0 rfl) ?_
    refine JL.val rfl rfl rfl (.none rfl) (Ev.ex1 rfl) ?_
    refine JL.new rfl rfl rfl (.none rfl) (En.allocZ (cs := (plc (0, 0)).toArray) Tryd.zeroValue27 rfl) (fun b15 hb15 => ?_)
    refine JL.sto rfl rfl (.none rfl) (Es.storeA rfl rfl Tryd.sizeOf27 Upd.k rfl rfl (plc_one _)) ?_
    refine JL.asg ?_
    refine JL.nil ?_
    refine JQ.thenN ?_
    refine JC.seq ?_
    refine JC.region ?_
    refine JL.mv ?_
    refine JL.mv ?_
    refine JL.callV rfl (.none rfl) rfl Tryd.call21 (fun w1 hw1 => rAt_any oa cap ss n hnb w1 (hs.old hw1)) ?_
    refine JL.mv ?_
    refine JL.val rfl rfl rfl (.none rfl) (Ev.ex0 rfl) ?_
    refine JL.val rfl rfl rfl (.none rfl) (Ev.ex1 rfl) ?_
    refine JL.new rfl rfl rfl (.none rfl) (En.allocZ (cs := (plc (0, 0)).toArray) Tryd.zeroValue27 rfl) (fun b17 hb17 => ?_)
    refine JL.sto rfl rfl (.none rfl) (Es.storeA rfl rfl Tryd.sizeOf27 Upd.k rfl rfl (plc_one _)) ?_
    refine JL.asg ?_
    refine JL.nil ?_
    refine JQ.thenN ?_
    refine JC.seq ?_
    refine JC.region ?_
    refine JL.mv ?_
    refine JL.val rfl rfl rfl (.none rfl) (Ev.loadB rfl memK Tryd.underlying27 rfl Tryd.sizeOf27 rfl) ?_
    refine JL.callV rfl (.none rfl) rfl Tryd.call15 (fun w1 hw1 => sNumber_any oa cap ss p w1 (hs.old hw1)) ?_
    refine JL.mv ?_
    refine JL.val rfl rfl rfl (.none rfl) (Ev.ex0 rfl) ?_
    refine JL.val rfl rfl rfl (.none rfl) (Ev.ex1 rfl) ?_
    refine JL.asg ?_
    refine JL.asg ?_
    refine JL.nil ?_
    refine JQ.thenN ?_
    refine JC.seq ?_
    refine JC.region ?_
    refine JL.mv ?_
    refine JL.val rfl rfl rfl (.none rfl) (Ev.loadB rfl memK Tryd.underlying27 rfl Tryd.sizeOf27 rfl) ?_
    refine JL.callV rfl (.none rfl) rfl Tryd.call22 (fun w1 hw1 => rNumber_any oa cap ss p w1 (hs.old hw1)) ?_
    refine JL.mv ?_
    refine JL.val rfl rfl rfl (.none rfl) (Ev.ex0 rfl) ?_
    refine JL.val rfl rfl rfl (.none rfl) (Ev.ex1 rfl) ?_
    refine JL.asg ?_
    refine JL.asg ?_
    refine JL.nil ?_
    refine JQ.thenN ?_
    refine JC.seq ?_
    refine JC.seq ?_
    refine JC.regionQ (by kernel_rfl) (by kernel_rfl) ?_
    refine JW.val rfl rfl (.none rfl) (Ev.move rfl) ?_
    refine JW.val rfl rfl (.none rfl) (Ev.move rfl) ?_
    refine JW.val rfl rfl (.none rfl) (Ev.bin rfl rfl neq_int) ?_
    refine JW.val rfl rfl (.none rfl) (Ev.move rfl) ?_
    refine JW.know (d := 64) (b := false) rfl ?_ ?_
    · first | exact decide_eq_false (fun h => h rfl) | simp
    refine JW.val rfl rfl (.yes rfl rfl rfl) (Ev.move rfl) ?_
    refine JW.val rfl rfl (.yes rfl rfl rfl) (Ev.move rfl) ?_
    refine JW.val rfl rfl (.yes rfl rfl rfl) (Ev.bin rfl rfl neq_int) ?_
    refine JW.val rfl rfl (.none rfl) (Ev.pickF rfl rfl) ?_
    refine JW.val rfl rfl (.none rfl) (Ev.move rfl) ?_
    refine JW.know (d := 69) (b := false) rfl ?_ ?_
    · first | exact decide_eq_false (fun h => h rfl) | simp
    refine JW.val rfl rfl (.yes rfl rfl rfl) (Ev.loadB rfl memK Tryd.underlying27 rfl Tryd.sizeOf27 rfl) ?_
    refine JW.val rfl rfl (.yes rfl rfl rfl) (Ev.loadB rfl memK Tryd.underlying27 rfl Tryd.sizeOf27 rfl) ?_
    refine JW.val rfl rfl (.yes rfl rfl rfl) (Ev.bin rfl rfl (neq_pl Tryd.underlying27 Tryd.underlying3 Tryd.underlying3 (by kernel_rfl) (by kernel_rfl) (by decide) (by decide) _ _)) ?_
    refine JW.val rfl rfl (.none rfl) (Ev.pickF rfl rfl) ?_
    refine JW.val rfl rfl (.none rfl) (Ev.move rfl) ?_
    refine JW.know (d := 74) (b := false) rfl ?_ ?_
    · first | exact decide_eq_false (fun h => h rfl) | simp
    refine JW.val rfl rfl (.yes rfl rfl rfl) (Ev.move rfl) ?_
    refine JW.val rfl rfl (.yes rfl rfl rfl) (Ev.move rfl) ?_
    refine JW.val rfl rfl (.yes rfl rfl rfl) (Ev.bin rfl rfl neq_int) ?_
    refine JW.val rfl rfl (.none rfl) (Ev.pickF rfl rfl) ?_
    refine JW.val rfl rfl (.none rfl) (Ev.move rfl) ?_
    refine JW.know (d := 79) (b := false) rfl ?_ ?_
    · first | exact decide_eq_false (fun h => h rfl) | simp
    refine JW.val rfl rfl (.yes rfl rfl rfl) (Ev.move rfl) ?_
    refine JW.val rfl rfl (.yes rfl rfl rfl) (Ev.move rfl) ?_
    refine JW.val rfl rfl (.yes rfl rfl rfl) (Ev.bin rfl rfl neq_int) ?_
    refine JW.val rfl rfl (.none rfl) (Ev.pickF rfl rfl) ?_
    refine JW.val rfl rfl (.none rfl) (Ev.move rfl) ?_
    refine JW.know (d := 84) (b := false) rfl ?_ ?_
    · first | exact decide_eq_false (fun h => h rfl) | simp
    refine JW.val rfl rfl (.yes rfl rfl rfl) (Ev.move rfl) ?_
    refine JW.val rfl rfl (.yes rfl rfl rfl) (Ev.move rfl) ?_
    refine JW.val rfl rfl (.yes rfl rfl rfl) (Ev.bin rfl rfl neq_int) ?_
    refine JW.val rfl rfl (.none rfl) (Ev.pickF rfl rfl) ?_
    refine JW.val rfl rfl (.none rfl) (Ev.move rfl) ?_
    refine JW.know (d := 89) (b := false) rfl ?_ ?_
    · first | exact decide_eq_false (fun h => h rfl) | simp
    refine JW.val rfl rfl (.yes rfl rfl rfl) (Ev.move rfl) ?_
    refine JW.val rfl rfl (.yes rfl rfl rfl) (Ev.loadB rfl memK Tryd.underlying27 rfl Tryd.sizeOf27 rfl) ?_
    refine JW.call rfl (.yes rfl rfl rfl) rfl Tryd.call11 (fun w1 hw1 => sCount_any ob cb l p w1 (hl0.old hw1) hl) ?_
    refine JW.val rfl rfl (.yes rfl rfl rfl) (Ev.move rfl) ?_
    refine JW.val rfl rfl (.yes rfl rfl rfl) (Ev.loadB rfl memK Tryd.underlying27 rfl Tryd.sizeOf27 rfl) ?_
    refine JW.call rfl (.yes rfl rfl rfl) rfl Tryd.call23 (fun w1 hw1 => rCount_any ob cb l p w1 (hl0.old hw1) hl) ?_
    refine JW.val rfl rfl (.yes rfl rfl rfl) (Ev.bin rfl rfl neq_int) ?_
    refine JW.val rfl rfl (.none rfl) (Ev.pickF rfl rfl) ?_
    refine JW.nilQ ?_
    refine JQ.thenN ?_
    refine JC.knowF rfl ?_ ?_
    · first | exact decide_eq_false (fun h => h rfl) | simp
    refine JC.skip ?_
    refine JQ.thenN ?_
    refine JC.seq ?_
    refine JC.region ?_
    refine JL.mv ?_
    refine JL.callN rfl (.none rfl) rfl Tryd.call10 (fun w1 hw1 => sUnique_any ob cb l w1 (hl0.old hw1) hl) ?_
    rintro _ _ ⟨r1, rfl, rfl, hr1⟩
    obtain ⟨o1, c1, e1, hn1, hC1⟩ := Row.vw (e := 27) hr1
    refine JL.re (d := 99) rfl e1 ?_
    refine JL.mv ?_
    refine JL.callN rfl (.none rfl) rfl Tryd.call24 (fun w1 hw1 => rUnique_any ob cb l w1 (hl0.old hw1) hl) ?_
    rintro _ _ ⟨r2, rfl, rfl, hr2⟩
    obtain ⟨o2, c2, e2, hn2, hC2⟩ := Row.vw (e := 27) hr2
    refine JL.re (d := 101) rfl e2 ?_
    refine JL.callV rfl (.none rfl) rfl Tryd.call13 (fun w1 hw1 => pSame_any o1 o2 c1 c2 (unL l) (unL l) w1 (hC1 w1 hw1 (fun p hp => by first | exact hp | simp [hp])) (hC2 w1 hw1 (fun p hp => by first | exact hp | simp [hp])) (by have := unL_le l; omega)) ?_
    refine JL.mv ?_
    refine JL.know (d := 103) (b := true) rfl ?_ ?_
    · exact decide_eq_true rfl
    refine JL.val rfl rfl rfl (.yes rfl rfl rfl) (Ev.move rfl) ?_
    refine JL.val rfl rfl rfl (.yes rfl rfl rfl) (Ev.move rfl) ?_
    refine JL.callN rfl (.yes rfl rfl rfl) rfl Tryd.call12 (fun w1 hw1 => sInBatch_any ob cb l m w1 (hl0.old hw1) hl) ?_
    rintro _ _ ⟨r3, rfl, rfl, hr3⟩
    obtain ⟨o3, c3, e3, hn3, hC3⟩ := Row.vw (e := 3) hr3
    refine JL.re (d := 106) rfl e3 ?_
    refine JL.val rfl rfl rfl (.yes rfl rfl rfl) (Ev.move rfl) ?_
    refine JL.val rfl rfl rfl (.yes rfl rfl rfl) (Ev.move rfl) ?_
    refine JL.callN rfl (.yes rfl rfl rfl) rfl Tryd.call25 (fun w1 hw1 => rInBatch_any ob cb l m w1 (hl0.old hw1) hl) ?_
    rintro _ _ ⟨r4, rfl, rfl, hr4⟩
    obtain ⟨o4, c4, e4, hn4, hC4⟩ := Row.vw (e := 3) hr4
    refine JL.re (d := 109) rfl e4 ?_
    refine JL.callV rfl (.yes rfl rfl rfl) rfl Tryd.call18 (fun w1 hw1 => sameInts_any o3 o4 c3 c4 (inB l m) (inB l m) w1 (hC3 w1 hw1 (fun p hp => by first | exact hp | simp [hp])) (hC4 w1 hw1 (fun p hp => by first | exact hp | simp [hp])) (by have := inB_le l m; omega)) ?_
    refine JL.val rfl rfl rfl (.none rfl) (Ev.pickT rfl rfl) ?_
    refine JL.mv ?_
    refine JL.know (d := 112) (b := true) rfl ?_ ?_
    · exact decide_eq_true rfl
    refine JL.callV rfl (.yes rfl rfl rfl) rfl Tryd.call4 (fun w1 hw1 => sExamples_any w1 (hk.old hw1) (hf.old hw1)) ?_
    refine JL.val rfl rfl rfl (.none rfl) (Ev.pickT rfl rfl) ?_
    refine JL.asg ?_
    refine JL.nil ?_
    refine JQ.thenN ?_
    refine JC.ret ?_
    refine JQ.end1 (H' := []) (.inl rfl) rfl (.tmp rfl) ?_ ?_
    · exact Sub.k
    · rfl

end Go.Proofs.YtjjoenbighmfoaaDoor
