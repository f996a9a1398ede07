/-
  The laws that compare with the reference.
-/
import Derived.Test.YtjjoenbighmfoaaDoorSmp7Po
namespace Go.Proofs.YtjjoenbighmfoaaDoor
open Go Go.RowKit
set_option maxRecDepth 100000

theorem posV_le (s : List UInt8) (f : UInt32) (many : Int) (ss : List Int) : (posV s f many ss).length ≤ 1000000 := by
  unfold posV
  split
  · rw [List.length_map]; exact sampL_le _ _ _ _
  · simp

theorem lawPositions_any (s : List UInt8) (hsd : s.length = 32) (f : UInt32) (many : Int) (hmb : -9223372036854775808 ≤ many ∧ many ≤ 9223372036854775807) (oa : Option Addr) (cap : Nat) (ss : List Int) (w : World) (hs : Cs w oa ss.length cap (ints ss)) (hk : KMem 1 w) (hf : FMem 0 w) :
    Calls Tryd.prog 6 #[.agg (arr8 s), u32 f, .int .i64 many, .slice oa ss.length cap] w (Ret w (fun v _ => v = .bool true)) := by
  refine enter (vs := [.agg (arr8 s), u32 f, .int .i64 many, .slice oa ss.length cap]) Tryd.func6 rfl Tryd.ntmps6 rfl ?_
  refine JC.seq ?_
  refine JC.region ?_
  refine JL.new rfl rfl rfl (.none rfl) (En.boxA rfl) (fun b4 hb4 => ?_)
  refine JL.asg ?_
  refine JL.nil ?_
  refine JQ.thenN ?_
  refine JC.seq ?_
  refine JC.seq ?_
  refine JC.region ?_
  refine JL.mv ?_
  refine JL.callV rfl (.none rfl) rfl Tryd.call19 (fun w1 hw1 => sgreat_any oa none ss.length 0 cap 0 w1) ?_
  refine JL.mv ?_
  refine JL.split (d := 15) rfl (fun hg1 => ?_) (fun hg1 => ?_)
  · -- guard 15 true
    refine JL.skip rfl rfl (.noF rfl rfl rfl) ?_
    refine JL.skip rfl rfl (.noF rfl rfl rfl) ?_
    refine JL.skip rfl rfl (.noF rfl rfl rfl) ?_
    refine JL.skipW rfl rfl (wantU rfl rfl rfl) ?_
    refine JL.skipW rfl rfl (wantU rfl rfl rfl) ?_
    refine JL.skip rfl rfl (.noF rfl rfl rfl) ?_
    refine JL.val rfl rfl rfl (.none rfl) (Ev.pickT rfl rfl) ?_
    refine JL.nil ?_
    refine JQ.thenN ?_
    refine JC.condT rfl ?_
    refine JC.seq ?_
    refine JC.region ?_
    refine JL.callV rfl (.none rfl) rfl Tryd.call4 (fun w1 hw1 => sExamples_any w1 (hk.old hw1) (hf.old hw1)) ?_
    refine JL.asg ?_
    refine JL.nil ?_
    refine JQ.thenN ?_
    refine JC.ret ?_
    refine JQ.thenR ?_
    refine JQ.end1 (H' := []) (.inl rfl) rfl (.tmp rfl) ?_ ?_
    · exact Sub.k
    · rfl
  · -- guard 15 false
    refine JL.val rfl rfl rfl (.yes rfl rfl rfl) (Ev.move rfl) ?_
    refine JL.val rfl rfl rfl (.yes rfl rfl rfl) (Ev.bin rfl rfl gtr_int) ?_
    refine JL.val rfl rfl rfl (.yes rfl rfl rfl) (Ev.move rfl) ?_
    refine JL.split (d := 18) rfl (fun hg2 => ?_) (fun hg2 => ?_)
    · -- guard 18 true
      refine JL.val rfl rfl rfl (.yes rfl rfl rfl) (Ev.move rfl) ?_
      refine JL.val rfl rfl rfl (.yes rfl rfl rfl) (Ev.bin rfl rfl leq_int) ?_
      refine JL.val rfl rfl rfl (.yes rfl rfl rfl) (Ev.pickT rfl rfl) ?_
      refine JL.val rfl rfl rfl (.none rfl) (Ev.pickF rfl rfl) ?_
      refine JL.nil ?_
      refine JQ.thenN ?_
      refine JC.cond rfl (fun hc1 => ?_) (fun hc1 => ?_)
      · -- t22 True
        replace hc1 := of_decide_eq_true hc1
        refine JC.seq ?_
        refine JC.region ?_
        refine JL.callV rfl (.none rfl) rfl Tryd.call4 (fun w1 hw1 => sExamples_any w1 (hk.old hw1) (hf.old hw1)) ?_
        refine JL.asg ?_
        refine JL.nil ?_
        refine JQ.thenN ?_
        refine JC.ret ?_
        refine JQ.thenR ?_
        refine JQ.end1 (H' := []) (.inl rfl) rfl (.tmp rfl) ?_ ?_
        · exact Sub.k
        · rfl
      · -- t22 False
        replace hc1 := of_decide_eq_false hc1
        refine JC.skip ?_
        refine JQ.thenN ?_
        refine JC.seq ?_
        refine JC.region ?_
        refine JL.val rfl rfl rfl (.none rfl) (Ev.loadB rfl memK Tryd.underlying40 rfl Tryd.sizeOf40 (by rw [arr8_size, hsd])) ?_
        refine JL.mv ?_
        refine JL.mv ?_
        refine JL.mv ?_
        refine JL.callN rfl (.none rfl) rfl Tryd.call17 (fun w1 hw1 => sPositions_any s hsd f many hmb oa cap ss w1 (hs.old hw1) (hk.old hw1) (hf.old hw1)) ?_
        rintro _ _ ⟨r1, rfl, rfl, hr1⟩
        refine JL.mv ?_
        refine JL.val rfl rfl rfl (.none rfl) (Ev.ex0 rfl) ?_
        obtain ⟨o1, c1, e1, hn1, hC1⟩ := Row.vw (e := 27) hr1
        refine JL.re (d := 30) rfl e1 ?_
        refine JL.val rfl rfl rfl (.none rfl) (Ev.ex1 rfl) ?_
        refine JL.asg ?_
        refine JL.asg ?_
        refine JL.nil ?_
        refine JQ.thenN ?_
        refine JC.seq ?_
        refine JC.region ?_
        refine JL.val rfl rfl rfl (.none rfl) (Ev.loadB rfl memK Tryd.underlying40 rfl Tryd.sizeOf40 (by rw [arr8_size, hsd])) ?_
        refine JL.mv ?_
        refine JL.mv ?_
        refine JL.mv ?_
        refine JL.callN rfl (.none rfl) rfl Tryd.call26 (fun w1 hw1 => rPositions_any s hsd f many hmb oa cap ss w1 (hs.old hw1)) ?_
        rintro _ _ ⟨r2, rfl, rfl, hr2⟩
        refine JL.mv ?_
        refine JL.val rfl rfl rfl (.none rfl) (Ev.ex0 rfl) ?_
        obtain ⟨o2, c2, e2, hn2, hC2⟩ := Row.vw (e := 27) hr2
        refine JL.re (d := 38) rfl e2 ?_
        refine JL.val rfl rfl rfl (.none rfl) (Ev.ex1 rfl) ?_
        refine JL.asg ?_
        refine JL.asg ?_
        refine JL.nil ?_
        refine JQ.thenN ?_
        refine JC.seq ?_
        refine JC.region ?_
        refine JL.mv ?_
        refine JL.mv ?_
        refine JL.callV rfl (.none rfl) rfl Tryd.call13 (fun w1 hw1 => pSame_any o1 o2 c1 c2 (posV s f many ss) (posV s f many ss) w1 (hC1 w1 hw1 (fun p hp => by first | exact hp | simp [hp])) (hC2 w1 hw1 (fun p hp => by first | exact hp | simp [hp])) (by have := posV_le s f many ss; omega)) ?_
        refine JL.mv ?_
        refine JL.know (d := 43) (b := true) rfl ?_ ?_
        · exact decide_eq_true rfl
        refine JL.val rfl rfl rfl (.yes rfl rfl rfl) (Ev.move rfl) ?_
        refine JL.val rfl rfl rfl (.yes rfl rfl rfl) (Ev.move rfl) ?_
        refine JL.val rfl rfl rfl (.yes rfl rfl rfl) (Ev.bin rfl rfl eql_int) ?_
        refine JL.val rfl rfl rfl (.none rfl) (Ev.pickT rfl rfl) ?_
        refine JL.mv ?_
        refine JL.know (d := 48) (b := true) rfl ?_ ?_
        · exact decide_eq_true rfl
        refine JL.callV rfl (.yes rfl rfl rfl) rfl Tryd.call4 (fun w1 hw1 => sExamples_any w1 (hk.old hw1) (hf.old hw1)) ?_
        refine JL.val rfl rfl rfl (.none rfl) (Ev.pickT rfl rfl) ?_
        refine JL.asg ?_
        refine JL.nil ?_
        refine JQ.thenN ?_
        refine JC.ret ?_
        refine JQ.end1 (H' := []) (.inl rfl) rfl (.tmp rfl) ?_ ?_
        · exact Sub.k
        · rfl
    · -- guard 18 false
      refine JL.skip rfl rfl (.noT rfl rfl rfl) ?_
      refine JL.skip rfl rfl (.noT rfl rfl rfl) ?_
      refine JL.val rfl rfl rfl (.yes rfl rfl rfl) (Ev.pickF rfl rfl) ?_
      refine JL.val rfl rfl rfl (.none rfl) (Ev.pickF rfl rfl) ?_
      refine JL.nil ?_
      refine JQ.thenN ?_
      refine JC.condF rfl ?_
      refine JC.skip ?_
      refine JQ.thenN ?_
      refine JC.seq ?_
      refine JC.region ?_
      refine JL.val rfl rfl rfl (.none rfl) (Ev.loadB rfl memK Tryd.underlying40 rfl Tryd.sizeOf40 (by rw [arr8_size, hsd])) ?_
      refine JL.mv ?_
      refine JL.mv ?_
      refine JL.mv ?_
      refine JL.callN rfl (.none rfl) rfl Tryd.call17 (fun w1 hw1 => sPositions_any s hsd f many hmb oa cap ss w1 (hs.old hw1) (hk.old hw1) (hf.old hw1)) ?_
      rintro _ _ ⟨r1, rfl, rfl, hr1⟩
      refine JL.mv ?_
      refine JL.val rfl rfl rfl (.none rfl) (Ev.ex0 rfl) ?_
      obtain ⟨o1, c1, e1, hn1, hC1⟩ := Row.vw (e := 27) hr1
      refine JL.re (d := 30) rfl e1 ?_
      refine JL.val rfl rfl rfl (.none rfl) (Ev.ex1 rfl) ?_
      refine JL.asg ?_
      refine JL.asg ?_
      refine JL.nil ?_
      refine JQ.thenN ?_
      refine JC.seq ?_
      refine JC.region ?_
      refine JL.val rfl rfl rfl (.none rfl) (Ev.loadB rfl memK Tryd.underlying40 rfl Tryd.sizeOf40 (by rw [arr8_size, hsd])) ?_
      refine JL.mv ?_
      refine JL.mv ?_
      refine JL.mv ?_
      refine JL.callN rfl (.none rfl) rfl Tryd.call26 (fun w1 hw1 => rPositions_any s hsd f many hmb oa cap ss w1 (hs.old hw1)) ?_
      rintro _ _ ⟨r2, rfl, rfl, hr2⟩
      refine JL.mv ?_
      refine JL.val rfl rfl rfl (.none rfl) (Ev.ex0 rfl) ?_
      obtain ⟨o2, c2, e2, hn2, hC2⟩ := Row.vw (e := 27) hr2
      refine JL.re (d := 38) rfl e2 ?_
      refine JL.val rfl rfl rfl (.none rfl) (Ev.ex1 rfl) ?_
      refine JL.asg ?_
      refine JL.asg ?_
      refine JL.nil ?_
      refine JQ.thenN ?_
      refine JC.seq ?_
      refine JC.region ?_
      refine JL.mv ?_
      refine JL.mv ?_
      refine JL.callV rfl (.none rfl) rfl Tryd.call13 (fun w1 hw1 => pSame_any o1 o2 c1 c2 (posV s f many ss) (posV s f many ss) w1 (hC1 w1 hw1 (fun p hp => by first | exact hp | simp [hp])) (hC2 w1 hw1 (fun p hp => by first | exact hp | simp [hp])) (by have := posV_le s f many ss; omega)) ?_
      refine JL.mv ?_
      refine JL.know (d := 43) (b := true) rfl ?_ ?_
      · exact decide_eq_true rfl
      refine JL.val rfl rfl rfl (.yes rfl rfl rfl) (Ev.move rfl) ?_
      refine JL.val rfl rfl rfl (.yes rfl rfl rfl) (Ev.move rfl) ?_
      refine JL.val rfl rfl rfl (.yes rfl rfl rfl) (Ev.bin rfl rfl eql_int) ?_
      refine JL.val rfl rfl rfl (.none rfl) (Ev.pickT rfl rfl) ?_
      refine JL.mv ?_
      refine JL.know (d := 48) (b := true) rfl ?_ ?_
      · exact decide_eq_true rfl
      refine JL.callV rfl (.yes rfl rfl rfl) rfl Tryd.call4 (fun w1 hw1 => sExamples_any w1 (hk.old hw1) (hf.old hw1)) ?_
      refine JL.val rfl rfl rfl (.none rfl) (Ev.pickT rfl rfl) ?_
      refine JL.asg ?_
      refine JL.nil ?_
      refine JQ.thenN ?_
      refine JC.ret ?_
      refine JQ.end1 (H' := []) (.inl rfl) rfl (.tmp rfl) ?_ ?_
      · exact Sub.k
      · rfl

end Go.Proofs.YtjjoenbighmfoaaDoor
