/-
  Consistency in the reference: proofs, lengths, following, verifying, peaks.
-/
import Derived.Test.YtimegpilihfghaaDoorCon1
import Derived.Test.YtimegpilihfghaaDoorMer5
import Derived.Test.YtimegpilihfghaaDoorTurn
import Derived.Test.YtimegpilihfghaaDoorShort
namespace Go.Proofs.YtimegpilihfghaaDoor
open Go Go.RowKit
set_option maxRecDepth 100000

theorem proofC_le (ds : List Dig) {m : Nat} (fr : Bool) (h1 : 1 ≤ m) (hm : m ≤ ds.length) : (proofR ds m fr).length ≤ ds.length := by
  rw [proof_steps ds.length ds m fr (Nat.le_refl _) h1 hm]
  exact stepsC_le _ _ _ _ (Nat.le_refl _) h1 hm
theorem row1D (b : Nat) (d : Dig) : Row.ok 32 1 (fl [d]) (some ⟨b, 1, (fl [d]).toArray⟩) :=
  ⟨by rw [fl_length]; rfl, Nat.le_refl _, (by decide : 1 ≤ maxLen), by rw [List.size_toArray, fl_length]; rfl, List.take_of_length_le (by rw [fl_length]; exact Nat.le_refl _)⟩
theorem stepsC_succ {m n : Nat} {fr : Bool} (h1 : 1 ≤ m) (h : m < n) : ∃ k, stepsC m n fr = k + 1 := by
  by_cases hk : m ≤ bel n
  · exact ⟨_, stepsC_left h1 h hk⟩
  · exact ⟨_, stepsC_right h1 h hk⟩
theorem headD_get {ds : List Dig} {d : Dig} (h : ds[0]? = some d) : ds.headD zeroD = d := by
  cases ds with
  | nil => simp at h
  | cons x l => simpa using h

theorem rcOf_any_step (N : Nat) (ih : ∀ (oa : Option Addr) (cap : Nat) (ds : List Dig) (m : Nat) (fr : Bool) (w : World) (_ : Dl w oa cap ds) (_ : ds.length ≤ 1100000) (_ : 1 ≤ m) (_ : m ≤ ds.length), ds.length < N → Calls Tryd.prog 42 #[.slice oa ds.length cap, .int .i64 (m : Int), .bool fr] w (Ret w (fun v H => ∃ r : Option Row, v = Row.v (proofR ds m fr).length r ∧ H = Row.b 22 r ∧ Row.ok 32 (proofR ds m fr).length (fl (proofR ds m fr)) r))) (oa : Option Addr) (cap : Nat) (ds : List Dig) (m : Nat) (fr : Bool) (w : World) (hd : Dl w oa cap ds) (hmx : ds.length ≤ 1100000) (hm1 : 1 ≤ m) (hm2 : m ≤ ds.length) (hN : ds.length = N) :
    Calls Tryd.prog 42 #[.slice oa ds.length cap, .int .i64 (m : Int), .bool fr] w (Ret w (fun v H => ∃ r : Option Row, v = Row.v (proofR ds m fr).length r ∧ H = Row.b 22 r ∧ Row.ok 32 (proofR ds m fr).length (fl (proofR ds m fr)) r)) := by
  refine enter (vs := [.slice oa ds.length cap, .int .i64 (m : Int), .bool fr]) Tryd.func42 rfl Tryd.ntmps42 rfl ?_
  refine JC.seq ?_
  refine JC.region ?_
  refine JL.asg ?_
  refine JL.nil ?_
  refine JQ.thenN ?_
  refine JC.seq ?_
  refine JC.region ?_
  refine JL.mv ?_
  refine JL.val rfl rfl rfl (.none rfl) (Ev.lenS rfl Tryd.underlying23) ?_
  refine JL.asg ?_
  refine JL.nil ?_
  refine JQ.thenN ?_
  refine JC.seq ?_
  refine JC.seq ?_
  refine JC.region ?_
  refine JL.mv ?_
  refine JL.mv ?_
  refine JL.val rfl rfl rfl (.none rfl) (Ev.bin rfl rfl eql_int) ?_
  refine JL.nil ?_
  refine JQ.thenN ?_
  refine JC.cond rfl (fun hc1 => ?_) (fun hc1 => ?_)
  · -- t13 True
    replace hc1 := of_decide_eq_true hc1
    have he : m = ds.length := by omega
    refine JC.seq ?_
    refine JC.seq ?_
    refine JC.region ?_
    refine JL.mv ?_
    refine JL.nil ?_
    refine JQ.thenN ?_
    refine JC.cond rfl (fun hfr => ?_) (fun hfr => ?_)
    · -- t14 True
      subst hfr
      refine JC.seq ?_
      refine JC.region ?_
      refine JL.asg ?_
      refine JL.nil ?_
      refine JQ.thenN ?_
      refine JC.ret ?_
      refine JQ.thenR ?_
      refine JQ.thenR ?_
      refine JQ.end1 (H' := []) (.inl rfl) rfl (.tmp rfl) ?_ ?_
      · exact Sub.of_cnt (fun a => by (try dsimp only); simp only [cntA]; omega)
      · exact ⟨none, by rw [proofR_top he]; rfl, rfl, by rw [proofR_top he]; exact Row.ok0⟩
    · -- t14 False
      subst hfr
      refine JC.skip ?_
      refine JQ.thenN ?_
      refine JC.seq ?_
      refine JC.region ?_
      refine JL.mv ?_
      refine JL.callV rfl (.none rfl) rfl Tryd.call60 (fun w1 hw1 => rOf_any oa cap ds w1 (hd.old hw1) hmx) ?_
      refine JL.new rfl rfl rfl (.none rfl) (En.bs1D (e := 22) rfl Tryd.underlying23 Tryd.sizeOf22 Tryd.zeroValue22) (fun b17 hb17 => ?_)
      refine JL.asg ?_
      refine JL.nil ?_
      refine JQ.thenN ?_
      refine JC.ret ?_
      refine JQ.thenR ?_
      refine JQ.end1 (H' := (Row.b 22 (some ⟨b17, 1, (fl [rootR ds]).toArray⟩))) (.inl rfl) rfl (.tmp rfl) ?_ ?_
      · exact Sub.of_cnt (fun a => by (try dsimp only); simp only [cntA]; omega)
      · exact ⟨some ⟨b17, 1, (fl [rootR ds]).toArray⟩, by rw [proofR_top he]; rfl, rfl, by rw [proofR_top he]; exact row1D b17 (rootR ds)⟩
  · -- t13 False
    replace hc1 := of_decide_eq_false hc1
    have h2 : 2 ≤ ds.length := by omega
    have hbl := bel_lt h2
    have hbp := bel_pos ds.length
    obtain ⟨ob, eob, hob⟩ := Dl.drop hd (show bel ds.length ≤ ds.length by omega)
    have htl : (ds.take (bel ds.length)).length = bel ds.length := by rw [List.length_take]; omega
    have hdl : (ds.drop (bel ds.length)).length = ds.length - bel ds.length := List.length_drop
    refine JC.skip ?_
    refine JQ.thenN ?_
    refine JC.seq ?_
    refine JC.region ?_
    refine JL.mv ?_
    refine JL.callV rfl (.none rfl) rfl Tryd.call59 (fun w1 hw1 => below_any ds.length (by omega) (by omega) w1) ?_
    refine JL.asg ?_
    refine JL.nil ?_
    refine JQ.thenN ?_
    refine JC.seq ?_
    refine JC.seq ?_
    refine JC.region ?_
    refine JL.mv ?_
    refine JL.mv ?_
    refine JL.val rfl rfl rfl (.none rfl) (Ev.bin rfl rfl leq_int) ?_
    refine JL.nil ?_
    refine JQ.thenN ?_
    refine JC.cond rfl (fun hc2 => ?_) (fun hc2 => ?_)
    · -- t22 True
      replace hc2 := of_decide_eq_true hc2
      have hl : m ≤ bel ds.length := by omega
      refine JC.seq ?_
      refine JC.regionA (by kernel_rfl) ?_
      refine JA.tk 0 rfl (.none rfl) (fun _ => (Ev.move rfl)) ?_
      refine JA.tk 1 rfl (.none rfl) (fun _ => (Ev.move rfl)) ?_
      refine JA.tk 2 rfl (.none rfl) (fun _ => (Ev.cast (v' := .slice oa (ds.take (bel ds.length)).length cap) (by rw [sub3_0, htl]) (Ev.sliceHi rfl rfl Tryd.underlying23 Tryd.sizeOf22 (h := bel ds.length) rfl (by have := hd.le; omega)))) ?_
      refine JA.tk 3 rfl (.none rfl) (fun _ => (Ev.move rfl)) ?_
      refine JA.tk 4 rfl (.none rfl) (fun _ => (Ev.move rfl)) ?_
      refine JA.tk 6 rfl (.none rfl) (fun _ => (Ev.move rfl)) ?_
      refine JA.tk 7 rfl (.none rfl) (fun _ => (Ev.move rfl)) ?_
      refine JA.tk 8 rfl (.none rfl) (fun _ => (Ev.cast (v' := .slice ob (ds.drop (bel ds.length)).length (cap - bel ds.length)) (eob) (Ev.sliceLo rfl rfl Tryd.underlying23 Tryd.sizeOf22 (l := bel ds.length) rfl (by omega)))) ?_
      refine JA.one 5 ?_
      refine JO.callN rfl (.none rfl) rfl Tryd.call42 (fun w1 hw1 => ih oa cap (ds.take (bel ds.length)) m fr w1 (Dl.take (hd.old hw1) (by omega)) (by omega) (by omega) (by omega) (by omega)) ?_
      rintro _ _ ⟨r1, rfl, rfl, hr1⟩
      refine JA.one 9 ?_
      refine JO.callV rfl (.none rfl) rfl Tryd.call60 (fun w1 hw1 => rOf_any ob (cap - bel ds.length) (ds.drop (bel ds.length)) w1 (hob w1 (hd.old hw1)) (by omega)) ?_
      refine JA.one 10 ?_
      refine JO.new rfl rfl rfl (.none rfl) (En.bs1D (e := 22) rfl Tryd.underlying23 Tryd.sizeOf22 Tryd.zeroValue22) (fun b33 hb33 => ?_)
      refine JA.one 11 ?_
      refine JO.gen rfl rfl rfl (.none rfl) (Eg.append1 (z := (.agg (arr8 (List.replicate 32 0)))) (s := 32) (bytes := 32) rfl rfl rfl Cut.k Tryd.underlying23 (by kernel_rfl) rfl (by decide) (by decide) hr1 (Rds.all memK) (fl_length _) (by decide) (by intro u hu; first | exact fl_one _ u hu | exact u8s_one _ u hu | (simp at hu; subst hu; rfl)) (by have := proofC_le (ds.take (bel ds.length)) fr hm1 (by omega); omega)) ?_
      rintro _ _ ⟨rn, rfl, rfl, hrn⟩
      refine JA.tk 12 rfl (.none rfl) (fun _ => (Ev.assign rfl)) ?_
      refine JA.done (by kernel_rfl) ?_
      refine JQ.thenN ?_
      refine JC.ret ?_
      refine JQ.thenR ?_
      refine JQ.end1 (H' := (Row.b 22 (some rn))) (.inl rfl) rfl (.tmp rfl) ?_ ?_
      · exact Sub.of_cnt (fun a => by (try dsimp only); simp only [cntA]; omega)
      · exact ⟨some rn, by rw [proofR_left hm1 (by omega) hl, List.length_append]; rfl, rfl, by rw [proofR_left hm1 (by omega) hl, List.length_append, fl_append]; exact hrn⟩
    · -- t22 False
      replace hc2 := of_decide_eq_false hc2
      have hl : ¬ m ≤ bel ds.length := by omega
      refine JC.skip ?_
      refine JQ.thenN ?_
      refine JC.seq ?_
      refine JC.regionA (by kernel_rfl) ?_
      refine JA.tk 0 rfl (.none rfl) (fun _ => (Ev.move rfl)) ?_
      refine JA.tk 1 rfl (.none rfl) (fun _ => (Ev.move rfl)) ?_
      refine JA.tk 2 rfl (.none rfl) (fun _ => (Ev.cast (v' := .slice ob (ds.drop (bel ds.length)).length (cap - bel ds.length)) (eob) (Ev.sliceLo rfl rfl Tryd.underlying23 Tryd.sizeOf22 (l := bel ds.length) rfl (by omega)))) ?_
      refine JA.tk 3 rfl (.none rfl) (fun _ => (Ev.move rfl)) ?_
      refine JA.tk 4 rfl (.none rfl) (fun _ => (Ev.move rfl)) ?_
      refine JA.tk 5 rfl (.none rfl) (fun _ => (Ev.cast (v' := .int .i64 ((m - bel ds.length : Nat) : Int)) (congrArg (Value.int .i64) (by omega)) (Ev.bin rfl rfl (sub_i64 (by omega))))) ?_
      refine JA.tk 7 rfl (.none rfl) (fun _ => (Ev.move rfl)) ?_
      refine JA.tk 8 rfl (.none rfl) (fun _ => (Ev.move rfl)) ?_
      refine JA.tk 9 rfl (.none rfl) (fun _ => (Ev.cast (v' := .slice oa (ds.take (bel ds.length)).length cap) (by rw [sub3_0, htl]) (Ev.sliceHi rfl rfl Tryd.underlying23 Tryd.sizeOf22 (h := bel ds.length) rfl (by have := hd.le; omega)))) ?_
      refine JA.one 6 ?_
      refine JO.callN rfl (.none rfl) rfl Tryd.call42 (fun w1 hw1 => ih ob (cap - bel ds.length) (ds.drop (bel ds.length)) (m - bel ds.length) false w1 (hob w1 (hd.old hw1)) (by omega) (by omega) (by omega) (by omega)) ?_
      rintro _ _ ⟨r1, rfl, rfl, hr1⟩
      refine JA.one 10 ?_
      refine JO.callV rfl (.none rfl) rfl Tryd.call60 (fun w1 hw1 => rOf_any oa cap (ds.take (bel ds.length)) w1 (Dl.take (hd.old hw1) (by omega)) (by omega)) ?_
      refine JA.one 11 ?_
      refine JO.new rfl rfl rfl (.none rfl) (En.bs1D (e := 22) rfl Tryd.underlying23 Tryd.sizeOf22 Tryd.zeroValue22) (fun b46 hb46 => ?_)
      refine JA.one 12 ?_
      refine JO.gen rfl rfl rfl (.none rfl) (Eg.append1 (z := (.agg (arr8 (List.replicate 32 0)))) (s := 32) (bytes := 32) rfl rfl rfl Cut.k Tryd.underlying23 (by kernel_rfl) rfl (by decide) (by decide) hr1 (Rds.all memK) (fl_length _) (by decide) (by intro u hu; first | exact fl_one _ u hu | exact u8s_one _ u hu | (simp at hu; subst hu; rfl)) (by have := proofC_le (ds.drop (bel ds.length)) false (m := m - bel ds.length) (by omega) (by omega); omega)) ?_
      rintro _ _ ⟨rn, rfl, rfl, hrn⟩
      refine JA.tk 13 rfl (.none rfl) (fun _ => (Ev.assign rfl)) ?_
      refine JA.done (by kernel_rfl) ?_
      refine JQ.thenN ?_
      refine JC.ret ?_
      refine JQ.end1 (H' := (Row.b 22 (some rn))) (.inl rfl) rfl (.tmp rfl) ?_ ?_
      · exact Sub.of_cnt (fun a => by (try dsimp only); simp only [cntA]; omega)
      · exact ⟨some rn, by rw [proofR_right hm1 (by omega) hl, List.length_append]; rfl, rfl, by rw [proofR_right hm1 (by omega) hl, List.length_append, fl_append]; exact hrn⟩
theorem rcOf_any (oa : Option Addr) (cap : Nat) (ds : List Dig) (m : Nat) (fr : Bool) (w : World) (hd : Dl w oa cap ds) (hmx : ds.length ≤ 1100000) (hm1 : 1 ≤ m) (hm2 : m ≤ ds.length) :
    Calls Tryd.prog 42 #[.slice oa ds.length cap, .int .i64 (m : Int), .bool fr] w (Ret w (fun v H => ∃ r : Option Row, v = Row.v (proofR ds m fr).length r ∧ H = Row.b 22 r ∧ Row.ok 32 (proofR ds m fr).length (fl (proofR ds m fr)) r)) := by
  have key : ∀ (N : Nat) (oa : Option Addr) (cap : Nat) (ds : List Dig) (m : Nat) (fr : Bool) (w : World) (hd : Dl w oa cap ds) (hmx : ds.length ≤ 1100000) (hm1 : 1 ≤ m) (hm2 : m ≤ ds.length), ds.length = N → Calls Tryd.prog 42 #[.slice oa ds.length cap, .int .i64 (m : Int), .bool fr] w (Ret w (fun v H => ∃ r : Option Row, v = Row.v (proofR ds m fr).length r ∧ H = Row.b 22 r ∧ Row.ok 32 (proofR ds m fr).length (fl (proofR ds m fr)) r)) := by
    intro N
    induction N using Nat.strongRecOn with
    | _ N IH =>
      intro oa cap ds m fr w hd hmx hm1 hm2 hN
      exact rcOf_any_step N (fun oa cap ds m fr w hd hmx hm1 hm2 hlt => IH _ hlt oa cap ds m fr w hd hmx hm1 hm2 rfl) oa cap ds m fr w hd hmx hm1 hm2 hN
  exact key _ oa cap ds m fr w hd hmx hm1 hm2 rfl

theorem stepsC_any_step (N : Nat) (ih : ∀ (m : Nat) (n : Nat) (fr : Bool) (w : World) (_ : 1 ≤ m) (_ : m ≤ n) (_ : n ≤ 1024), n < N → Calls Tryd.prog 43 #[.int .i64 (m : Int), .int .i64 (n : Int), .bool fr] w (Ret w (fun v _ => v = .int .i64 ((stepsC m n fr : Nat) : Int)))) (m : Nat) (n : Nat) (fr : Bool) (w : World) (hm1 : 1 ≤ m) (hm2 : m ≤ n) (hmx : n ≤ 1024) (hN : n = N) :
    Calls Tryd.prog 43 #[.int .i64 (m : Int), .int .i64 (n : Int), .bool fr] w (Ret w (fun v _ => v = .int .i64 ((stepsC m n fr : Nat) : Int))) := by
  refine enter (vs := [.int .i64 (m : Int), .int .i64 (n : Int), .bool fr]) Tryd.func43 rfl Tryd.ntmps43 rfl ?_
  refine JC.seq ?_
  refine JC.region ?_
  refine JL.asg ?_
  refine JL.nil ?_
  refine JQ.thenN ?_
  refine JC.seq ?_
  refine JC.seq ?_
  refine JC.region ?_
  refine JL.mv ?_
  refine JL.mv ?_
  refine JL.val rfl rfl rfl (.none rfl) (Ev.bin rfl rfl eql_int) ?_
  refine JL.nil ?_
  refine JQ.thenN ?_
  refine JC.cond rfl (fun hc1 => ?_) (fun hc1 => ?_)
  · -- t10 True
    replace hc1 := of_decide_eq_true hc1
    have he : m = n := by omega
    refine JC.seq ?_
    refine JC.seq ?_
    refine JC.region ?_
    refine JL.mv ?_
    refine JL.nil ?_
    refine JQ.thenN ?_
    refine JC.cond rfl (fun hfr => ?_) (fun hfr => ?_)
    · -- t11 True
      subst hfr
      refine JC.seq ?_
      refine JC.region ?_
      refine JL.asg ?_
      refine JL.nil ?_
      refine JQ.thenN ?_
      refine JC.ret ?_
      refine JQ.thenR ?_
      refine JQ.thenR ?_
      refine JQ.end1 (H' := []) (.inl rfl) rfl (.tmp rfl) ?_ ?_
      · exact Sub.k
      · rw [stepsC_top he]; rfl
    · -- t11 False
      subst hfr
      refine JC.skip ?_
      refine JQ.thenN ?_
      refine JC.seq ?_
      refine JC.region ?_
      refine JL.asg ?_
      refine JL.nil ?_
      refine JQ.thenN ?_
      refine JC.ret ?_
      refine JQ.thenR ?_
      refine JQ.end1 (H' := []) (.inl rfl) rfl (.tmp rfl) ?_ ?_
      · exact Sub.k
      · rw [stepsC_top he]; rfl
  · -- t10 False
    replace hc1 := of_decide_eq_false hc1
    have h2 : 2 ≤ n := by omega
    have hbl := bel_lt h2
    have hbp := bel_pos n
    refine JC.skip ?_
    refine JQ.thenN ?_
    refine JC.seq ?_
    refine JC.region ?_
    refine JL.mv ?_
    refine JL.callV rfl (.none rfl) rfl Tryd.call59 (fun w1 hw1 => below_any n (by omega) (by omega) w1) ?_
    refine JL.asg ?_
    refine JL.nil ?_
    refine JQ.thenN ?_
    refine JC.seq ?_
    refine JC.seq ?_
    refine JC.region ?_
    refine JL.mv ?_
    refine JL.mv ?_
    refine JL.val rfl rfl rfl (.none rfl) (Ev.bin rfl rfl leq_int) ?_
    refine JL.nil ?_
    refine JQ.thenN ?_
    refine JC.cond rfl (fun hc2 => ?_) (fun hc2 => ?_)
    · -- t16 True
      replace hc2 := of_decide_eq_true hc2
      have hl : m ≤ bel n := by omega
      refine JC.seq ?_
      refine JC.region ?_
      refine JL.mv ?_
      refine JL.mv ?_
      refine JL.mv ?_
      refine JL.callV rfl (.none rfl) rfl Tryd.call43 (fun w1 hw1 => ih m (bel n) fr w1 (by omega) (by omega) (by omega) (by omega)) ?_
      have hsl := stepsC_le _ m (bel n) fr (Nat.le_refl _) (by omega) (by omega)
      refine JL.val rfl rfl rfl (.none rfl) (Ev.bin rfl rfl (add_i64 (by omega))) ?_
      refine JL.asg ?_
      refine JL.nil ?_
      refine JQ.thenN ?_
      refine JC.ret ?_
      refine JQ.thenR ?_
      refine JQ.end1 (H' := []) (.inl rfl) rfl (.tmp rfl) ?_ ?_
      · exact Sub.k
      · exact congrArg (Value.int .i64) (by rw [stepsC_left hm1 (by omega) hl]; rfl)
    · -- t16 False
      replace hc2 := of_decide_eq_false hc2
      have hl : ¬ m ≤ bel n := by omega
      refine JC.skip ?_
      refine JQ.thenN ?_
      refine JC.seq ?_
      refine JC.region ?_
      refine JL.mv ?_
      refine JL.mv ?_
      refine JL.val rfl rfl rfl (.none rfl) (Ev.cast (v' := .int .i64 ((m - bel n : Nat) : Int)) (congrArg (Value.int .i64) (by omega)) (Ev.bin rfl rfl (sub_i64 (by omega)))) ?_
      refine JL.mv ?_
      refine JL.mv ?_
      refine JL.val rfl rfl rfl (.none rfl) (Ev.cast (v' := .int .i64 ((n - bel n : Nat) : Int)) (congrArg (Value.int .i64) (by omega)) (Ev.bin rfl rfl (sub_i64 (by omega)))) ?_
      refine JL.callV rfl (.none rfl) rfl Tryd.call43 (fun w1 hw1 => ih (m - bel n) (n - bel n) false w1 (by omega) (by omega) (by omega) (by omega)) ?_
      have hsl := stepsC_le _ (m - bel n) (n - bel n) false (Nat.le_refl _) (by omega) (by omega)
      refine JL.val rfl rfl rfl (.none rfl) (Ev.bin rfl rfl (add_i64 (by omega))) ?_
      refine JL.asg ?_
      refine JL.nil ?_
      refine JQ.thenN ?_
      refine JC.ret ?_
      refine JQ.end1 (H' := []) (.inl rfl) rfl (.tmp rfl) ?_ ?_
      · exact Sub.k
      · exact congrArg (Value.int .i64) (by rw [stepsC_right hm1 (by omega) hl]; rfl)
theorem stepsC_any (m : Nat) (n : Nat) (fr : Bool) (w : World) (hm1 : 1 ≤ m) (hm2 : m ≤ n) (hmx : n ≤ 1024) :
    Calls Tryd.prog 43 #[.int .i64 (m : Int), .int .i64 (n : Int), .bool fr] w (Ret w (fun v _ => v = .int .i64 ((stepsC m n fr : Nat) : Int))) := by
  have key : ∀ (N : Nat) (m : Nat) (n : Nat) (fr : Bool) (w : World) (hm1 : 1 ≤ m) (hm2 : m ≤ n) (hmx : n ≤ 1024), n = N → Calls Tryd.prog 43 #[.int .i64 (m : Int), .int .i64 (n : Int), .bool fr] w (Ret w (fun v _ => v = .int .i64 ((stepsC m n fr : Nat) : Int))) := by
    intro N
    induction N using Nat.strongRecOn with
    | _ N IH =>
      intro m n fr w hm1 hm2 hmx hN
      exact stepsC_any_step N (fun m n fr w hm1 hm2 hmx hlt => IH _ hlt m n fr w hm1 hm2 hmx rfl) m n fr w hm1 hm2 hmx hN
  exact key _ m n fr w hm1 hm2 hmx rfl

theorem ledC_any_step (N : Nat) (ih : ∀ (x : Dig) (m : Nat) (n : Nat) (fr : Bool) (oa : Option Addr) (cap : Nat) (ds : List Dig) (w : World) (_ : 1 ≤ m) (_ : m ≤ n) (_ : n ≤ 1024) (_ : Dl w oa cap ds) (_ : ds.length = stepsC m n fr), n < N → Calls Tryd.prog 40 #[.int .i64 (m : Int), .int .i64 (n : Int), .bool fr, .agg (arr8 x.1), .slice oa ds.length cap] w (Ret w (fun v _ => v = .tuple #[.agg (arr8 (ledC m n fr x ds).1.1), .agg (arr8 (ledC m n fr x ds).2.1)]))) (x : Dig) (m : Nat) (n : Nat) (fr : Bool) (oa : Option Addr) (cap : Nat) (ds : List Dig) (w : World) (hm1 : 1 ≤ m) (hm2 : m ≤ n) (hmx : n ≤ 1024) (hd : Dl w oa cap ds) (hst : ds.length = stepsC m n fr) (hN : n = N) :
    Calls Tryd.prog 40 #[.int .i64 (m : Int), .int .i64 (n : Int), .bool fr, .agg (arr8 x.1), .slice oa ds.length cap] w (Ret w (fun v _ => v = .tuple #[.agg (arr8 (ledC m n fr x ds).1.1), .agg (arr8 (ledC m n fr x ds).2.1)])) := by
  refine enter (vs := [.int .i64 (m : Int), .int .i64 (n : Int), .bool fr, .agg (arr8 x.1), .slice oa ds.length cap]) Tryd.func40 rfl Tryd.ntmps40 rfl ?_
  refine JC.seq ?_
  refine JC.region ?_
  refine JL.new rfl rfl rfl (.none rfl) (En.boxA rfl) (fun b8 hb8 => ?_)
  refine JL.new rfl rfl rfl (.none rfl) (En.allocZ (cs := arr8 (List.replicate 32 0)) Tryd.zeroValue22 rfl) (fun b10 hb10 => ?_)
  refine JL.new rfl rfl rfl (.none rfl) (En.allocZ (cs := arr8 (List.replicate 32 0)) Tryd.zeroValue22 rfl) (fun b11 hb11 => ?_)
  refine JL.nil ?_
  refine JQ.thenN ?_
  refine JC.seq ?_
  refine JC.seq ?_
  refine JC.region ?_
  refine JL.mv ?_
  refine JL.mv ?_
  refine JL.val rfl rfl rfl (.none rfl) (Ev.bin rfl rfl eql_int) ?_
  refine JL.nil ?_
  refine JQ.thenN ?_
  refine JC.cond rfl (fun hc1 => ?_) (fun hc1 => ?_)
  · -- t21 True
    replace hc1 := of_decide_eq_true hc1
    have he : m = n := by omega
    refine JC.seq ?_
    refine JC.seq ?_
    refine JC.region ?_
    refine JL.mv ?_
    refine JL.nil ?_
    refine JQ.thenN ?_
    refine JC.cond rfl (fun hfr => ?_) (fun hfr => ?_)
    · -- t22 True
      subst hfr
      refine JC.seq ?_
      refine JC.regionA (by kernel_rfl) ?_
      refine JA.branch [0, 1] (by kernel_rfl) rfl ?_
      refine JAll.cons rfl ?_ ?_
      · -- 0
        refine JO.val rfl rfl rfl (.none rfl) (Ev.lB Tryd.underlying22 Tryd.sizeOf22) ?_
        refine JA.branch [1, 2] (by kernel_rfl) rfl ?_
        refine JAll.cons rfl ?_ ?_
        · -- 1
          refine JO.val rfl rfl rfl (.none rfl) (Ev.lB Tryd.underlying22 Tryd.sizeOf22) ?_
          refine JA.one 2 ?_
          refine JO.sto rfl rfl (.none rfl) (Es.sA Tryd.sizeOf22) ?_
          refine JA.one 3 ?_
          refine JO.sto rfl rfl (.none rfl) (Es.sA Tryd.sizeOf22) ?_
          refine JA.done (by kernel_rfl) ?_
          refine JQ.thenN ?_
          refine JC.ret ?_
          refine JQ.thenR ?_
          refine JQ.thenR ?_
          refine JQ.end2 (H' := []) (.inl rfl) rfl (.agg rfl memK Tryd.underlying22 rfl Tryd.sizeOf22 szK) (.agg rfl memK Tryd.underlying22 rfl Tryd.sizeOf22 szK) ?_ ?_
          · exact Sub.k
          · first | (rw [ledC_top he]; rfl) | (rw [ledC_top he]; simp only [Bool.false_eq_true, if_false]; rw [hhd]) | rw [ledC_left hm1 (by omega) hl] | rw [ledC_right hm1 (by omega) hl]
        refine JAll.cons rfl ?_ JAll.nil
        refine JO.sto rfl rfl (.none rfl) (Es.sA Tryd.sizeOf22) ?_
        refine JA.one 1 ?_
        refine JO.val rfl rfl rfl (.none rfl) (Ev.lB Tryd.underlying22 Tryd.sizeOf22) ?_
        refine JA.one 3 ?_
        refine JO.sto rfl rfl (.none rfl) (Es.sA Tryd.sizeOf22) ?_
        refine JA.done (by kernel_rfl) ?_
        refine JQ.thenN ?_
        refine JC.ret ?_
        refine JQ.thenR ?_
        refine JQ.thenR ?_
        refine JQ.end2 (H' := []) (.inl rfl) rfl (.agg rfl memK Tryd.underlying22 rfl Tryd.sizeOf22 szK) (.agg rfl memK Tryd.underlying22 rfl Tryd.sizeOf22 szK) ?_ ?_
        · exact Sub.k
        · first | (rw [ledC_top he]; rfl) | (rw [ledC_top he]; simp only [Bool.false_eq_true, if_false]; rw [hhd]) | rw [ledC_left hm1 (by omega) hl] | rw [ledC_right hm1 (by omega) hl]
      refine JAll.cons rfl ?_ JAll.nil
      refine JO.val rfl rfl rfl (.none rfl) (Ev.lB Tryd.underlying22 Tryd.sizeOf22) ?_
      refine JA.one 0 ?_
      refine JO.val rfl rfl rfl (.none rfl) (Ev.lB Tryd.underlying22 Tryd.sizeOf22) ?_
      refine JA.one 2 ?_
      refine JO.sto rfl rfl (.none rfl) (Es.sA Tryd.sizeOf22) ?_
      refine JA.one 3 ?_
      refine JO.sto rfl rfl (.none rfl) (Es.sA Tryd.sizeOf22) ?_
      refine JA.done (by kernel_rfl) ?_
      refine JQ.thenN ?_
      refine JC.ret ?_
      refine JQ.thenR ?_
      refine JQ.thenR ?_
      refine JQ.end2 (H' := []) (.inl rfl) rfl (.agg rfl memK Tryd.underlying22 rfl Tryd.sizeOf22 szK) (.agg rfl memK Tryd.underlying22 rfl Tryd.sizeOf22 szK) ?_ ?_
      · exact Sub.k
      · first | (rw [ledC_top he]; rfl) | (rw [ledC_top he]; simp only [Bool.false_eq_true, if_false]; rw [hhd]) | rw [ledC_left hm1 (by omega) hl] | rw [ledC_right hm1 (by omega) hl]
    · -- t22 False
      subst hfr
      have h1 : ds.length = 1 := by rw [hst, stepsC_top he]; rfl
      obtain ⟨a, rfl⟩ := Cs.get_some hd (by omega)
      obtain ⟨d, hd0⟩ := get_some (l := ds) (k := 0) (by omega)
      have hhd : ds.headD zeroD = d := headD_get hd0
      refine JC.skip ?_
      refine JQ.thenN ?_
      refine JC.seq ?_
      refine JC.regionA (by kernel_rfl) ?_
      refine JA.tk 0 rfl (.none rfl) (fun _ => (Ev.move rfl)) ?_
      refine JA.tk 1 rfl (.none rfl) (fun _ => (Ev.idxS (k := 0) rfl rfl Tryd.underlying23 Tryd.sizeOf22 rfl (by omega))) ?_
      refine JA.tk 3 rfl (.none rfl) (fun _ => (Ev.move rfl)) ?_
      refine JA.tk 4 rfl (.none rfl) (fun _ => (Ev.idxS (k := 0) rfl rfl Tryd.underlying23 Tryd.sizeOf22 rfl (by omega))) ?_
      refine JA.branch [2, 5] (by kernel_rfl) rfl ?_
      refine JAll.cons rfl ?_ ?_
      · -- 2
        refine JO.val rfl rfl rfl (.none rfl) (Ev.loadD rfl Tryd.underlying22 rfl Tryd.sizeOf22 (Rds.old ((hd.mem a rfl).atD hd0))) ?_
        refine JA.branch [5, 6] (by kernel_rfl) rfl ?_
        refine JAll.cons rfl ?_ ?_
        · -- 5
          refine JO.val rfl rfl rfl (.none rfl) (Ev.loadD rfl Tryd.underlying22 rfl Tryd.sizeOf22 (Rds.old ((hd.mem a rfl).atD hd0))) ?_
          refine JA.one 6 ?_
          refine JO.sto rfl rfl (.none rfl) (Es.sA Tryd.sizeOf22) ?_
          refine JA.one 7 ?_
          refine JO.sto rfl rfl (.none rfl) (Es.sA Tryd.sizeOf22) ?_
          refine JA.done (by kernel_rfl) ?_
          refine JQ.thenN ?_
          refine JC.ret ?_
          refine JQ.thenR ?_
          refine JQ.end2 (H' := []) (.inl rfl) rfl (.agg rfl memK Tryd.underlying22 rfl Tryd.sizeOf22 szK) (.agg rfl memK Tryd.underlying22 rfl Tryd.sizeOf22 szK) ?_ ?_
          · exact Sub.k
          · first | (rw [ledC_top he]; rfl) | (rw [ledC_top he]; simp only [Bool.false_eq_true, if_false]; rw [hhd]) | rw [ledC_left hm1 (by omega) hl] | rw [ledC_right hm1 (by omega) hl]
        refine JAll.cons rfl ?_ JAll.nil
        refine JO.sto rfl rfl (.none rfl) (Es.sA Tryd.sizeOf22) ?_
        refine JA.one 5 ?_
        refine JO.val rfl rfl rfl (.none rfl) (Ev.loadD rfl Tryd.underlying22 rfl Tryd.sizeOf22 (Rds.old ((hd.mem a rfl).atD hd0))) ?_
        refine JA.one 7 ?_
        refine JO.sto rfl rfl (.none rfl) (Es.sA Tryd.sizeOf22) ?_
        refine JA.done (by kernel_rfl) ?_
        refine JQ.thenN ?_
        refine JC.ret ?_
        refine JQ.thenR ?_
        refine JQ.end2 (H' := []) (.inl rfl) rfl (.agg rfl memK Tryd.underlying22 rfl Tryd.sizeOf22 szK) (.agg rfl memK Tryd.underlying22 rfl Tryd.sizeOf22 szK) ?_ ?_
        · exact Sub.k
        · first | (rw [ledC_top he]; rfl) | (rw [ledC_top he]; simp only [Bool.false_eq_true, if_false]; rw [hhd]) | rw [ledC_left hm1 (by omega) hl] | rw [ledC_right hm1 (by omega) hl]
      refine JAll.cons rfl ?_ JAll.nil
      refine JO.val rfl rfl rfl (.none rfl) (Ev.loadD rfl Tryd.underlying22 rfl Tryd.sizeOf22 (Rds.old ((hd.mem a rfl).atD hd0))) ?_
      refine JA.one 2 ?_
      refine JO.val rfl rfl rfl (.none rfl) (Ev.loadD rfl Tryd.underlying22 rfl Tryd.sizeOf22 (Rds.old ((hd.mem a rfl).atD hd0))) ?_
      refine JA.one 6 ?_
      refine JO.sto rfl rfl (.none rfl) (Es.sA Tryd.sizeOf22) ?_
      refine JA.one 7 ?_
      refine JO.sto rfl rfl (.none rfl) (Es.sA Tryd.sizeOf22) ?_
      refine JA.done (by kernel_rfl) ?_
      refine JQ.thenN ?_
      refine JC.ret ?_
      refine JQ.thenR ?_
      refine JQ.end2 (H' := []) (.inl rfl) rfl (.agg rfl memK Tryd.underlying22 rfl Tryd.sizeOf22 szK) (.agg rfl memK Tryd.underlying22 rfl Tryd.sizeOf22 szK) ?_ ?_
      · exact Sub.k
      · first | (rw [ledC_top he]; rfl) | (rw [ledC_top he]; simp only [Bool.false_eq_true, if_false]; rw [hhd]) | rw [ledC_left hm1 (by omega) hl] | rw [ledC_right hm1 (by omega) hl]
  · -- t21 False
    replace hc1 := of_decide_eq_false hc1
    have h2 : 2 ≤ n := by omega
    have hbl := bel_lt h2
    have hbp := bel_pos n
    obtain ⟨q, y, rfl, hq⟩ : ∃ q y, ds = q ++ [y] ∧ q.length + 1 = stepsC m n fr := by obtain ⟨k, hk⟩ := stepsC_succ (fr := fr) hm1 (show m < n by omega); obtain ⟨q, y, h3, h4⟩ := ends_ex (p := ds) (k := k) (by omega); exact ⟨q, y, h3, by omega⟩
    have hql : (q ++ [y]).length = q.length + 1 := by simp
    have hle := hd.le
    have hsl := stepsC_le n m n fr (Nat.le_refl _) hm1 hm2
    obtain ⟨a, rfl⟩ := Cs.get_some hd (by omega)
    have hy0 : (q ++ [y])[q.length]? = some y := by simp
    refine JC.skip ?_
    refine JQ.thenN ?_
    refine JC.seq ?_
    refine JC.region ?_
    refine JL.mv ?_
    refine JL.callV rfl (.none rfl) rfl Tryd.call59 (fun w1 hw1 => below_any n (by omega) (by omega) w1) ?_
    refine JL.asg ?_
    refine JL.nil ?_
    refine JQ.thenN ?_
    refine JC.seq ?_
    refine JC.cut (X := Nat) (fun b14 => [(0, .int .i64 (m : Int)), (1, .int .i64 (n : Int)), (2, .bool fr), (4, .slice (some a) (q ++ [y]).length cap), (8, .pointer (some ⟨b8, 0, none⟩)), (10, .pointer (some ⟨b10, 0, none⟩)), (11, .pointer (some ⟨b11, 0, none⟩)), (12, .int .i64 ((bel n : Nat) : Int)), (13, .slice (some a) q.length cap), (14, .pointer (some ⟨b14, 0, none⟩))]) (fun b14 => [(b14, Obj.cells (arr8 y.1) 22 (0, 0)), (b11, Obj.cells (arr8 (List.replicate 32 0)) 22 (0, 0)), (b10, Obj.cells (arr8 (List.replicate 32 0)) 22 (0, 0)), (b8, Obj.cells (arr8 x.1) 22 (0, 0))]) ?_ ?_
    · refine JC.regionA (by kernel_rfl) ?_
      refine JA.tkc 0 rfl (.none rfl) (fun _ => (Ev.move rfl)) ?_
      refine JA.tkc 1 rfl (.none rfl) (fun _ => (Ev.move rfl)) ?_
      refine JA.tkc 5 rfl (.none rfl) (fun _ => (Ev.move rfl)) ?_
      refine JA.tkc 6 rfl (.none rfl) (fun _ => (Ev.move rfl)) ?_
      refine JA.branch [2, 7, 11] (by kernel_rfl) rfl ?_
      refine JAll.cons rfl ?_ ?_
      · -- 2
        refine JO.val rfl rfl rfl (.none rfl) (Ev.lenS rfl Tryd.underlying23) ?_
        refine JA.tkc 3 rfl (.none rfl) (fun _ => (Ev.bin rfl rfl (sub_i64 (by omega)))) ?_
        refine JA.tkc 4 rfl (.none rfl) (fun _ => (Ev.cast (v' := .slice (some a) q.length cap) (sub3_0) (Ev.sliceHi rfl rfl Tryd.underlying23 Tryd.sizeOf22 (h := q.length) (by omega) (by have := hd.le; omega)))) ?_
        refine JA.branch [7, 11] (by kernel_rfl) rfl ?_
        refine JAll.cons rfl ?_ ?_
        · -- 7
          refine JO.val rfl rfl rfl (.none rfl) (Ev.lenS rfl Tryd.underlying23) ?_
          refine JA.tkc 8 rfl (.none rfl) (fun _ => (Ev.bin rfl rfl (sub_i64 (by omega)))) ?_
          refine JA.tkc 9 rfl (.none rfl) (fun _ => (Ev.idxS rfl rfl Tryd.underlying23 Tryd.sizeOf22 (k := q.length) (by omega) (by omega))) ?_
          refine JA.branch [10, 11] (by kernel_rfl) rfl ?_
          refine JAll.cons rfl ?_ ?_
          · -- 10
            refine JO.val rfl rfl rfl (.none rfl) (Ev.loadD rfl Tryd.underlying22 rfl Tryd.sizeOf22 (Rds.old ((hd.mem a rfl).atD hy0))) ?_
            refine JA.one 11 ?_
            refine JO.new rfl rfl rfl (.none rfl) (En.allocZ (cs := arr8 (List.replicate 32 0)) Tryd.zeroValue22 rfl) (fun b14 hb14 => ?_)
            refine JA.tkc 12 rfl (.none rfl) (fun _ => (Ev.assign rfl)) ?_
            refine JA.one 13 ?_
            refine JO.sto rfl rfl (.none rfl) (Es.sA Tryd.sizeOf22) ?_
            refine JA.done (by kernel_rfl) ?_
            refine JQ.cutN b14 ?_ ?_
            · exact Keeps.k
            · exact Sub.k
          refine JAll.cons rfl ?_ JAll.nil
          refine JO.new rfl rfl rfl (.none rfl) (En.allocZ (cs := arr8 (List.replicate 32 0)) Tryd.zeroValue22 rfl) (fun b14 hb14 => ?_)
          refine JA.tkc 12 rfl (.none rfl) (fun _ => (Ev.assign rfl)) ?_
          refine JA.one 10 ?_
          refine JO.val rfl rfl rfl (.none rfl) (Ev.loadD rfl Tryd.underlying22 rfl Tryd.sizeOf22 (Rds.old ((hd.mem a rfl).atD hy0))) ?_
          refine JA.one 13 ?_
          refine JO.sto rfl rfl (.none rfl) (Es.sA Tryd.sizeOf22) ?_
          refine JA.done (by kernel_rfl) ?_
          refine JQ.cutN b14 ?_ ?_
          · exact Keeps.k
          · exact Sub.k
        refine JAll.cons rfl ?_ JAll.nil
        refine JO.new rfl rfl rfl (.none rfl) (En.allocZ (cs := arr8 (List.replicate 32 0)) Tryd.zeroValue22 rfl) (fun b14 hb14 => ?_)
        refine JA.tkc 12 rfl (.none rfl) (fun _ => (Ev.assign rfl)) ?_
        refine JA.one 7 ?_
        refine JO.val rfl rfl rfl (.none rfl) (Ev.lenS rfl Tryd.underlying23) ?_
        refine JA.tkc 8 rfl (.none rfl) (fun _ => (Ev.bin rfl rfl (sub_i64 (by omega)))) ?_
        refine JA.tkc 9 rfl (.none rfl) (fun _ => (Ev.idxS rfl rfl Tryd.underlying23 Tryd.sizeOf22 (k := q.length) (by omega) (by omega))) ?_
        refine JA.one 10 ?_
        refine JO.val rfl rfl rfl (.none rfl) (Ev.loadD rfl Tryd.underlying22 rfl Tryd.sizeOf22 (Rds.old ((hd.mem a rfl).atD hy0))) ?_
        refine JA.one 13 ?_
        refine JO.sto rfl rfl (.none rfl) (Es.sA Tryd.sizeOf22) ?_
        refine JA.done (by kernel_rfl) ?_
        refine JQ.cutN b14 ?_ ?_
        · exact Keeps.k
        · exact Sub.k
      refine JAll.cons rfl ?_ ?_
      · -- 7
        refine JO.val rfl rfl rfl (.none rfl) (Ev.lenS rfl Tryd.underlying23) ?_
        refine JA.tkc 8 rfl (.none rfl) (fun _ => (Ev.bin rfl rfl (sub_i64 (by omega)))) ?_
        refine JA.tkc 9 rfl (.none rfl) (fun _ => (Ev.idxS rfl rfl Tryd.underlying23 Tryd.sizeOf22 (k := q.length) (by omega) (by omega))) ?_
        refine JA.branch [2, 10, 11] (by kernel_rfl) rfl ?_
        refine JAll.cons rfl ?_ ?_
        · -- 2
          refine JO.val rfl rfl rfl (.none rfl) (Ev.lenS rfl Tryd.underlying23) ?_
          refine JA.tkc 3 rfl (.none rfl) (fun _ => (Ev.bin rfl rfl (sub_i64 (by omega)))) ?_
          refine JA.tkc 4 rfl (.none rfl) (fun _ => (Ev.cast (v' := .slice (some a) q.length cap) (sub3_0) (Ev.sliceHi rfl rfl Tryd.underlying23 Tryd.sizeOf22 (h := q.length) (by omega) (by have := hd.le; omega)))) ?_
          refine JA.branch [10, 11] (by kernel_rfl) rfl ?_
          refine JAll.cons rfl ?_ ?_
          · -- 10
            refine JO.val rfl rfl rfl (.none rfl) (Ev.loadD rfl Tryd.underlying22 rfl Tryd.sizeOf22 (Rds.old ((hd.mem a rfl).atD hy0))) ?_
            refine JA.one 11 ?_
            refine JO.new rfl rfl rfl (.none rfl) (En.allocZ (cs := arr8 (List.replicate 32 0)) Tryd.zeroValue22 rfl) (fun b14 hb14 => ?_)
            refine JA.tkc 12 rfl (.none rfl) (fun _ => (Ev.assign rfl)) ?_
            refine JA.one 13 ?_
            refine JO.sto rfl rfl (.none rfl) (Es.sA Tryd.sizeOf22) ?_
            refine JA.done (by kernel_rfl) ?_
            refine JQ.cutN b14 ?_ ?_
            · exact Keeps.k
            · exact Sub.k
          refine JAll.cons rfl ?_ JAll.nil
          refine JO.new rfl rfl rfl (.none rfl) (En.allocZ (cs := arr8 (List.replicate 32 0)) Tryd.zeroValue22 rfl) (fun b14 hb14 => ?_)
          refine JA.tkc 12 rfl (.none rfl) (fun _ => (Ev.assign rfl)) ?_
          refine JA.one 10 ?_
          refine JO.val rfl rfl rfl (.none rfl) (Ev.loadD rfl Tryd.underlying22 rfl Tryd.sizeOf22 (Rds.old ((hd.mem a rfl).atD hy0))) ?_
          refine JA.one 13 ?_
          refine JO.sto rfl rfl (.none rfl) (Es.sA Tryd.sizeOf22) ?_
          refine JA.done (by kernel_rfl) ?_
          refine JQ.cutN b14 ?_ ?_
          · exact Keeps.k
          · exact Sub.k
        refine JAll.cons rfl ?_ ?_
        · -- 10
          refine JO.val rfl rfl rfl (.none rfl) (Ev.loadD rfl Tryd.underlying22 rfl Tryd.sizeOf22 (Rds.old ((hd.mem a rfl).atD hy0))) ?_
          refine JA.branch [2, 11] (by kernel_rfl) rfl ?_
          refine JAll.cons rfl ?_ ?_
          · -- 2
            refine JO.val rfl rfl rfl (.none rfl) (Ev.lenS rfl Tryd.underlying23) ?_
            refine JA.tkc 3 rfl (.none rfl) (fun _ => (Ev.bin rfl rfl (sub_i64 (by omega)))) ?_
            refine JA.tkc 4 rfl (.none rfl) (fun _ => (Ev.cast (v' := .slice (some a) q.length cap) (sub3_0) (Ev.sliceHi rfl rfl Tryd.underlying23 Tryd.sizeOf22 (h := q.length) (by omega) (by have := hd.le; omega)))) ?_
            refine JA.one 11 ?_
            refine JO.new rfl rfl rfl (.none rfl) (En.allocZ (cs := arr8 (List.replicate 32 0)) Tryd.zeroValue22 rfl) (fun b14 hb14 => ?_)
            refine JA.tkc 12 rfl (.none rfl) (fun _ => (Ev.assign rfl)) ?_
            refine JA.one 13 ?_
            refine JO.sto rfl rfl (.none rfl) (Es.sA Tryd.sizeOf22) ?_
            refine JA.done (by kernel_rfl) ?_
            refine JQ.cutN b14 ?_ ?_
            · exact Keeps.k
            · exact Sub.k
          refine JAll.cons rfl ?_ JAll.nil
          refine JO.new rfl rfl rfl (.none rfl) (En.allocZ (cs := arr8 (List.replicate 32 0)) Tryd.zeroValue22 rfl) (fun b14 hb14 => ?_)
          refine JA.one 2 ?_
          refine JO.val rfl rfl rfl (.none rfl) (Ev.lenS rfl Tryd.underlying23) ?_
          refine JA.tkc 3 rfl (.none rfl) (fun _ => (Ev.bin rfl rfl (sub_i64 (by omega)))) ?_
          refine JA.tkc 4 rfl (.none rfl) (fun _ => (Ev.cast (v' := .slice (some a) q.length cap) (sub3_0) (Ev.sliceHi rfl rfl Tryd.underlying23 Tryd.sizeOf22 (h := q.length) (by omega) (by have := hd.le; omega)))) ?_
          refine JA.tkc 12 rfl (.none rfl) (fun _ => (Ev.assign rfl)) ?_
          refine JA.one 13 ?_
          refine JO.sto rfl rfl (.none rfl) (Es.sA Tryd.sizeOf22) ?_
          refine JA.done (by kernel_rfl) ?_
          refine JQ.cutN b14 ?_ ?_
          · exact Keeps.k
          · exact Sub.k
        refine JAll.cons rfl ?_ JAll.nil
        refine JO.new rfl rfl rfl (.none rfl) (En.allocZ (cs := arr8 (List.replicate 32 0)) Tryd.zeroValue22 rfl) (fun b14 hb14 => ?_)
        refine JA.branch [2, 10] (by kernel_rfl) rfl ?_
        refine JAll.cons rfl ?_ ?_
        · -- 2
          refine JO.val rfl rfl rfl (.none rfl) (Ev.lenS rfl Tryd.underlying23) ?_
          refine JA.tkc 3 rfl (.none rfl) (fun _ => (Ev.bin rfl rfl (sub_i64 (by omega)))) ?_
          refine JA.tkc 4 rfl (.none rfl) (fun _ => (Ev.cast (v' := .slice (some a) q.length cap) (sub3_0) (Ev.sliceHi rfl rfl Tryd.underlying23 Tryd.sizeOf22 (h := q.length) (by omega) (by have := hd.le; omega)))) ?_
          refine JA.tkc 12 rfl (.none rfl) (fun _ => (Ev.assign rfl)) ?_
          refine JA.one 10 ?_
          refine JO.val rfl rfl rfl (.none rfl) (Ev.loadD rfl Tryd.underlying22 rfl Tryd.sizeOf22 (Rds.old ((hd.mem a rfl).atD hy0))) ?_
          refine JA.one 13 ?_
          refine JO.sto rfl rfl (.none rfl) (Es.sA Tryd.sizeOf22) ?_
          refine JA.done (by kernel_rfl) ?_
          refine JQ.cutN b14 ?_ ?_
          · exact Keeps.k
          · exact Sub.k
        refine JAll.cons rfl ?_ JAll.nil
        refine JO.val rfl rfl rfl (.none rfl) (Ev.loadD rfl Tryd.underlying22 rfl Tryd.sizeOf22 (Rds.old ((hd.mem a rfl).atD hy0))) ?_
        refine JA.one 2 ?_
        refine JO.val rfl rfl rfl (.none rfl) (Ev.lenS rfl Tryd.underlying23) ?_
        refine JA.tkc 3 rfl (.none rfl) (fun _ => (Ev.bin rfl rfl (sub_i64 (by omega)))) ?_
        refine JA.tkc 4 rfl (.none rfl) (fun _ => (Ev.cast (v' := .slice (some a) q.length cap) (sub3_0) (Ev.sliceHi rfl rfl Tryd.underlying23 Tryd.sizeOf22 (h := q.length) (by omega) (by have := hd.le; omega)))) ?_
        refine JA.tkc 12 rfl (.none rfl) (fun _ => (Ev.assign rfl)) ?_
        refine JA.one 13 ?_
        refine JO.sto rfl rfl (.none rfl) (Es.sA Tryd.sizeOf22) ?_
        refine JA.done (by kernel_rfl) ?_
        refine JQ.cutN b14 ?_ ?_
        · exact Keeps.k
        · exact Sub.k
      refine JAll.cons rfl ?_ JAll.nil
      refine JO.new rfl rfl rfl (.none rfl) (En.allocZ (cs := arr8 (List.replicate 32 0)) Tryd.zeroValue22 rfl) (fun b14 hb14 => ?_)
      refine JA.branch [2, 7] (by kernel_rfl) rfl ?_
      refine JAll.cons rfl ?_ ?_
      · -- 2
        refine JO.val rfl rfl rfl (.none rfl) (Ev.lenS rfl Tryd.underlying23) ?_
        refine JA.tkc 3 rfl (.none rfl) (fun _ => (Ev.bin rfl rfl (sub_i64 (by omega)))) ?_
        refine JA.tkc 4 rfl (.none rfl) (fun _ => (Ev.cast (v' := .slice (some a) q.length cap) (sub3_0) (Ev.sliceHi rfl rfl Tryd.underlying23 Tryd.sizeOf22 (h := q.length) (by omega) (by have := hd.le; omega)))) ?_
        refine JA.tkc 12 rfl (.none rfl) (fun _ => (Ev.assign rfl)) ?_
        refine JA.one 7 ?_
        refine JO.val rfl rfl rfl (.none rfl) (Ev.lenS rfl Tryd.underlying23) ?_
        refine JA.tkc 8 rfl (.none rfl) (fun _ => (Ev.bin rfl rfl (sub_i64 (by omega)))) ?_
        refine JA.tkc 9 rfl (.none rfl) (fun _ => (Ev.idxS rfl rfl Tryd.underlying23 Tryd.sizeOf22 (k := q.length) (by omega) (by omega))) ?_
        refine JA.one 10 ?_
        refine JO.val rfl rfl rfl (.none rfl) (Ev.loadD rfl Tryd.underlying22 rfl Tryd.sizeOf22 (Rds.old ((hd.mem a rfl).atD hy0))) ?_
        refine JA.one 13 ?_
        refine JO.sto rfl rfl (.none rfl) (Es.sA Tryd.sizeOf22) ?_
        refine JA.done (by kernel_rfl) ?_
        refine JQ.cutN b14 ?_ ?_
        · exact Keeps.k
        · exact Sub.k
      refine JAll.cons rfl ?_ JAll.nil
      refine JO.val rfl rfl rfl (.none rfl) (Ev.lenS rfl Tryd.underlying23) ?_
      refine JA.tkc 8 rfl (.none rfl) (fun _ => (Ev.bin rfl rfl (sub_i64 (by omega)))) ?_
      refine JA.tkc 9 rfl (.none rfl) (fun _ => (Ev.idxS rfl rfl Tryd.underlying23 Tryd.sizeOf22 (k := q.length) (by omega) (by omega))) ?_
      refine JA.branch [2, 10] (by kernel_rfl) rfl ?_
      refine JAll.cons rfl ?_ ?_
      · -- 2
        refine JO.val rfl rfl rfl (.none rfl) (Ev.lenS rfl Tryd.underlying23) ?_
        refine JA.tkc 3 rfl (.none rfl) (fun _ => (Ev.bin rfl rfl (sub_i64 (by omega)))) ?_
        refine JA.tkc 4 rfl (.none rfl) (fun _ => (Ev.cast (v' := .slice (some a) q.length cap) (sub3_0) (Ev.sliceHi rfl rfl Tryd.underlying23 Tryd.sizeOf22 (h := q.length) (by omega) (by have := hd.le; omega)))) ?_
        refine JA.tkc 12 rfl (.none rfl) (fun _ => (Ev.assign rfl)) ?_
        refine JA.one 10 ?_
        refine JO.val rfl rfl rfl (.none rfl) (Ev.loadD rfl Tryd.underlying22 rfl Tryd.sizeOf22 (Rds.old ((hd.mem a rfl).atD hy0))) ?_
        refine JA.one 13 ?_
        refine JO.sto rfl rfl (.none rfl) (Es.sA Tryd.sizeOf22) ?_
        refine JA.done (by kernel_rfl) ?_
        refine JQ.cutN b14 ?_ ?_
        · exact Keeps.k
        · exact Sub.k
      refine JAll.cons rfl ?_ JAll.nil
      refine JO.val rfl rfl rfl (.none rfl) (Ev.loadD rfl Tryd.underlying22 rfl Tryd.sizeOf22 (Rds.old ((hd.mem a rfl).atD hy0))) ?_
      refine JA.one 2 ?_
      refine JO.val rfl rfl rfl (.none rfl) (Ev.lenS rfl Tryd.underlying23) ?_
      refine JA.tkc 3 rfl (.none rfl) (fun _ => (Ev.bin rfl rfl (sub_i64 (by omega)))) ?_
      refine JA.tkc 4 rfl (.none rfl) (fun _ => (Ev.cast (v' := .slice (some a) q.length cap) (sub3_0) (Ev.sliceHi rfl rfl Tryd.underlying23 Tryd.sizeOf22 (h := q.length) (by omega) (by have := hd.le; omega)))) ?_
      refine JA.tkc 12 rfl (.none rfl) (fun _ => (Ev.assign rfl)) ?_
      refine JA.one 13 ?_
      refine JO.sto rfl rfl (.none rfl) (Es.sA Tryd.sizeOf22) ?_
      refine JA.done (by kernel_rfl) ?_
      refine JQ.cutN b14 ?_ ?_
      · exact Keeps.k
      · exact Sub.k
    rintro b14
    refine JQ.thenN ?_
    refine JC.seq ?_
    refine JC.seq ?_
    refine JC.region ?_
    refine JL.mv ?_
    refine JL.mv ?_
    refine JL.val rfl rfl rfl (.none rfl) (Ev.bin rfl rfl leq_int) ?_
    refine JL.nil ?_
    refine JQ.thenN ?_
    refine JC.cond rfl (fun hc2 => ?_) (fun hc2 => ?_)
    · -- t46 True
      replace hc2 := of_decide_eq_true hc2
      have hl : m ≤ bel n := by omega
      have hsq : q.length = stepsC m (bel n) fr := by have := stepsC_left (fr := fr) hm1 (show m < n by omega) hl; omega
      refine JC.seq ?_
      refine JC.region ?_
      refine JL.mv ?_
      refine JL.mv ?_
      refine JL.mv ?_
      refine JL.val rfl rfl rfl (.none rfl) (Ev.lB Tryd.underlying22 Tryd.sizeOf22) ?_
      refine JL.mv ?_
      refine JL.callV rfl (.none rfl) rfl Tryd.call40 (fun w1 hw1 => ih x m (bel n) fr (some a) cap q w1 (by omega) (by omega) (by omega) (Dl.init (hd.old hw1)) hsq (by omega)) ?_
      refine JL.mv ?_
      refine JL.val rfl rfl rfl (.none rfl) (Ev.ex0 rfl) ?_
      refine JL.val rfl rfl rfl (.none rfl) (Ev.ex1 rfl) ?_
      refine JL.new rfl rfl rfl (.none rfl) (En.allocZ (cs := arr8 (List.replicate 32 0)) Tryd.zeroValue22 rfl) (fun b15 hb15 => ?_)
      refine JL.new rfl rfl rfl (.none rfl) (En.allocZ (cs := arr8 (List.replicate 32 0)) Tryd.zeroValue22 rfl) (fun b16 hb16 => ?_)
      refine JL.sto rfl rfl (.none rfl) (Es.sA Tryd.sizeOf22) ?_
      refine JL.sto rfl rfl (.none rfl) (Es.sA Tryd.sizeOf22) ?_
      refine JL.nil ?_
      refine JQ.thenN ?_
      refine JC.seq ?_
      refine JC.regionA (by kernel_rfl) ?_
      refine JA.branch [0, 1, 2] (by kernel_rfl) rfl ?_
      refine JAll.cons rfl ?_ ?_
      · -- 0
        refine JO.val rfl rfl rfl (.none rfl) (Ev.lB Tryd.underlying22 Tryd.sizeOf22) ?_
        refine JA.branch [1, 2] (by kernel_rfl) rfl ?_
        refine JAll.cons rfl ?_ ?_
        · -- 1
          refine JO.val rfl rfl rfl (.none rfl) (Ev.lB Tryd.underlying22 Tryd.sizeOf22) ?_
          refine JA.one 2 ?_
          refine JO.val rfl rfl rfl (.none rfl) (Ev.lB Tryd.underlying22 Tryd.sizeOf22) ?_
          refine JA.one 3 ?_
          refine JO.callV rfl (.none rfl) rfl Tryd.call53 (fun w1 hw1 => rNodeG_any _ _ w1) ?_
          refine JA.one 4 ?_
          refine JO.sto rfl rfl (.none rfl) (Es.sA Tryd.sizeOf22) ?_
          refine JA.one 5 ?_
          refine JO.sto rfl rfl (.none rfl) (Es.sA Tryd.sizeOf22) ?_
          refine JA.done (by kernel_rfl) ?_
          refine JQ.thenN ?_
          refine JC.ret ?_
          refine JQ.thenR ?_
          refine JQ.end2 (H' := []) (.inl rfl) rfl (.agg rfl memK Tryd.underlying22 rfl Tryd.sizeOf22 szK) (.agg rfl memK Tryd.underlying22 rfl Tryd.sizeOf22 szK) ?_ ?_
          · exact Sub.k
          · first | (rw [ledC_top he]; rfl) | (rw [ledC_top he]; simp only [Bool.false_eq_true, if_false]; rw [hhd]) | rw [ledC_left hm1 (by omega) hl] | rw [ledC_right hm1 (by omega) hl]
        refine JAll.cons rfl ?_ JAll.nil
        refine JO.val rfl rfl rfl (.none rfl) (Ev.lB Tryd.underlying22 Tryd.sizeOf22) ?_
        refine JA.one 1 ?_
        refine JO.val rfl rfl rfl (.none rfl) (Ev.lB Tryd.underlying22 Tryd.sizeOf22) ?_
        refine JA.one 3 ?_
        refine JO.callV rfl (.none rfl) rfl Tryd.call53 (fun w1 hw1 => rNodeG_any _ _ w1) ?_
        refine JA.one 4 ?_
        refine JO.sto rfl rfl (.none rfl) (Es.sA Tryd.sizeOf22) ?_
        refine JA.one 5 ?_
        refine JO.sto rfl rfl (.none rfl) (Es.sA Tryd.sizeOf22) ?_
        refine JA.done (by kernel_rfl) ?_
        refine JQ.thenN ?_
        refine JC.ret ?_
        refine JQ.thenR ?_
        refine JQ.end2 (H' := []) (.inl rfl) rfl (.agg rfl memK Tryd.underlying22 rfl Tryd.sizeOf22 szK) (.agg rfl memK Tryd.underlying22 rfl Tryd.sizeOf22 szK) ?_ ?_
        · exact Sub.k
        · first | (rw [ledC_top he]; rfl) | (rw [ledC_top he]; simp only [Bool.false_eq_true, if_false]; rw [hhd]) | rw [ledC_left hm1 (by omega) hl] | rw [ledC_right hm1 (by omega) hl]
      refine JAll.cons rfl ?_ ?_
      · -- 1
        refine JO.val rfl rfl rfl (.none rfl) (Ev.lB Tryd.underlying22 Tryd.sizeOf22) ?_
        refine JA.branch [0, 2] (by kernel_rfl) rfl ?_
        refine JAll.cons rfl ?_ ?_
        · -- 0
          refine JO.val rfl rfl rfl (.none rfl) (Ev.lB Tryd.underlying22 Tryd.sizeOf22) ?_
          refine JA.one 2 ?_
          refine JO.val rfl rfl rfl (.none rfl) (Ev.lB Tryd.underlying22 Tryd.sizeOf22) ?_
          refine JA.one 3 ?_
          refine JO.callV rfl (.none rfl) rfl Tryd.call53 (fun w1 hw1 => rNodeG_any _ _ w1) ?_
          refine JA.one 4 ?_
          refine JO.sto rfl rfl (.none rfl) (Es.sA Tryd.sizeOf22) ?_
          refine JA.one 5 ?_
          refine JO.sto rfl rfl (.none rfl) (Es.sA Tryd.sizeOf22) ?_
          refine JA.done (by kernel_rfl) ?_
          refine JQ.thenN ?_
          refine JC.ret ?_
          refine JQ.thenR ?_
          refine JQ.end2 (H' := []) (.inl rfl) rfl (.agg rfl memK Tryd.underlying22 rfl Tryd.sizeOf22 szK) (.agg rfl memK Tryd.underlying22 rfl Tryd.sizeOf22 szK) ?_ ?_
          · exact Sub.k
          · first | (rw [ledC_top he]; rfl) | (rw [ledC_top he]; simp only [Bool.false_eq_true, if_false]; rw [hhd]) | rw [ledC_left hm1 (by omega) hl] | rw [ledC_right hm1 (by omega) hl]
        refine JAll.cons rfl ?_ JAll.nil
        refine JO.val rfl rfl rfl (.none rfl) (Ev.lB Tryd.underlying22 Tryd.sizeOf22) ?_
        refine JA.branch [0, 3] (by kernel_rfl) rfl ?_
        refine JAll.cons rfl ?_ ?_
        · -- 0
          refine JO.val rfl rfl rfl (.none rfl) (Ev.lB Tryd.underlying22 Tryd.sizeOf22) ?_
          refine JA.one 3 ?_
          refine JO.callV rfl (.none rfl) rfl Tryd.call53 (fun w1 hw1 => rNodeG_any _ _ w1) ?_
          refine JA.one 4 ?_
          refine JO.sto rfl rfl (.none rfl) (Es.sA Tryd.sizeOf22) ?_
          refine JA.one 5 ?_
          refine JO.sto rfl rfl (.none rfl) (Es.sA Tryd.sizeOf22) ?_
          refine JA.done (by kernel_rfl) ?_
          refine JQ.thenN ?_
          refine JC.ret ?_
          refine JQ.thenR ?_
          refine JQ.end2 (H' := []) (.inl rfl) rfl (.agg rfl memK Tryd.underlying22 rfl Tryd.sizeOf22 szK) (.agg rfl memK Tryd.underlying22 rfl Tryd.sizeOf22 szK) ?_ ?_
          · exact Sub.k
          · first | (rw [ledC_top he]; rfl) | (rw [ledC_top he]; simp only [Bool.false_eq_true, if_false]; rw [hhd]) | rw [ledC_left hm1 (by omega) hl] | rw [ledC_right hm1 (by omega) hl]
        refine JAll.cons rfl ?_ JAll.nil
        refine JO.callV rfl (.none rfl) rfl Tryd.call53 (fun w1 hw1 => rNodeG_any _ _ w1) ?_
        refine JA.one 0 ?_
        refine JO.val rfl rfl rfl (.none rfl) (Ev.lB Tryd.underlying22 Tryd.sizeOf22) ?_
        refine JA.one 4 ?_
        refine JO.sto rfl rfl (.none rfl) (Es.sA Tryd.sizeOf22) ?_
        refine JA.one 5 ?_
        refine JO.sto rfl rfl (.none rfl) (Es.sA Tryd.sizeOf22) ?_
        refine JA.done (by kernel_rfl) ?_
        refine JQ.thenN ?_
        refine JC.ret ?_
        refine JQ.thenR ?_
        refine JQ.end2 (H' := []) (.inl rfl) rfl (.agg rfl memK Tryd.underlying22 rfl Tryd.sizeOf22 szK) (.agg rfl memK Tryd.underlying22 rfl Tryd.sizeOf22 szK) ?_ ?_
        · exact Sub.k
        · first | (rw [ledC_top he]; rfl) | (rw [ledC_top he]; simp only [Bool.false_eq_true, if_false]; rw [hhd]) | rw [ledC_left hm1 (by omega) hl] | rw [ledC_right hm1 (by omega) hl]
      refine JAll.cons rfl ?_ JAll.nil
      refine JO.val rfl rfl rfl (.none rfl) (Ev.lB Tryd.underlying22 Tryd.sizeOf22) ?_
      refine JA.branch [0, 1] (by kernel_rfl) rfl ?_
      refine JAll.cons rfl ?_ ?_
      · -- 0
        refine JO.val rfl rfl rfl (.none rfl) (Ev.lB Tryd.underlying22 Tryd.sizeOf22) ?_
        refine JA.one 1 ?_
        refine JO.val rfl rfl rfl (.none rfl) (Ev.lB Tryd.underlying22 Tryd.sizeOf22) ?_
        refine JA.one 3 ?_
        refine JO.callV rfl (.none rfl) rfl Tryd.call53 (fun w1 hw1 => rNodeG_any _ _ w1) ?_
        refine JA.one 4 ?_
        refine JO.sto rfl rfl (.none rfl) (Es.sA Tryd.sizeOf22) ?_
        refine JA.one 5 ?_
        refine JO.sto rfl rfl (.none rfl) (Es.sA Tryd.sizeOf22) ?_
        refine JA.done (by kernel_rfl) ?_
        refine JQ.thenN ?_
        refine JC.ret ?_
        refine JQ.thenR ?_
        refine JQ.end2 (H' := []) (.inl rfl) rfl (.agg rfl memK Tryd.underlying22 rfl Tryd.sizeOf22 szK) (.agg rfl memK Tryd.underlying22 rfl Tryd.sizeOf22 szK) ?_ ?_
        · exact Sub.k
        · first | (rw [ledC_top he]; rfl) | (rw [ledC_top he]; simp only [Bool.false_eq_true, if_false]; rw [hhd]) | rw [ledC_left hm1 (by omega) hl] | rw [ledC_right hm1 (by omega) hl]
      refine JAll.cons rfl ?_ JAll.nil
      refine JO.val rfl rfl rfl (.none rfl) (Ev.lB Tryd.underlying22 Tryd.sizeOf22) ?_
      refine JA.branch [0, 3] (by kernel_rfl) rfl ?_
      refine JAll.cons rfl ?_ ?_
      · -- 0
        refine JO.val rfl rfl rfl (.none rfl) (Ev.lB Tryd.underlying22 Tryd.sizeOf22) ?_
        refine JA.one 3 ?_
        refine JO.callV rfl (.none rfl) rfl Tryd.call53 (fun w1 hw1 => rNodeG_any _ _ w1) ?_
        refine JA.one 4 ?_
        refine JO.sto rfl rfl (.none rfl) (Es.sA Tryd.sizeOf22) ?_
        refine JA.one 5 ?_
        refine JO.sto rfl rfl (.none rfl) (Es.sA Tryd.sizeOf22) ?_
        refine JA.done (by kernel_rfl) ?_
        refine JQ.thenN ?_
        refine JC.ret ?_
        refine JQ.thenR ?_
        refine JQ.end2 (H' := []) (.inl rfl) rfl (.agg rfl memK Tryd.underlying22 rfl Tryd.sizeOf22 szK) (.agg rfl memK Tryd.underlying22 rfl Tryd.sizeOf22 szK) ?_ ?_
        · exact Sub.k
        · first | (rw [ledC_top he]; rfl) | (rw [ledC_top he]; simp only [Bool.false_eq_true, if_false]; rw [hhd]) | rw [ledC_left hm1 (by omega) hl] | rw [ledC_right hm1 (by omega) hl]
      refine JAll.cons rfl ?_ JAll.nil
      refine JO.callV rfl (.none rfl) rfl Tryd.call53 (fun w1 hw1 => rNodeG_any _ _ w1) ?_
      refine JA.one 0 ?_
      refine JO.val rfl rfl rfl (.none rfl) (Ev.lB Tryd.underlying22 Tryd.sizeOf22) ?_
      refine JA.one 4 ?_
      refine JO.sto rfl rfl (.none rfl) (Es.sA Tryd.sizeOf22) ?_
      refine JA.one 5 ?_
      refine JO.sto rfl rfl (.none rfl) (Es.sA Tryd.sizeOf22) ?_
      refine JA.done (by kernel_rfl) ?_
      refine JQ.thenN ?_
      refine JC.ret ?_
      refine JQ.thenR ?_
      refine JQ.end2 (H' := []) (.inl rfl) rfl (.agg rfl memK Tryd.underlying22 rfl Tryd.sizeOf22 szK) (.agg rfl memK Tryd.underlying22 rfl Tryd.sizeOf22 szK) ?_ ?_
      · exact Sub.k
      · first | (rw [ledC_top he]; rfl) | (rw [ledC_top he]; simp only [Bool.false_eq_true, if_false]; rw [hhd]) | rw [ledC_left hm1 (by omega) hl] | rw [ledC_right hm1 (by omega) hl]
    · -- t46 False
      replace hc2 := of_decide_eq_false hc2
      have hl : ¬ m ≤ bel n := by omega
      have hsq : q.length = stepsC (m - bel n) (n - bel n) false := by have := stepsC_right (fr := fr) hm1 (show m < n by omega) hl; omega
      refine JC.skip ?_
      refine JQ.thenN ?_
      refine JC.seq ?_
      refine JC.region ?_
      refine JL.mv ?_
      refine JL.mv ?_
      refine JL.val rfl rfl rfl (.none rfl) (Ev.cast (v' := .int .i64 ((m - bel n : Nat) : Int)) (congrArg (Value.int .i64) (by omega)) (Ev.bin rfl rfl (sub_i64 (by omega)))) ?_
      refine JL.mv ?_
      refine JL.mv ?_
      refine JL.val rfl rfl rfl (.none rfl) (Ev.cast (v' := .int .i64 ((n - bel n : Nat) : Int)) (congrArg (Value.int .i64) (by omega)) (Ev.bin rfl rfl (sub_i64 (by omega)))) ?_
      refine JL.val rfl rfl rfl (.none rfl) (Ev.lB Tryd.underlying22 Tryd.sizeOf22) ?_
      refine JL.mv ?_
      refine JL.callV rfl (.none rfl) rfl Tryd.call40 (fun w1 hw1 => ih x (m - bel n) (n - bel n) false (some a) cap q w1 (by omega) (by omega) (by omega) (Dl.init (hd.old hw1)) hsq (by omega)) ?_
      refine JL.mv ?_
      refine JL.val rfl rfl rfl (.none rfl) (Ev.ex0 rfl) ?_
      refine JL.val rfl rfl rfl (.none rfl) (Ev.ex1 rfl) ?_
      refine JL.new rfl rfl rfl (.none rfl) (En.allocZ (cs := arr8 (List.replicate 32 0)) Tryd.zeroValue22 rfl) (fun b17 hb17 => ?_)
      refine JL.new rfl rfl rfl (.none rfl) (En.allocZ (cs := arr8 (List.replicate 32 0)) Tryd.zeroValue22 rfl) (fun b18 hb18 => ?_)
      refine JL.sto rfl rfl (.none rfl) (Es.sA Tryd.sizeOf22) ?_
      refine JL.sto rfl rfl (.none rfl) (Es.sA Tryd.sizeOf22) ?_
      refine JL.nil ?_
      refine JQ.thenN ?_
      refine JC.seq ?_
      refine JC.regionA (by kernel_rfl) ?_
      refine JA.branch [0, 1, 3, 4] (by kernel_rfl) rfl ?_
      refine JAll.cons rfl ?_ ?_
      · -- 0
        refine JO.val rfl rfl rfl (.none rfl) (Ev.lB Tryd.underlying22 Tryd.sizeOf22) ?_
        refine JA.branch [1, 3, 4] (by kernel_rfl) rfl ?_
        refine JAll.cons rfl ?_ ?_
        · -- 1
          refine JO.val rfl rfl rfl (.none rfl) (Ev.lB Tryd.underlying22 Tryd.sizeOf22) ?_
          refine JA.branch [2, 3, 4] (by kernel_rfl) rfl ?_
          refine JAll.cons rfl ?_ ?_
          · -- 2
            refine JO.callV rfl (.none rfl) rfl Tryd.call53 (fun w1 hw1 => rNodeG_any _ _ w1) ?_
            refine JA.branch [3, 4] (by kernel_rfl) rfl ?_
            refine JAll.cons rfl ?_ ?_
            · -- 3
              refine JO.val rfl rfl rfl (.none rfl) (Ev.lB Tryd.underlying22 Tryd.sizeOf22) ?_
              refine JA.one 4 ?_
              refine JO.val rfl rfl rfl (.none rfl) (Ev.lB Tryd.underlying22 Tryd.sizeOf22) ?_
              refine JA.one 5 ?_
              refine JO.callV rfl (.none rfl) rfl Tryd.call53 (fun w1 hw1 => rNodeG_any _ _ w1) ?_
              refine JA.one 6 ?_
              refine JO.sto rfl rfl (.none rfl) (Es.sA Tryd.sizeOf22) ?_
              refine JA.one 7 ?_
              refine JO.sto rfl rfl (.none rfl) (Es.sA Tryd.sizeOf22) ?_
              refine JA.done (by kernel_rfl) ?_
              refine JQ.thenN ?_
              refine JC.ret ?_
              refine JQ.end2 (H' := []) (.inl rfl) rfl (.agg rfl memK Tryd.underlying22 rfl Tryd.sizeOf22 szK) (.agg rfl memK Tryd.underlying22 rfl Tryd.sizeOf22 szK) ?_ ?_
              · exact Sub.k
              · first | (rw [ledC_top he]; rfl) | (rw [ledC_top he]; simp only [Bool.false_eq_true, if_false]; rw [hhd]) | rw [ledC_left hm1 (by omega) hl] | rw [ledC_right hm1 (by omega) hl]
            refine JAll.cons rfl ?_ JAll.nil
            refine JO.val rfl rfl rfl (.none rfl) (Ev.lB Tryd.underlying22 Tryd.sizeOf22) ?_
            refine JA.one 3 ?_
            refine JO.val rfl rfl rfl (.none rfl) (Ev.lB Tryd.underlying22 Tryd.sizeOf22) ?_
            refine JA.one 5 ?_
            refine JO.callV rfl (.none rfl) rfl Tryd.call53 (fun w1 hw1 => rNodeG_any _ _ w1) ?_
            refine JA.one 6 ?_
            refine JO.sto rfl rfl (.none rfl) (Es.sA Tryd.sizeOf22) ?_
            refine JA.one 7 ?_
            refine JO.sto rfl rfl (.none rfl) (Es.sA Tryd.sizeOf22) ?_
            refine JA.done (by kernel_rfl) ?_
            refine JQ.thenN ?_
            refine JC.ret ?_
            refine JQ.end2 (H' := []) (.inl rfl) rfl (.agg rfl memK Tryd.underlying22 rfl Tryd.sizeOf22 szK) (.agg rfl memK Tryd.underlying22 rfl Tryd.sizeOf22 szK) ?_ ?_
            · exact Sub.k
            · first | (rw [ledC_top he]; rfl) | (rw [ledC_top he]; simp only [Bool.false_eq_true, if_false]; rw [hhd]) | rw [ledC_left hm1 (by omega) hl] | rw [ledC_right hm1 (by omega) hl]
          refine JAll.cons rfl ?_ ?_
          · -- 3
            refine JO.val rfl rfl rfl (.none rfl) (Ev.lB Tryd.underlying22 Tryd.sizeOf22) ?_
            refine JA.branch [2, 4] (by kernel_rfl) rfl ?_
            refine JAll.cons rfl ?_ ?_
            · -- 2
              refine JO.callV rfl (.none rfl) rfl Tryd.call53 (fun w1 hw1 => rNodeG_any _ _ w1) ?_
              refine JA.one 4 ?_
              refine JO.val rfl rfl rfl (.none rfl) (Ev.lB Tryd.underlying22 Tryd.sizeOf22) ?_
              refine JA.one 5 ?_
              refine JO.callV rfl (.none rfl) rfl Tryd.call53 (fun w1 hw1 => rNodeG_any _ _ w1) ?_
              refine JA.one 6 ?_
              refine JO.sto rfl rfl (.none rfl) (Es.sA Tryd.sizeOf22) ?_
              refine JA.one 7 ?_
              refine JO.sto rfl rfl (.none rfl) (Es.sA Tryd.sizeOf22) ?_
              refine JA.done (by kernel_rfl) ?_
              refine JQ.thenN ?_
              refine JC.ret ?_
              refine JQ.end2 (H' := []) (.inl rfl) rfl (.agg rfl memK Tryd.underlying22 rfl Tryd.sizeOf22 szK) (.agg rfl memK Tryd.underlying22 rfl Tryd.sizeOf22 szK) ?_ ?_
              · exact Sub.k
              · first | (rw [ledC_top he]; rfl) | (rw [ledC_top he]; simp only [Bool.false_eq_true, if_false]; rw [hhd]) | rw [ledC_left hm1 (by omega) hl] | rw [ledC_right hm1 (by omega) hl]
            refine JAll.cons rfl ?_ JAll.nil
            refine JO.val rfl rfl rfl (.none rfl) (Ev.lB Tryd.underlying22 Tryd.sizeOf22) ?_
            refine JA.one 2 ?_
            refine JO.callV rfl (.none rfl) rfl Tryd.call53 (fun w1 hw1 => rNodeG_any _ _ w1) ?_
            refine JA.one 5 ?_
            refine JO.callV rfl (.none rfl) rfl Tryd.call53 (fun w1 hw1 => rNodeG_any _ _ w1) ?_
            refine JA.one 6 ?_
            refine JO.sto rfl rfl (.none rfl) (Es.sA Tryd.sizeOf22) ?_
            refine JA.one 7 ?_
            refine JO.sto rfl rfl (.none rfl) (Es.sA Tryd.sizeOf22) ?_
            refine JA.done (by kernel_rfl) ?_
            refine JQ.thenN ?_
            refine JC.ret ?_
            refine JQ.end2 (H' := []) (.inl rfl) rfl (.agg rfl memK Tryd.underlying22 rfl Tryd.sizeOf22 szK) (.agg rfl memK Tryd.underlying22 rfl Tryd.sizeOf22 szK) ?_ ?_
            · exact Sub.k
            · first | (rw [ledC_top he]; rfl) | (rw [ledC_top he]; simp only [Bool.false_eq_true, if_false]; rw [hhd]) | rw [ledC_left hm1 (by omega) hl] | rw [ledC_right hm1 (by omega) hl]
          refine JAll.cons rfl ?_ JAll.nil
          refine JO.val rfl rfl rfl (.none rfl) (Ev.lB Tryd.underlying22 Tryd.sizeOf22) ?_
          refine JA.branch [2, 3] (by kernel_rfl) rfl ?_
          refine JAll.cons rfl ?_ ?_
          · -- 2
            refine JO.callV rfl (.none rfl) rfl Tryd.call53 (fun w1 hw1 => rNodeG_any _ _ w1) ?_
            refine JA.one 3 ?_
            refine JO.val rfl rfl rfl (.none rfl) (Ev.lB Tryd.underlying22 Tryd.sizeOf22) ?_
            refine JA.one 5 ?_
            refine JO.callV rfl (.none rfl) rfl Tryd.call53 (fun w1 hw1 => rNodeG_any _ _ w1) ?_
            refine JA.one 6 ?_
            refine JO.sto rfl rfl (.none rfl) (Es.sA Tryd.sizeOf22) ?_
            refine JA.one 7 ?_
            refine JO.sto rfl rfl (.none rfl) (Es.sA Tryd.sizeOf22) ?_
            refine JA.done (by kernel_rfl) ?_
            refine JQ.thenN ?_
            refine JC.ret ?_
            refine JQ.end2 (H' := []) (.inl rfl) rfl (.agg rfl memK Tryd.underlying22 rfl Tryd.sizeOf22 szK) (.agg rfl memK Tryd.underlying22 rfl Tryd.sizeOf22 szK) ?_ ?_
            · exact Sub.k
            · first | (rw [ledC_top he]; rfl) | (rw [ledC_top he]; simp only [Bool.false_eq_true, if_false]; rw [hhd]) | rw [ledC_left hm1 (by omega) hl] | rw [ledC_right hm1 (by omega) hl]
          refine JAll.cons rfl ?_ JAll.nil
          refine JO.val rfl rfl rfl (.none rfl) (Ev.lB Tryd.underlying22 Tryd.sizeOf22) ?_
          refine JA.one 2 ?_
          refine JO.callV rfl (.none rfl) rfl Tryd.call53 (fun w1 hw1 => rNodeG_any _ _ w1) ?_
          refine JA.one 5 ?_
          refine JO.callV rfl (.none rfl) rfl Tryd.call53 (fun w1 hw1 => rNodeG_any _ _ w1) ?_
          refine JA.one 6 ?_
          refine JO.sto rfl rfl (.none rfl) (Es.sA Tryd.sizeOf22) ?_
          refine JA.one 7 ?_
          refine JO.sto rfl rfl (.none rfl) (Es.sA Tryd.sizeOf22) ?_
          refine JA.done (by kernel_rfl) ?_
          refine JQ.thenN ?_
          refine JC.ret ?_
          refine JQ.end2 (H' := []) (.inl rfl) rfl (.agg rfl memK Tryd.underlying22 rfl Tryd.sizeOf22 szK) (.agg rfl memK Tryd.underlying22 rfl Tryd.sizeOf22 szK) ?_ ?_
          · exact Sub.k
          · first | (rw [ledC_top he]; rfl) | (rw [ledC_top he]; simp only [Bool.false_eq_true, if_false]; rw [hhd]) | rw [ledC_left hm1 (by omega) hl] | rw [ledC_right hm1 (by omega) hl]
        refine JAll.cons rfl ?_ ?_
        · -- 3
          refine JO.val rfl rfl rfl (.none rfl) (Ev.lB Tryd.underlying22 Tryd.sizeOf22) ?_
          refine JA.branch [1, 4] (by kernel_rfl) rfl ?_
          refine JAll.cons rfl ?_ ?_
          · -- 1
            refine JO.val rfl rfl rfl (.none rfl) (Ev.lB Tryd.underlying22 Tryd.sizeOf22) ?_
            refine JA.branch [2, 4] (by kernel_rfl) rfl ?_
            refine JAll.cons rfl ?_ ?_
            · -- 2
              refine JO.callV rfl (.none rfl) rfl Tryd.call53 (fun w1 hw1 => rNodeG_any _ _ w1) ?_
              refine JA.one 4 ?_
              refine JO.val rfl rfl rfl (.none rfl) (Ev.lB Tryd.underlying22 Tryd.sizeOf22) ?_
              refine JA.one 5 ?_
              refine JO.callV rfl (.none rfl) rfl Tryd.call53 (fun w1 hw1 => rNodeG_any _ _ w1) ?_
              refine JA.one 6 ?_
              refine JO.sto rfl rfl (.none rfl) (Es.sA Tryd.sizeOf22) ?_
              refine JA.one 7 ?_
              refine JO.sto rfl rfl (.none rfl) (Es.sA Tryd.sizeOf22) ?_
              refine JA.done (by kernel_rfl) ?_
              refine JQ.thenN ?_
              refine JC.ret ?_
              refine JQ.end2 (H' := []) (.inl rfl) rfl (.agg rfl memK Tryd.underlying22 rfl Tryd.sizeOf22 szK) (.agg rfl memK Tryd.underlying22 rfl Tryd.sizeOf22 szK) ?_ ?_
              · exact Sub.k
              · first | (rw [ledC_top he]; rfl) | (rw [ledC_top he]; simp only [Bool.false_eq_true, if_false]; rw [hhd]) | rw [ledC_left hm1 (by omega) hl] | rw [ledC_right hm1 (by omega) hl]
            refine JAll.cons rfl ?_ JAll.nil
            refine JO.val rfl rfl rfl (.none rfl) (Ev.lB Tryd.underlying22 Tryd.sizeOf22) ?_
            refine JA.one 2 ?_
            refine JO.callV rfl (.none rfl) rfl Tryd.call53 (fun w1 hw1 => rNodeG_any _ _ w1) ?_
            refine JA.one 5 ?_
            refine JO.callV rfl (.none rfl) rfl Tryd.call53 (fun w1 hw1 => rNodeG_any _ _ w1) ?_
            refine JA.one 6 ?_
            refine JO.sto rfl rfl (.none rfl) (Es.sA Tryd.sizeOf22) ?_
            refine JA.one 7 ?_
            refine JO.sto rfl rfl (.none rfl) (Es.sA Tryd.sizeOf22) ?_
            refine JA.done (by kernel_rfl) ?_
            refine JQ.thenN ?_
            refine JC.ret ?_
            refine JQ.end2 (H' := []) (.inl rfl) rfl (.agg rfl memK Tryd.underlying22 rfl Tryd.sizeOf22 szK) (.agg rfl memK Tryd.underlying22 rfl Tryd.sizeOf22 szK) ?_ ?_
            · exact Sub.k
            · first | (rw [ledC_top he]; rfl) | (rw [ledC_top he]; simp only [Bool.false_eq_true, if_false]; rw [hhd]) | rw [ledC_left hm1 (by omega) hl] | rw [ledC_right hm1 (by omega) hl]
          refine JAll.cons rfl ?_ JAll.nil
          refine JO.val rfl rfl rfl (.none rfl) (Ev.lB Tryd.underlying22 Tryd.sizeOf22) ?_
          refine JA.one 1 ?_
          refine JO.val rfl rfl rfl (.none rfl) (Ev.lB Tryd.underlying22 Tryd.sizeOf22) ?_
          refine JA.one 2 ?_
          refine JO.callV rfl (.none rfl) rfl Tryd.call53 (fun w1 hw1 => rNodeG_any _ _ w1) ?_
          refine JA.one 5 ?_
          refine JO.callV rfl (.none rfl) rfl Tryd.call53 (fun w1 hw1 => rNodeG_any _ _ w1) ?_
          refine JA.one 6 ?_
          refine JO.sto rfl rfl (.none rfl) (Es.sA Tryd.sizeOf22) ?_
          refine JA.one 7 ?_
          refine JO.sto rfl rfl (.none rfl) (Es.sA Tryd.sizeOf22) ?_
          refine JA.done (by kernel_rfl) ?_
          refine JQ.thenN ?_
          refine JC.ret ?_
          refine JQ.end2 (H' := []) (.inl rfl) rfl (.agg rfl memK Tryd.underlying22 rfl Tryd.sizeOf22 szK) (.agg rfl memK Tryd.underlying22 rfl Tryd.sizeOf22 szK) ?_ ?_
          · exact Sub.k
          · first | (rw [ledC_top he]; rfl) | (rw [ledC_top he]; simp only [Bool.false_eq_true, if_false]; rw [hhd]) | rw [ledC_left hm1 (by omega) hl] | rw [ledC_right hm1 (by omega) hl]
        refine JAll.cons rfl ?_ JAll.nil
        refine JO.val rfl rfl rfl (.none rfl) (Ev.lB Tryd.underlying22 Tryd.sizeOf22) ?_
        refine JA.branch [1, 3] (by kernel_rfl) rfl ?_
        refine JAll.cons rfl ?_ ?_
        · -- 1
          refine JO.val rfl rfl rfl (.none rfl) (Ev.lB Tryd.underlying22 Tryd.sizeOf22) ?_
          refine JA.branch [2, 3] (by kernel_rfl) rfl ?_
          refine JAll.cons rfl ?_ ?_
          · -- 2
            refine JO.callV rfl (.none rfl) rfl Tryd.call53 (fun w1 hw1 => rNodeG_any _ _ w1) ?_
            refine JA.one 3 ?_
            refine JO.val rfl rfl rfl (.none rfl) (Ev.lB Tryd.underlying22 Tryd.sizeOf22) ?_
            refine JA.one 5 ?_
            refine JO.callV rfl (.none rfl) rfl Tryd.call53 (fun w1 hw1 => rNodeG_any _ _ w1) ?_
            refine JA.one 6 ?_
            refine JO.sto rfl rfl (.none rfl) (Es.sA Tryd.sizeOf22) ?_
            refine JA.one 7 ?_
            refine JO.sto rfl rfl (.none rfl) (Es.sA Tryd.sizeOf22) ?_
            refine JA.done (by kernel_rfl) ?_
            refine JQ.thenN ?_
            refine JC.ret ?_
            refine JQ.end2 (H' := []) (.inl rfl) rfl (.agg rfl memK Tryd.underlying22 rfl Tryd.sizeOf22 szK) (.agg rfl memK Tryd.underlying22 rfl Tryd.sizeOf22 szK) ?_ ?_
            · exact Sub.k
            · first | (rw [ledC_top he]; rfl) | (rw [ledC_top he]; simp only [Bool.false_eq_true, if_false]; rw [hhd]) | rw [ledC_left hm1 (by omega) hl] | rw [ledC_right hm1 (by omega) hl]
          refine JAll.cons rfl ?_ JAll.nil
          refine JO.val rfl rfl rfl (.none rfl) (Ev.lB Tryd.underlying22 Tryd.sizeOf22) ?_
          refine JA.one 2 ?_
          refine JO.callV rfl (.none rfl) rfl Tryd.call53 (fun w1 hw1 => rNodeG_any _ _ w1) ?_
          refine JA.one 5 ?_
          refine JO.callV rfl (.none rfl) rfl Tryd.call53 (fun w1 hw1 => rNodeG_any _ _ w1) ?_
          refine JA.one 6 ?_
          refine JO.sto rfl rfl (.none rfl) (Es.sA Tryd.sizeOf22) ?_
          refine JA.one 7 ?_
          refine JO.sto rfl rfl (.none rfl) (Es.sA Tryd.sizeOf22) ?_
          refine JA.done (by kernel_rfl) ?_
          refine JQ.thenN ?_
          refine JC.ret ?_
          refine JQ.end2 (H' := []) (.inl rfl) rfl (.agg rfl memK Tryd.underlying22 rfl Tryd.sizeOf22 szK) (.agg rfl memK Tryd.underlying22 rfl Tryd.sizeOf22 szK) ?_ ?_
          · exact Sub.k
          · first | (rw [ledC_top he]; rfl) | (rw [ledC_top he]; simp only [Bool.false_eq_true, if_false]; rw [hhd]) | rw [ledC_left hm1 (by omega) hl] | rw [ledC_right hm1 (by omega) hl]
        refine JAll.cons rfl ?_ JAll.nil
        refine JO.val rfl rfl rfl (.none rfl) (Ev.lB Tryd.underlying22 Tryd.sizeOf22) ?_
        refine JA.one 1 ?_
        refine JO.val rfl rfl rfl (.none rfl) (Ev.lB Tryd.underlying22 Tryd.sizeOf22) ?_
        refine JA.one 2 ?_
        refine JO.callV rfl (.none rfl) rfl Tryd.call53 (fun w1 hw1 => rNodeG_any _ _ w1) ?_
        refine JA.one 5 ?_
        refine JO.callV rfl (.none rfl) rfl Tryd.call53 (fun w1 hw1 => rNodeG_any _ _ w1) ?_
        refine JA.one 6 ?_
        refine JO.sto rfl rfl (.none rfl) (Es.sA Tryd.sizeOf22) ?_
        refine JA.one 7 ?_
        refine JO.sto rfl rfl (.none rfl) (Es.sA Tryd.sizeOf22) ?_
        refine JA.done (by kernel_rfl) ?_
        refine JQ.thenN ?_
        refine JC.ret ?_
        refine JQ.end2 (H' := []) (.inl rfl) rfl (.agg rfl memK Tryd.underlying22 rfl Tryd.sizeOf22 szK) (.agg rfl memK Tryd.underlying22 rfl Tryd.sizeOf22 szK) ?_ ?_
        · exact Sub.k
        · first | (rw [ledC_top he]; rfl) | (rw [ledC_top he]; simp only [Bool.false_eq_true, if_false]; rw [hhd]) | rw [ledC_left hm1 (by omega) hl] | rw [ledC_right hm1 (by omega) hl]
      refine JAll.cons rfl ?_ ?_
      · -- 1
        refine JO.val rfl rfl rfl (.none rfl) (Ev.lB Tryd.underlying22 Tryd.sizeOf22) ?_
        refine JA.branch [0, 3, 4] (by kernel_rfl) rfl ?_
        refine JAll.cons rfl ?_ ?_
        · -- 0
          refine JO.val rfl rfl rfl (.none rfl) (Ev.lB Tryd.underlying22 Tryd.sizeOf22) ?_
          refine JA.branch [2, 3, 4] (by kernel_rfl) rfl ?_
          refine JAll.cons rfl ?_ ?_
          · -- 2
            refine JO.callV rfl (.none rfl) rfl Tryd.call53 (fun w1 hw1 => rNodeG_any _ _ w1) ?_
            refine JA.branch [3, 4] (by kernel_rfl) rfl ?_
            refine JAll.cons rfl ?_ ?_
            · -- 3
              refine JO.val rfl rfl rfl (.none rfl) (Ev.lB Tryd.underlying22 Tryd.sizeOf22) ?_
              refine JA.one 4 ?_
              refine JO.val rfl rfl rfl (.none rfl) (Ev.lB Tryd.underlying22 Tryd.sizeOf22) ?_
              refine JA.one 5 ?_
              refine JO.callV rfl (.none rfl) rfl Tryd.call53 (fun w1 hw1 => rNodeG_any _ _ w1) ?_
              refine JA.one 6 ?_
              refine JO.sto rfl rfl (.none rfl) (Es.sA Tryd.sizeOf22) ?_
              refine JA.one 7 ?_
              refine JO.sto rfl rfl (.none rfl) (Es.sA Tryd.sizeOf22) ?_
              refine JA.done (by kernel_rfl) ?_
              refine JQ.thenN ?_
              refine JC.ret ?_
              refine JQ.end2 (H' := []) (.inl rfl) rfl (.agg rfl memK Tryd.underlying22 rfl Tryd.sizeOf22 szK) (.agg rfl memK Tryd.underlying22 rfl Tryd.sizeOf22 szK) ?_ ?_
              · exact Sub.k
              · first | (rw [ledC_top he]; rfl) | (rw [ledC_top he]; simp only [Bool.false_eq_true, if_false]; rw [hhd]) | rw [ledC_left hm1 (by omega) hl] | rw [ledC_right hm1 (by omega) hl]
            refine JAll.cons rfl ?_ JAll.nil
            refine JO.val rfl rfl rfl (.none rfl) (Ev.lB Tryd.underlying22 Tryd.sizeOf22) ?_
            refine JA.one 3 ?_
            refine JO.val rfl rfl rfl (.none rfl) (Ev.lB Tryd.underlying22 Tryd.sizeOf22) ?_
            refine JA.one 5 ?_
            refine JO.callV rfl (.none rfl) rfl Tryd.call53 (fun w1 hw1 => rNodeG_any _ _ w1) ?_
            refine JA.one 6 ?_
            refine JO.sto rfl rfl (.none rfl) (Es.sA Tryd.sizeOf22) ?_
            refine JA.one 7 ?_
            refine JO.sto rfl rfl (.none rfl) (Es.sA Tryd.sizeOf22) ?_
            refine JA.done (by kernel_rfl) ?_
            refine JQ.thenN ?_
            refine JC.ret ?_
            refine JQ.end2 (H' := []) (.inl rfl) rfl (.agg rfl memK Tryd.underlying22 rfl Tryd.sizeOf22 szK) (.agg rfl memK Tryd.underlying22 rfl Tryd.sizeOf22 szK) ?_ ?_
            · exact Sub.k
            · first | (rw [ledC_top he]; rfl) | (rw [ledC_top he]; simp only [Bool.false_eq_true, if_false]; rw [hhd]) | rw [ledC_left hm1 (by omega) hl] | rw [ledC_right hm1 (by omega) hl]
          refine JAll.cons rfl ?_ ?_
          · -- 3
            refine JO.val rfl rfl rfl (.none rfl) (Ev.lB Tryd.underlying22 Tryd.sizeOf22) ?_
            refine JA.branch [2, 4] (by kernel_rfl) rfl ?_
            refine JAll.cons rfl ?_ ?_
            · -- 2
              refine JO.callV rfl (.none rfl) rfl Tryd.call53 (fun w1 hw1 => rNodeG_any _ _ w1) ?_
              refine JA.one 4 ?_
              refine JO.val rfl rfl rfl (.none rfl) (Ev.lB Tryd.underlying22 Tryd.sizeOf22) ?_
              refine JA.one 5 ?_
              refine JO.callV rfl (.none rfl) rfl Tryd.call53 (fun w1 hw1 => rNodeG_any _ _ w1) ?_
              refine JA.one 6 ?_
              refine JO.sto rfl rfl (.none rfl) (Es.sA Tryd.sizeOf22) ?_
              refine JA.one 7 ?_
              refine JO.sto rfl rfl (.none rfl) (Es.sA Tryd.sizeOf22) ?_
              refine JA.done (by kernel_rfl) ?_
              refine JQ.thenN ?_
              refine JC.ret ?_
              refine JQ.end2 (H' := []) (.inl rfl) rfl (.agg rfl memK Tryd.underlying22 rfl Tryd.sizeOf22 szK) (.agg rfl memK Tryd.underlying22 rfl Tryd.sizeOf22 szK) ?_ ?_
              · exact Sub.k
              · first | (rw [ledC_top he]; rfl) | (rw [ledC_top he]; simp only [Bool.false_eq_true, if_false]; rw [hhd]) | rw [ledC_left hm1 (by omega) hl] | rw [ledC_right hm1 (by omega) hl]
            refine JAll.cons rfl ?_ JAll.nil
            refine JO.val rfl rfl rfl (.none rfl) (Ev.lB Tryd.underlying22 Tryd.sizeOf22) ?_
            refine JA.one 2 ?_
            refine JO.callV rfl (.none rfl) rfl Tryd.call53 (fun w1 hw1 => rNodeG_any _ _ w1) ?_
            refine JA.one 5 ?_
            refine JO.callV rfl (.none rfl) rfl Tryd.call53 (fun w1 hw1 => rNodeG_any _ _ w1) ?_
            refine JA.one 6 ?_
            refine JO.sto rfl rfl (.none rfl) (Es.sA Tryd.sizeOf22) ?_
            refine JA.one 7 ?_
            refine JO.sto rfl rfl (.none rfl) (Es.sA Tryd.sizeOf22) ?_
            refine JA.done (by kernel_rfl) ?_
            refine JQ.thenN ?_
            refine JC.ret ?_
            refine JQ.end2 (H' := []) (.inl rfl) rfl (.agg rfl memK Tryd.underlying22 rfl Tryd.sizeOf22 szK) (.agg rfl memK Tryd.underlying22 rfl Tryd.sizeOf22 szK) ?_ ?_
            · exact Sub.k
            · first | (rw [ledC_top he]; rfl) | (rw [ledC_top he]; simp only [Bool.false_eq_true, if_false]; rw [hhd]) | rw [ledC_left hm1 (by omega) hl] | rw [ledC_right hm1 (by omega) hl]
          refine JAll.cons rfl ?_ JAll.nil
          refine JO.val rfl rfl rfl (.none rfl) (Ev.lB Tryd.underlying22 Tryd.sizeOf22) ?_
          refine JA.branch [2, 3] (by kernel_rfl) rfl ?_
          refine JAll.cons rfl ?_ ?_
          · -- 2
            refine JO.callV rfl (.none rfl) rfl Tryd.call53 (fun w1 hw1 => rNodeG_any _ _ w1) ?_
            refine JA.one 3 ?_
            refine JO.val rfl rfl rfl (.none rfl) (Ev.lB Tryd.underlying22 Tryd.sizeOf22) ?_
            refine JA.one 5 ?_
            refine JO.callV rfl (.none rfl) rfl Tryd.call53 (fun w1 hw1 => rNodeG_any _ _ w1) ?_
            refine JA.one 6 ?_
            refine JO.sto rfl rfl (.none rfl) (Es.sA Tryd.sizeOf22) ?_
            refine JA.one 7 ?_
            refine JO.sto rfl rfl (.none rfl) (Es.sA Tryd.sizeOf22) ?_
            refine JA.done (by kernel_rfl) ?_
            refine JQ.thenN ?_
            refine JC.ret ?_
            refine JQ.end2 (H' := []) (.inl rfl) rfl (.agg rfl memK Tryd.underlying22 rfl Tryd.sizeOf22 szK) (.agg rfl memK Tryd.underlying22 rfl Tryd.sizeOf22 szK) ?_ ?_
            · exact Sub.k
            · first | (rw [ledC_top he]; rfl) | (rw [ledC_top he]; simp only [Bool.false_eq_true, if_false]; rw [hhd]) | rw [ledC_left hm1 (by omega) hl] | rw [ledC_right hm1 (by omega) hl]
          refine JAll.cons rfl ?_ JAll.nil
          refine JO.val rfl rfl rfl (.none rfl) (Ev.lB Tryd.underlying22 Tryd.sizeOf22) ?_
          refine JA.one 2 ?_
          refine JO.callV rfl (.none rfl) rfl Tryd.call53 (fun w1 hw1 => rNodeG_any _ _ w1) ?_
          refine JA.one 5 ?_
          refine JO.callV rfl (.none rfl) rfl Tryd.call53 (fun w1 hw1 => rNodeG_any _ _ w1) ?_
          refine JA.one 6 ?_
          refine JO.sto rfl rfl (.none rfl) (Es.sA Tryd.sizeOf22) ?_
          refine JA.one 7 ?_
          refine JO.sto rfl rfl (.none rfl) (Es.sA Tryd.sizeOf22) ?_
          refine JA.done (by kernel_rfl) ?_
          refine JQ.thenN ?_
          refine JC.ret ?_
          refine JQ.end2 (H' := []) (.inl rfl) rfl (.agg rfl memK Tryd.underlying22 rfl Tryd.sizeOf22 szK) (.agg rfl memK Tryd.underlying22 rfl Tryd.sizeOf22 szK) ?_ ?_
          · exact Sub.k
          · first | (rw [ledC_top he]; rfl) | (rw [ledC_top he]; simp only [Bool.false_eq_true, if_false]; rw [hhd]) | rw [ledC_left hm1 (by omega) hl] | rw [ledC_right hm1 (by omega) hl]
        refine JAll.cons rfl ?_ ?_
        · -- 3
          refine JO.val rfl rfl rfl (.none rfl) (Ev.lB Tryd.underlying22 Tryd.sizeOf22) ?_
          refine JA.branch [0, 4] (by kernel_rfl) rfl ?_
          refine JAll.cons rfl ?_ ?_
          · -- 0
            refine JO.val rfl rfl rfl (.none rfl) (Ev.lB Tryd.underlying22 Tryd.sizeOf22) ?_
            refine JA.branch [2, 4] (by kernel_rfl) rfl ?_
            refine JAll.cons rfl ?_ ?_
            · -- 2
              refine JO.callV rfl (.none rfl) rfl Tryd.call53 (fun w1 hw1 => rNodeG_any _ _ w1) ?_
              refine JA.one 4 ?_
              refine JO.val rfl rfl rfl (.none rfl) (Ev.lB Tryd.underlying22 Tryd.sizeOf22) ?_
              refine JA.one 5 ?_
              refine JO.callV rfl (.none rfl) rfl Tryd.call53 (fun w1 hw1 => rNodeG_any _ _ w1) ?_
              refine JA.one 6 ?_
              refine JO.sto rfl rfl (.none rfl) (Es.sA Tryd.sizeOf22) ?_
              refine JA.one 7 ?_
              refine JO.sto rfl rfl (.none rfl) (Es.sA Tryd.sizeOf22) ?_
              refine JA.done (by kernel_rfl) ?_
              refine JQ.thenN ?_
              refine JC.ret ?_
              refine JQ.end2 (H' := []) (.inl rfl) rfl (.agg rfl memK Tryd.underlying22 rfl Tryd.sizeOf22 szK) (.agg rfl memK Tryd.underlying22 rfl Tryd.sizeOf22 szK) ?_ ?_
              · exact Sub.k
              · first | (rw [ledC_top he]; rfl) | (rw [ledC_top he]; simp only [Bool.false_eq_true, if_false]; rw [hhd]) | rw [ledC_left hm1 (by omega) hl] | rw [ledC_right hm1 (by omega) hl]
            refine JAll.cons rfl ?_ JAll.nil
            refine JO.val rfl rfl rfl (.none rfl) (Ev.lB Tryd.underlying22 Tryd.sizeOf22) ?_
            refine JA.one 2 ?_
            refine JO.callV rfl (.none rfl) rfl Tryd.call53 (fun w1 hw1 => rNodeG_any _ _ w1) ?_
            refine JA.one 5 ?_
            refine JO.callV rfl (.none rfl) rfl Tryd.call53 (fun w1 hw1 => rNodeG_any _ _ w1) ?_
            refine JA.one 6 ?_
            refine JO.sto rfl rfl (.none rfl) (Es.sA Tryd.sizeOf22) ?_
            refine JA.one 7 ?_
            refine JO.sto rfl rfl (.none rfl) (Es.sA Tryd.sizeOf22) ?_
            refine JA.done (by kernel_rfl) ?_
            refine JQ.thenN ?_
            refine JC.ret ?_
            refine JQ.end2 (H' := []) (.inl rfl) rfl (.agg rfl memK Tryd.underlying22 rfl Tryd.sizeOf22 szK) (.agg rfl memK Tryd.underlying22 rfl Tryd.sizeOf22 szK) ?_ ?_
            · exact Sub.k
            · first | (rw [ledC_top he]; rfl) | (rw [ledC_top he]; simp only [Bool.false_eq_true, if_false]; rw [hhd]) | rw [ledC_left hm1 (by omega) hl] | rw [ledC_right hm1 (by omega) hl]
          refine JAll.cons rfl ?_ JAll.nil
          refine JO.val rfl rfl rfl (.none rfl) (Ev.lB Tryd.underlying22 Tryd.sizeOf22) ?_
          refine JA.one 0 ?_
          refine JO.val rfl rfl rfl (.none rfl) (Ev.lB Tryd.underlying22 Tryd.sizeOf22) ?_
          refine JA.one 2 ?_
          refine JO.callV rfl (.none rfl) rfl Tryd.call53 (fun w1 hw1 => rNodeG_any _ _ w1) ?_
          refine JA.one 5 ?_
          refine JO.callV rfl (.none rfl) rfl Tryd.call53 (fun w1 hw1 => rNodeG_any _ _ w1) ?_
          refine JA.one 6 ?_
          refine JO.sto rfl rfl (.none rfl) (Es.sA Tryd.sizeOf22) ?_
          refine JA.one 7 ?_
          refine JO.sto rfl rfl (.none rfl) (Es.sA Tryd.sizeOf22) ?_
          refine JA.done (by kernel_rfl) ?_
          refine JQ.thenN ?_
          refine JC.ret ?_
          refine JQ.end2 (H' := []) (.inl rfl) rfl (.agg rfl memK Tryd.underlying22 rfl Tryd.sizeOf22 szK) (.agg rfl memK Tryd.underlying22 rfl Tryd.sizeOf22 szK) ?_ ?_
          · exact Sub.k
          · first | (rw [ledC_top he]; rfl) | (rw [ledC_top he]; simp only [Bool.false_eq_true, if_false]; rw [hhd]) | rw [ledC_left hm1 (by omega) hl] | rw [ledC_right hm1 (by omega) hl]
        refine JAll.cons rfl ?_ JAll.nil
        refine JO.val rfl rfl rfl (.none rfl) (Ev.lB Tryd.underlying22 Tryd.sizeOf22) ?_
        refine JA.branch [0, 3] (by kernel_rfl) rfl ?_
        refine JAll.cons rfl ?_ ?_
        · -- 0
          refine JO.val rfl rfl rfl (.none rfl) (Ev.lB Tryd.underlying22 Tryd.sizeOf22) ?_
          refine JA.branch [2, 3] (by kernel_rfl) rfl ?_
          refine JAll.cons rfl ?_ ?_
          · -- 2
            refine JO.callV rfl (.none rfl) rfl Tryd.call53 (fun w1 hw1 => rNodeG_any _ _ w1) ?_
            refine JA.one 3 ?_
            refine JO.val rfl rfl rfl (.none rfl) (Ev.lB Tryd.underlying22 Tryd.sizeOf22) ?_
            refine JA.one 5 ?_
            refine JO.callV rfl (.none rfl) rfl Tryd.call53 (fun w1 hw1 => rNodeG_any _ _ w1) ?_
            refine JA.one 6 ?_
            refine JO.sto rfl rfl (.none rfl) (Es.sA Tryd.sizeOf22) ?_
            refine JA.one 7 ?_
            refine JO.sto rfl rfl (.none rfl) (Es.sA Tryd.sizeOf22) ?_
            refine JA.done (by kernel_rfl) ?_
            refine JQ.thenN ?_
            refine JC.ret ?_
            refine JQ.end2 (H' := []) (.inl rfl) rfl (.agg rfl memK Tryd.underlying22 rfl Tryd.sizeOf22 szK) (.agg rfl memK Tryd.underlying22 rfl Tryd.sizeOf22 szK) ?_ ?_
            · exact Sub.k
            · first | (rw [ledC_top he]; rfl) | (rw [ledC_top he]; simp only [Bool.false_eq_true, if_false]; rw [hhd]) | rw [ledC_left hm1 (by omega) hl] | rw [ledC_right hm1 (by omega) hl]
          refine JAll.cons rfl ?_ JAll.nil
          refine JO.val rfl rfl rfl (.none rfl) (Ev.lB Tryd.underlying22 Tryd.sizeOf22) ?_
          refine JA.one 2 ?_
          refine JO.callV rfl (.none rfl) rfl Tryd.call53 (fun w1 hw1 => rNodeG_any _ _ w1) ?_
          refine JA.one 5 ?_
          refine JO.callV rfl (.none rfl) rfl Tryd.call53 (fun w1 hw1 => rNodeG_any _ _ w1) ?_
          refine JA.one 6 ?_
          refine JO.sto rfl rfl (.none rfl) (Es.sA Tryd.sizeOf22) ?_
          refine JA.one 7 ?_
          refine JO.sto rfl rfl (.none rfl) (Es.sA Tryd.sizeOf22) ?_
          refine JA.done (by kernel_rfl) ?_
          refine JQ.thenN ?_
          refine JC.ret ?_
          refine JQ.end2 (H' := []) (.inl rfl) rfl (.agg rfl memK Tryd.underlying22 rfl Tryd.sizeOf22 szK) (.agg rfl memK Tryd.underlying22 rfl Tryd.sizeOf22 szK) ?_ ?_
          · exact Sub.k
          · first | (rw [ledC_top he]; rfl) | (rw [ledC_top he]; simp only [Bool.false_eq_true, if_false]; rw [hhd]) | rw [ledC_left hm1 (by omega) hl] | rw [ledC_right hm1 (by omega) hl]
        refine JAll.cons rfl ?_ JAll.nil
        refine JO.val rfl rfl rfl (.none rfl) (Ev.lB Tryd.underlying22 Tryd.sizeOf22) ?_
        refine JA.one 0 ?_
        refine JO.val rfl rfl rfl (.none rfl) (Ev.lB Tryd.underlying22 Tryd.sizeOf22) ?_
        refine JA.one 2 ?_
        refine JO.callV rfl (.none rfl) rfl Tryd.call53 (fun w1 hw1 => rNodeG_any _ _ w1) ?_
        refine JA.one 5 ?_
        refine JO.callV rfl (.none rfl) rfl Tryd.call53 (fun w1 hw1 => rNodeG_any _ _ w1) ?_
        refine JA.one 6 ?_
        refine JO.sto rfl rfl (.none rfl) (Es.sA Tryd.sizeOf22) ?_
        refine JA.one 7 ?_
        refine JO.sto rfl rfl (.none rfl) (Es.sA Tryd.sizeOf22) ?_
        refine JA.done (by kernel_rfl) ?_
        refine JQ.thenN ?_
        refine JC.ret ?_
        refine JQ.end2 (H' := []) (.inl rfl) rfl (.agg rfl memK Tryd.underlying22 rfl Tryd.sizeOf22 szK) (.agg rfl memK Tryd.underlying22 rfl Tryd.sizeOf22 szK) ?_ ?_
        · exact Sub.k
        · first | (rw [ledC_top he]; rfl) | (rw [ledC_top he]; simp only [Bool.false_eq_true, if_false]; rw [hhd]) | rw [ledC_left hm1 (by omega) hl] | rw [ledC_right hm1 (by omega) hl]
      refine JAll.cons rfl ?_ ?_
      · -- 3
        refine JO.val rfl rfl rfl (.none rfl) (Ev.lB Tryd.underlying22 Tryd.sizeOf22) ?_
        refine JA.branch [0, 1, 4] (by kernel_rfl) rfl ?_
        refine JAll.cons rfl ?_ ?_
        · -- 0
          refine JO.val rfl rfl rfl (.none rfl) (Ev.lB Tryd.underlying22 Tryd.sizeOf22) ?_
          refine JA.branch [1, 4] (by kernel_rfl) rfl ?_
          refine JAll.cons rfl ?_ ?_
          · -- 1
            refine JO.val rfl rfl rfl (.none rfl) (Ev.lB Tryd.underlying22 Tryd.sizeOf22) ?_
            refine JA.branch [2, 4] (by kernel_rfl) rfl ?_
            refine JAll.cons rfl ?_ ?_
            · -- 2
              refine JO.callV rfl (.none rfl) rfl Tryd.call53 (fun w1 hw1 => rNodeG_any _ _ w1) ?_
              refine JA.one 4 ?_
              refine JO.val rfl rfl rfl (.none rfl) (Ev.lB Tryd.underlying22 Tryd.sizeOf22) ?_
              refine JA.one 5 ?_
              refine JO.callV rfl (.none rfl) rfl Tryd.call53 (fun w1 hw1 => rNodeG_any _ _ w1) ?_
              refine JA.one 6 ?_
              refine JO.sto rfl rfl (.none rfl) (Es.sA Tryd.sizeOf22) ?_
              refine JA.one 7 ?_
              refine JO.sto rfl rfl (.none rfl) (Es.sA Tryd.sizeOf22) ?_
              refine JA.done (by kernel_rfl) ?_
              refine JQ.thenN ?_
              refine JC.ret ?_
              refine JQ.end2 (H' := []) (.inl rfl) rfl (.agg rfl memK Tryd.underlying22 rfl Tryd.sizeOf22 szK) (.agg rfl memK Tryd.underlying22 rfl Tryd.sizeOf22 szK) ?_ ?_
              · exact Sub.k
              · first | (rw [ledC_top he]; rfl) | (rw [ledC_top he]; simp only [Bool.false_eq_true, if_false]; rw [hhd]) | rw [ledC_left hm1 (by omega) hl] | rw [ledC_right hm1 (by omega) hl]
            refine JAll.cons rfl ?_ JAll.nil
            refine JO.val rfl rfl rfl (.none rfl) (Ev.lB Tryd.underlying22 Tryd.sizeOf22) ?_
            refine JA.one 2 ?_
            refine JO.callV rfl (.none rfl) rfl Tryd.call53 (fun w1 hw1 => rNodeG_any _ _ w1) ?_
            refine JA.one 5 ?_
            refine JO.callV rfl (.none rfl) rfl Tryd.call53 (fun w1 hw1 => rNodeG_any _ _ w1) ?_
            refine JA.one 6 ?_
            refine JO.sto rfl rfl (.none rfl) (Es.sA Tryd.sizeOf22) ?_
            refine JA.one 7 ?_
            refine JO.sto rfl rfl (.none rfl) (Es.sA Tryd.sizeOf22) ?_
            refine JA.done (by kernel_rfl) ?_
            refine JQ.thenN ?_
            refine JC.ret ?_
            refine JQ.end2 (H' := []) (.inl rfl) rfl (.agg rfl memK Tryd.underlying22 rfl Tryd.sizeOf22 szK) (.agg rfl memK Tryd.underlying22 rfl Tryd.sizeOf22 szK) ?_ ?_
            · exact Sub.k
            · first | (rw [ledC_top he]; rfl) | (rw [ledC_top he]; simp only [Bool.false_eq_true, if_false]; rw [hhd]) | rw [ledC_left hm1 (by omega) hl] | rw [ledC_right hm1 (by omega) hl]
          refine JAll.cons rfl ?_ JAll.nil
          refine JO.val rfl rfl rfl (.none rfl) (Ev.lB Tryd.underlying22 Tryd.sizeOf22) ?_
          refine JA.one 1 ?_
          refine JO.val rfl rfl rfl (.none rfl) (Ev.lB Tryd.underlying22 Tryd.sizeOf22) ?_
          refine JA.one 2 ?_
          refine JO.callV rfl (.none rfl) rfl Tryd.call53 (fun w1 hw1 => rNodeG_any _ _ w1) ?_
          refine JA.one 5 ?_
          refine JO.callV rfl (.none rfl) rfl Tryd.call53 (fun w1 hw1 => rNodeG_any _ _ w1) ?_
          refine JA.one 6 ?_
          refine JO.sto rfl rfl (.none rfl) (Es.sA Tryd.sizeOf22) ?_
          refine JA.one 7 ?_
          refine JO.sto rfl rfl (.none rfl) (Es.sA Tryd.sizeOf22) ?_
          refine JA.done (by kernel_rfl) ?_
          refine JQ.thenN ?_
          refine JC.ret ?_
          refine JQ.end2 (H' := []) (.inl rfl) rfl (.agg rfl memK Tryd.underlying22 rfl Tryd.sizeOf22 szK) (.agg rfl memK Tryd.underlying22 rfl Tryd.sizeOf22 szK) ?_ ?_
          · exact Sub.k
          · first | (rw [ledC_top he]; rfl) | (rw [ledC_top he]; simp only [Bool.false_eq_true, if_false]; rw [hhd]) | rw [ledC_left hm1 (by omega) hl] | rw [ledC_right hm1 (by omega) hl]
        refine JAll.cons rfl ?_ ?_
        · -- 1
          refine JO.val rfl rfl rfl (.none rfl) (Ev.lB Tryd.underlying22 Tryd.sizeOf22) ?_
          refine JA.branch [0, 4] (by kernel_rfl) rfl ?_
          refine JAll.cons rfl ?_ ?_
          · -- 0
            refine JO.val rfl rfl rfl (.none rfl) (Ev.lB Tryd.underlying22 Tryd.sizeOf22) ?_
            refine JA.branch [2, 4] (by kernel_rfl) rfl ?_
            refine JAll.cons rfl ?_ ?_
            · -- 2
              refine JO.callV rfl (.none rfl) rfl Tryd.call53 (fun w1 hw1 => rNodeG_any _ _ w1) ?_
              refine JA.one 4 ?_
              refine JO.val rfl rfl rfl (.none rfl) (Ev.lB Tryd.underlying22 Tryd.sizeOf22) ?_
              refine JA.one 5 ?_
              refine JO.callV rfl (.none rfl) rfl Tryd.call53 (fun w1 hw1 => rNodeG_any _ _ w1) ?_
              refine JA.one 6 ?_
              refine JO.sto rfl rfl (.none rfl) (Es.sA Tryd.sizeOf22) ?_
              refine JA.one 7 ?_
              refine JO.sto rfl rfl (.none rfl) (Es.sA Tryd.sizeOf22) ?_
              refine JA.done (by kernel_rfl) ?_
              refine JQ.thenN ?_
              refine JC.ret ?_
              refine JQ.end2 (H' := []) (.inl rfl) rfl (.agg rfl memK Tryd.underlying22 rfl Tryd.sizeOf22 szK) (.agg rfl memK Tryd.underlying22 rfl Tryd.sizeOf22 szK) ?_ ?_
              · exact Sub.k
              · first | (rw [ledC_top he]; rfl) | (rw [ledC_top he]; simp only [Bool.false_eq_true, if_false]; rw [hhd]) | rw [ledC_left hm1 (by omega) hl] | rw [ledC_right hm1 (by omega) hl]
            refine JAll.cons rfl ?_ JAll.nil
            refine JO.val rfl rfl rfl (.none rfl) (Ev.lB Tryd.underlying22 Tryd.sizeOf22) ?_
            refine JA.one 2 ?_
            refine JO.callV rfl (.none rfl) rfl Tryd.call53 (fun w1 hw1 => rNodeG_any _ _ w1) ?_
            refine JA.one 5 ?_
            refine JO.callV rfl (.none rfl) rfl Tryd.call53 (fun w1 hw1 => rNodeG_any _ _ w1) ?_
            refine JA.one 6 ?_
            refine JO.sto rfl rfl (.none rfl) (Es.sA Tryd.sizeOf22) ?_
            refine JA.one 7 ?_
            refine JO.sto rfl rfl (.none rfl) (Es.sA Tryd.sizeOf22) ?_
            refine JA.done (by kernel_rfl) ?_
            refine JQ.thenN ?_
            refine JC.ret ?_
            refine JQ.end2 (H' := []) (.inl rfl) rfl (.agg rfl memK Tryd.underlying22 rfl Tryd.sizeOf22 szK) (.agg rfl memK Tryd.underlying22 rfl Tryd.sizeOf22 szK) ?_ ?_
            · exact Sub.k
            · first | (rw [ledC_top he]; rfl) | (rw [ledC_top he]; simp only [Bool.false_eq_true, if_false]; rw [hhd]) | rw [ledC_left hm1 (by omega) hl] | rw [ledC_right hm1 (by omega) hl]
          refine JAll.cons rfl ?_ JAll.nil
          refine JO.val rfl rfl rfl (.none rfl) (Ev.lB Tryd.underlying22 Tryd.sizeOf22) ?_
          refine JA.one 0 ?_
          refine JO.val rfl rfl rfl (.none rfl) (Ev.lB Tryd.underlying22 Tryd.sizeOf22) ?_
          refine JA.one 2 ?_
          refine JO.callV rfl (.none rfl) rfl Tryd.call53 (fun w1 hw1 => rNodeG_any _ _ w1) ?_
          refine JA.one 5 ?_
          refine JO.callV rfl (.none rfl) rfl Tryd.call53 (fun w1 hw1 => rNodeG_any _ _ w1) ?_
          refine JA.one 6 ?_
          refine JO.sto rfl rfl (.none rfl) (Es.sA Tryd.sizeOf22) ?_
          refine JA.one 7 ?_
          refine JO.sto rfl rfl (.none rfl) (Es.sA Tryd.sizeOf22) ?_
          refine JA.done (by kernel_rfl) ?_
          refine JQ.thenN ?_
          refine JC.ret ?_
          refine JQ.end2 (H' := []) (.inl rfl) rfl (.agg rfl memK Tryd.underlying22 rfl Tryd.sizeOf22 szK) (.agg rfl memK Tryd.underlying22 rfl Tryd.sizeOf22 szK) ?_ ?_
          · exact Sub.k
          · first | (rw [ledC_top he]; rfl) | (rw [ledC_top he]; simp only [Bool.false_eq_true, if_false]; rw [hhd]) | rw [ledC_left hm1 (by omega) hl] | rw [ledC_right hm1 (by omega) hl]
        refine JAll.cons rfl ?_ JAll.nil
        refine JO.val rfl rfl rfl (.none rfl) (Ev.lB Tryd.underlying22 Tryd.sizeOf22) ?_
        refine JA.branch [0, 1] (by kernel_rfl) rfl ?_
        refine JAll.cons rfl ?_ ?_
        · -- 0
          refine JO.val rfl rfl rfl (.none rfl) (Ev.lB Tryd.underlying22 Tryd.sizeOf22) ?_
          refine JA.one 1 ?_
          refine JO.val rfl rfl rfl (.none rfl) (Ev.lB Tryd.underlying22 Tryd.sizeOf22) ?_
          refine JA.one 2 ?_
          refine JO.callV rfl (.none rfl) rfl Tryd.call53 (fun w1 hw1 => rNodeG_any _ _ w1) ?_
          refine JA.one 5 ?_
          refine JO.callV rfl (.none rfl) rfl Tryd.call53 (fun w1 hw1 => rNodeG_any _ _ w1) ?_
          refine JA.one 6 ?_
          refine JO.sto rfl rfl (.none rfl) (Es.sA Tryd.sizeOf22) ?_
          refine JA.one 7 ?_
          refine JO.sto rfl rfl (.none rfl) (Es.sA Tryd.sizeOf22) ?_
          refine JA.done (by kernel_rfl) ?_
          refine JQ.thenN ?_
          refine JC.ret ?_
          refine JQ.end2 (H' := []) (.inl rfl) rfl (.agg rfl memK Tryd.underlying22 rfl Tryd.sizeOf22 szK) (.agg rfl memK Tryd.underlying22 rfl Tryd.sizeOf22 szK) ?_ ?_
          · exact Sub.k
          · first | (rw [ledC_top he]; rfl) | (rw [ledC_top he]; simp only [Bool.false_eq_true, if_false]; rw [hhd]) | rw [ledC_left hm1 (by omega) hl] | rw [ledC_right hm1 (by omega) hl]
        refine JAll.cons rfl ?_ JAll.nil
        refine JO.val rfl rfl rfl (.none rfl) (Ev.lB Tryd.underlying22 Tryd.sizeOf22) ?_
        refine JA.one 0 ?_
        refine JO.val rfl rfl rfl (.none rfl) (Ev.lB Tryd.underlying22 Tryd.sizeOf22) ?_
        refine JA.one 2 ?_
        refine JO.callV rfl (.none rfl) rfl Tryd.call53 (fun w1 hw1 => rNodeG_any _ _ w1) ?_
        refine JA.one 5 ?_
        refine JO.callV rfl (.none rfl) rfl Tryd.call53 (fun w1 hw1 => rNodeG_any _ _ w1) ?_
        refine JA.one 6 ?_
        refine JO.sto rfl rfl (.none rfl) (Es.sA Tryd.sizeOf22) ?_
        refine JA.one 7 ?_
        refine JO.sto rfl rfl (.none rfl) (Es.sA Tryd.sizeOf22) ?_
        refine JA.done (by kernel_rfl) ?_
        refine JQ.thenN ?_
        refine JC.ret ?_
        refine JQ.end2 (H' := []) (.inl rfl) rfl (.agg rfl memK Tryd.underlying22 rfl Tryd.sizeOf22 szK) (.agg rfl memK Tryd.underlying22 rfl Tryd.sizeOf22 szK) ?_ ?_
        · exact Sub.k
        · first | (rw [ledC_top he]; rfl) | (rw [ledC_top he]; simp only [Bool.false_eq_true, if_false]; rw [hhd]) | rw [ledC_left hm1 (by omega) hl] | rw [ledC_right hm1 (by omega) hl]
      refine JAll.cons rfl ?_ JAll.nil
      refine JO.val rfl rfl rfl (.none rfl) (Ev.lB Tryd.underlying22 Tryd.sizeOf22) ?_
      refine JA.branch [0, 1, 3] (by kernel_rfl) rfl ?_
      refine JAll.cons rfl ?_ ?_
      · -- 0
        refine JO.val rfl rfl rfl (.none rfl) (Ev.lB Tryd.underlying22 Tryd.sizeOf22) ?_
        refine JA.branch [1, 3] (by kernel_rfl) rfl ?_
        refine JAll.cons rfl ?_ ?_
        · -- 1
          refine JO.val rfl rfl rfl (.none rfl) (Ev.lB Tryd.underlying22 Tryd.sizeOf22) ?_
          refine JA.branch [2, 3] (by kernel_rfl) rfl ?_
          refine JAll.cons rfl ?_ ?_
          · -- 2
            refine JO.callV rfl (.none rfl) rfl Tryd.call53 (fun w1 hw1 => rNodeG_any _ _ w1) ?_
            refine JA.one 3 ?_
            refine JO.val rfl rfl rfl (.none rfl) (Ev.lB Tryd.underlying22 Tryd.sizeOf22) ?_
            refine JA.one 5 ?_
            refine JO.callV rfl (.none rfl) rfl Tryd.call53 (fun w1 hw1 => rNodeG_any _ _ w1) ?_
            refine JA.one 6 ?_
            refine JO.sto rfl rfl (.none rfl) (Es.sA Tryd.sizeOf22) ?_
            refine JA.one 7 ?_
            refine JO.sto rfl rfl (.none rfl) (Es.sA Tryd.sizeOf22) ?_
            refine JA.done (by kernel_rfl) ?_
            refine JQ.thenN ?_
            refine JC.ret ?_
            refine JQ.end2 (H' := []) (.inl rfl) rfl (.agg rfl memK Tryd.underlying22 rfl Tryd.sizeOf22 szK) (.agg rfl memK Tryd.underlying22 rfl Tryd.sizeOf22 szK) ?_ ?_
            · exact Sub.k
            · first | (rw [ledC_top he]; rfl) | (rw [ledC_top he]; simp only [Bool.false_eq_true, if_false]; rw [hhd]) | rw [ledC_left hm1 (by omega) hl] | rw [ledC_right hm1 (by omega) hl]
          refine JAll.cons rfl ?_ JAll.nil
          refine JO.val rfl rfl rfl (.none rfl) (Ev.lB Tryd.underlying22 Tryd.sizeOf22) ?_
          refine JA.one 2 ?_
          refine JO.callV rfl (.none rfl) rfl Tryd.call53 (fun w1 hw1 => rNodeG_any _ _ w1) ?_
          refine JA.one 5 ?_
          refine JO.callV rfl (.none rfl) rfl Tryd.call53 (fun w1 hw1 => rNodeG_any _ _ w1) ?_
          refine JA.one 6 ?_
          refine JO.sto rfl rfl (.none rfl) (Es.sA Tryd.sizeOf22) ?_
          refine JA.one 7 ?_
          refine JO.sto rfl rfl (.none rfl) (Es.sA Tryd.sizeOf22) ?_
          refine JA.done (by kernel_rfl) ?_
          refine JQ.thenN ?_
          refine JC.ret ?_
          refine JQ.end2 (H' := []) (.inl rfl) rfl (.agg rfl memK Tryd.underlying22 rfl Tryd.sizeOf22 szK) (.agg rfl memK Tryd.underlying22 rfl Tryd.sizeOf22 szK) ?_ ?_
          · exact Sub.k
          · first | (rw [ledC_top he]; rfl) | (rw [ledC_top he]; simp only [Bool.false_eq_true, if_false]; rw [hhd]) | rw [ledC_left hm1 (by omega) hl] | rw [ledC_right hm1 (by omega) hl]
        refine JAll.cons rfl ?_ JAll.nil
        refine JO.val rfl rfl rfl (.none rfl) (Ev.lB Tryd.underlying22 Tryd.sizeOf22) ?_
        refine JA.one 1 ?_
        refine JO.val rfl rfl rfl (.none rfl) (Ev.lB Tryd.underlying22 Tryd.sizeOf22) ?_
        refine JA.one 2 ?_
        refine JO.callV rfl (.none rfl) rfl Tryd.call53 (fun w1 hw1 => rNodeG_any _ _ w1) ?_
        refine JA.one 5 ?_
        refine JO.callV rfl (.none rfl) rfl Tryd.call53 (fun w1 hw1 => rNodeG_any _ _ w1) ?_
        refine JA.one 6 ?_
        refine JO.sto rfl rfl (.none rfl) (Es.sA Tryd.sizeOf22) ?_
        refine JA.one 7 ?_
        refine JO.sto rfl rfl (.none rfl) (Es.sA Tryd.sizeOf22) ?_
        refine JA.done (by kernel_rfl) ?_
        refine JQ.thenN ?_
        refine JC.ret ?_
        refine JQ.end2 (H' := []) (.inl rfl) rfl (.agg rfl memK Tryd.underlying22 rfl Tryd.sizeOf22 szK) (.agg rfl memK Tryd.underlying22 rfl Tryd.sizeOf22 szK) ?_ ?_
        · exact Sub.k
        · first | (rw [ledC_top he]; rfl) | (rw [ledC_top he]; simp only [Bool.false_eq_true, if_false]; rw [hhd]) | rw [ledC_left hm1 (by omega) hl] | rw [ledC_right hm1 (by omega) hl]
      refine JAll.cons rfl ?_ ?_
      · -- 1
        refine JO.val rfl rfl rfl (.none rfl) (Ev.lB Tryd.underlying22 Tryd.sizeOf22) ?_
        refine JA.branch [0, 3] (by kernel_rfl) rfl ?_
        refine JAll.cons rfl ?_ ?_
        · -- 0
          refine JO.val rfl rfl rfl (.none rfl) (Ev.lB Tryd.underlying22 Tryd.sizeOf22) ?_
          refine JA.branch [2, 3] (by kernel_rfl) rfl ?_
          refine JAll.cons rfl ?_ ?_
          · -- 2
            refine JO.callV rfl (.none rfl) rfl Tryd.call53 (fun w1 hw1 => rNodeG_any _ _ w1) ?_
            refine JA.one 3 ?_
            refine JO.val rfl rfl rfl (.none rfl) (Ev.lB Tryd.underlying22 Tryd.sizeOf22) ?_
            refine JA.one 5 ?_
            refine JO.callV rfl (.none rfl) rfl Tryd.call53 (fun w1 hw1 => rNodeG_any _ _ w1) ?_
            refine JA.one 6 ?_
            refine JO.sto rfl rfl (.none rfl) (Es.sA Tryd.sizeOf22) ?_
            refine JA.one 7 ?_
            refine JO.sto rfl rfl (.none rfl) (Es.sA Tryd.sizeOf22) ?_
            refine JA.done (by kernel_rfl) ?_
            refine JQ.thenN ?_
            refine JC.ret ?_
            refine JQ.end2 (H' := []) (.inl rfl) rfl (.agg rfl memK Tryd.underlying22 rfl Tryd.sizeOf22 szK) (.agg rfl memK Tryd.underlying22 rfl Tryd.sizeOf22 szK) ?_ ?_
            · exact Sub.k
            · first | (rw [ledC_top he]; rfl) | (rw [ledC_top he]; simp only [Bool.false_eq_true, if_false]; rw [hhd]) | rw [ledC_left hm1 (by omega) hl] | rw [ledC_right hm1 (by omega) hl]
          refine JAll.cons rfl ?_ JAll.nil
          refine JO.val rfl rfl rfl (.none rfl) (Ev.lB Tryd.underlying22 Tryd.sizeOf22) ?_
          refine JA.one 2 ?_
          refine JO.callV rfl (.none rfl) rfl Tryd.call53 (fun w1 hw1 => rNodeG_any _ _ w1) ?_
          refine JA.one 5 ?_
          refine JO.callV rfl (.none rfl) rfl Tryd.call53 (fun w1 hw1 => rNodeG_any _ _ w1) ?_
          refine JA.one 6 ?_
          refine JO.sto rfl rfl (.none rfl) (Es.sA Tryd.sizeOf22) ?_
          refine JA.one 7 ?_
          refine JO.sto rfl rfl (.none rfl) (Es.sA Tryd.sizeOf22) ?_
          refine JA.done (by kernel_rfl) ?_
          refine JQ.thenN ?_
          refine JC.ret ?_
          refine JQ.end2 (H' := []) (.inl rfl) rfl (.agg rfl memK Tryd.underlying22 rfl Tryd.sizeOf22 szK) (.agg rfl memK Tryd.underlying22 rfl Tryd.sizeOf22 szK) ?_ ?_
          · exact Sub.k
          · first | (rw [ledC_top he]; rfl) | (rw [ledC_top he]; simp only [Bool.false_eq_true, if_false]; rw [hhd]) | rw [ledC_left hm1 (by omega) hl] | rw [ledC_right hm1 (by omega) hl]
        refine JAll.cons rfl ?_ JAll.nil
        refine JO.val rfl rfl rfl (.none rfl) (Ev.lB Tryd.underlying22 Tryd.sizeOf22) ?_
        refine JA.one 0 ?_
        refine JO.val rfl rfl rfl (.none rfl) (Ev.lB Tryd.underlying22 Tryd.sizeOf22) ?_
        refine JA.one 2 ?_
        refine JO.callV rfl (.none rfl) rfl Tryd.call53 (fun w1 hw1 => rNodeG_any _ _ w1) ?_
        refine JA.one 5 ?_
        refine JO.callV rfl (.none rfl) rfl Tryd.call53 (fun w1 hw1 => rNodeG_any _ _ w1) ?_
        refine JA.one 6 ?_
        refine JO.sto rfl rfl (.none rfl) (Es.sA Tryd.sizeOf22) ?_
        refine JA.one 7 ?_
        refine JO.sto rfl rfl (.none rfl) (Es.sA Tryd.sizeOf22) ?_
        refine JA.done (by kernel_rfl) ?_
        refine JQ.thenN ?_
        refine JC.ret ?_
        refine JQ.end2 (H' := []) (.inl rfl) rfl (.agg rfl memK Tryd.underlying22 rfl Tryd.sizeOf22 szK) (.agg rfl memK Tryd.underlying22 rfl Tryd.sizeOf22 szK) ?_ ?_
        · exact Sub.k
        · first | (rw [ledC_top he]; rfl) | (rw [ledC_top he]; simp only [Bool.false_eq_true, if_false]; rw [hhd]) | rw [ledC_left hm1 (by omega) hl] | rw [ledC_right hm1 (by omega) hl]
      refine JAll.cons rfl ?_ JAll.nil
      refine JO.val rfl rfl rfl (.none rfl) (Ev.lB Tryd.underlying22 Tryd.sizeOf22) ?_
      refine JA.branch [0, 1] (by kernel_rfl) rfl ?_
      refine JAll.cons rfl ?_ ?_
      · -- 0
        refine JO.val rfl rfl rfl (.none rfl) (Ev.lB Tryd.underlying22 Tryd.sizeOf22) ?_
        refine JA.one 1 ?_
        refine JO.val rfl rfl rfl (.none rfl) (Ev.lB Tryd.underlying22 Tryd.sizeOf22) ?_
        refine JA.one 2 ?_
        refine JO.callV rfl (.none rfl) rfl Tryd.call53 (fun w1 hw1 => rNodeG_any _ _ w1) ?_
        refine JA.one 5 ?_
        refine JO.callV rfl (.none rfl) rfl Tryd.call53 (fun w1 hw1 => rNodeG_any _ _ w1) ?_
        refine JA.one 6 ?_
        refine JO.sto rfl rfl (.none rfl) (Es.sA Tryd.sizeOf22) ?_
        refine JA.one 7 ?_
        refine JO.sto rfl rfl (.none rfl) (Es.sA Tryd.sizeOf22) ?_
        refine JA.done (by kernel_rfl) ?_
        refine JQ.thenN ?_
        refine JC.ret ?_
        refine JQ.end2 (H' := []) (.inl rfl) rfl (.agg rfl memK Tryd.underlying22 rfl Tryd.sizeOf22 szK) (.agg rfl memK Tryd.underlying22 rfl Tryd.sizeOf22 szK) ?_ ?_
        · exact Sub.k
        · first | (rw [ledC_top he]; rfl) | (rw [ledC_top he]; simp only [Bool.false_eq_true, if_false]; rw [hhd]) | rw [ledC_left hm1 (by omega) hl] | rw [ledC_right hm1 (by omega) hl]
      refine JAll.cons rfl ?_ JAll.nil
      refine JO.val rfl rfl rfl (.none rfl) (Ev.lB Tryd.underlying22 Tryd.sizeOf22) ?_
      refine JA.one 0 ?_
      refine JO.val rfl rfl rfl (.none rfl) (Ev.lB Tryd.underlying22 Tryd.sizeOf22) ?_
      refine JA.one 2 ?_
      refine JO.callV rfl (.none rfl) rfl Tryd.call53 (fun w1 hw1 => rNodeG_any _ _ w1) ?_
      refine JA.one 5 ?_
      refine JO.callV rfl (.none rfl) rfl Tryd.call53 (fun w1 hw1 => rNodeG_any _ _ w1) ?_
      refine JA.one 6 ?_
      refine JO.sto rfl rfl (.none rfl) (Es.sA Tryd.sizeOf22) ?_
      refine JA.one 7 ?_
      refine JO.sto rfl rfl (.none rfl) (Es.sA Tryd.sizeOf22) ?_
      refine JA.done (by kernel_rfl) ?_
      refine JQ.thenN ?_
      refine JC.ret ?_
      refine JQ.end2 (H' := []) (.inl rfl) rfl (.agg rfl memK Tryd.underlying22 rfl Tryd.sizeOf22 szK) (.agg rfl memK Tryd.underlying22 rfl Tryd.sizeOf22 szK) ?_ ?_
      · exact Sub.k
      · first | (rw [ledC_top he]; rfl) | (rw [ledC_top he]; simp only [Bool.false_eq_true, if_false]; rw [hhd]) | rw [ledC_left hm1 (by omega) hl] | rw [ledC_right hm1 (by omega) hl]
theorem ledC_any (x : Dig) (m : Nat) (n : Nat) (fr : Bool) (oa : Option Addr) (cap : Nat) (ds : List Dig) (w : World) (hm1 : 1 ≤ m) (hm2 : m ≤ n) (hmx : n ≤ 1024) (hd : Dl w oa cap ds) (hst : ds.length = stepsC m n fr) :
    Calls Tryd.prog 40 #[.int .i64 (m : Int), .int .i64 (n : Int), .bool fr, .agg (arr8 x.1), .slice oa ds.length cap] w (Ret w (fun v _ => v = .tuple #[.agg (arr8 (ledC m n fr x ds).1.1), .agg (arr8 (ledC m n fr x ds).2.1)])) := by
  have key : ∀ (N : Nat) (x : Dig) (m : Nat) (n : Nat) (fr : Bool) (oa : Option Addr) (cap : Nat) (ds : List Dig) (w : World) (hm1 : 1 ≤ m) (hm2 : m ≤ n) (hmx : n ≤ 1024) (hd : Dl w oa cap ds) (hst : ds.length = stepsC m n fr), n = N → Calls Tryd.prog 40 #[.int .i64 (m : Int), .int .i64 (n : Int), .bool fr, .agg (arr8 x.1), .slice oa ds.length cap] w (Ret w (fun v _ => v = .tuple #[.agg (arr8 (ledC m n fr x ds).1.1), .agg (arr8 (ledC m n fr x ds).2.1)])) := by
    intro N
    induction N using Nat.strongRecOn with
    | _ N IH =>
      intro x m n fr oa cap ds w hm1 hm2 hmx hd hst hN
      exact ledC_any_step N (fun x m n fr oa cap ds w hm1 hm2 hmx hd hst hlt => IH _ hlt x m n fr oa cap ds w hm1 hm2 hmx hd hst rfl) x m n fr oa cap ds w hm1 hm2 hmx hd hst hN
  exact key _ x m n fr oa cap ds w hm1 hm2 hmx hd hst rfl

end Go.Proofs.YtimegpilihfghaaDoor
