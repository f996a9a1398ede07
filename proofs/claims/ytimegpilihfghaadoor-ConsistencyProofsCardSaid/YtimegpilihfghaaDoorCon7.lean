/-
  Consistency: the chapter's examples; the laws on proofs, peaks, accepted proofs, chains, appending.
-/
import Derived.Test.YtimegpilihfghaaDoorCon6
namespace Go.Proofs.YtimegpilihfghaaDoor
open Go Go.RowKit
set_option maxRecDepth 100000

theorem rPeaks0_any (oa : Option Addr) (cap : Nat) (ds : List Dig) (hgr : 1024 < ds.length) (w : World) (hd : Dl w oa cap ds) :
    Calls Tryd.prog 23 #[.slice oa ds.length cap] w (Ret w (fun v H => ∃ r : Option Row, v = .tuple #[Row.v (pkV ds).length r, .int .i64 (pkE ds)] ∧ H = Row.b 22 r ∧ Row.ok 32 (pkV ds).length (fl (pkV ds)) r)) := by
  refine enter (vs := [.slice oa ds.length cap]) Tryd.func23 rfl Tryd.ntmps23 rfl ?_
  refine JC.seq ?_
  refine JC.region ?_
  refine JL.asg ?_
  refine JL.asg ?_
  refine JL.nil ?_
  refine JQ.thenN ?_
  refine JC.seq ?_
  refine JC.seq ?_
  refine JC.region ?_
  refine JL.mv ?_
  refine JL.val rfl rfl rfl (.none rfl) (Ev.lenS rfl Tryd.underlying23) ?_
  refine JL.val rfl rfl rfl (.none rfl) (Ev.bin rfl rfl gtr_int) ?_
  refine JL.nil ?_
  refine JQ.thenN ?_
  refine JC.knowT rfl ?_ ?_
  · exact decide_eq_true (by omega)
  refine JC.seq ?_
  refine JC.region ?_
  refine JL.asg ?_
  refine JL.asg ?_
  refine JL.nil ?_
  refine JQ.thenN ?_
  refine JC.ret ?_
  refine JQ.thenR ?_
  refine JQ.end2 (H' := []) (.inl rfl) rfl (.tmp rfl) (.tmp rfl) ?_ ?_
  · exact Sub.k
  · exact ⟨none, by rw [pkV_gr hgr, pkE_gr hgr]; rfl, rfl, by rw [pkV_gr hgr]; exact Row.ok0⟩

theorem bel_4 : bel 4 = 2 := by decide
theorem bel_5 : bel 5 = 4 := by decide
theorem prV_le (ds : List Dig) (i : Int) : (prV ds i).length ≤ ds.length := by
  unfold prV
  split
  · exact Nat.zero_le _
  · split
    · exact Nat.zero_le _
    · exact proofC_le _ _ (by omega) (by omega)
theorem pkV_le (ds : List Dig) : (pkV ds).length ≤ ds.length := by
  unfold pkV
  split
  · exact Nat.zero_le _
  · exact over_le _
theorem pkV_small (ds : List Dig) : (pkV ds).length ≤ 1024 := by
  unfold pkV
  split
  · exact Nat.zero_le _
  · have := over_le ds; omega
theorem withR_le : ∀ (n : Nat) (p : List Dig) (x : Dig), (withR p n x).length ≤ p.length + 1 := by
  intro n
  induction n using Nat.strongRecOn with
  | _ n ih =>
    intro p x
    by_cases he : n % 2 = 0
    · rw [withR_even he, List.length_append]; exact Nat.le_refl _
    · rw [withR, dif_neg he]
      have := ih (n / 2) (by omega) p.dropLast (nodeD (p.getLastD zeroD) x)
      rw [List.length_dropLast] at this
      omega
theorem apV_le (p : List Dig) (n : Int) (x : Dig) : (apV p n x).length ≤ p.length + 1 := by
  unfold apV
  split
  · exact Nat.zero_le _
  · exact withR_le _ _ _
theorem pr32 (a b c : Dig) : prV [a, b, c] 2 = [c] := by
  rw [prV_ok (by simp) (by simp)]
  show proofR [a, b, c] 2 true = _
  rw [proofR_left (by decide) (by simp) (by show 2 ≤ bel 3; rw [bel_three]; decide)]
  show proofR (List.take (bel 3) [a, b, c]) 2 true ++ [rootR (List.drop (bel 3) [a, b, c])] = _
  rw [bel_three]
  show proofR [a, b] 2 true ++ [rootR [c]] = _
  rw [proofR_top (l := [a, b]) (m := 2) rfl, rootR_one]; rfl
theorem pr53 (a b c d e : Dig) : prV [a, b, c, d, e] 3 = [c, d, nodeD a b, e] := by
  rw [prV_ok (by simp) (by simp)]
  show proofR [a, b, c, d, e] 3 true = _
  rw [proofR_left (by decide) (by simp) (by show 3 ≤ bel 5; rw [bel_5]; decide)]
  show proofR (List.take (bel 5) [a, b, c, d, e]) 3 true ++ [rootR (List.drop (bel 5) [a, b, c, d, e])] = _
  rw [bel_5]
  show proofR [a, b, c, d] 3 true ++ [rootR [e]] = _
  rw [proofR_right (by decide) (by simp) (by show ¬ 3 ≤ bel 4; rw [bel_4]; decide)]
  show (proofR (List.drop (bel 4) [a, b, c, d]) (3 - bel 4) false ++ [rootR (List.take (bel 4) [a, b, c, d])]) ++ [rootR [e]] = _
  rw [bel_4]
  show (proofR [c, d] 1 false ++ [rootR [a, b]]) ++ [rootR [e]] = _
  rw [proofR_left (by decide) (by simp) (by show 1 ≤ bel 2; rw [bel_two]; decide)]
  show ((proofR (List.take (bel 2) [c, d]) 1 false ++ [rootR (List.drop (bel 2) [c, d])]) ++ [rootR [a, b]]) ++ [rootR [e]] = _
  rw [bel_two]
  show ((proofR [c] 1 false ++ [rootR [d]]) ++ [rootR [a, b]]) ++ [rootR [e]] = _
  rw [proofR_top (l := [c]) (m := 1) rfl, rootR_one, rootR_one, root2]
  show (([rootR [c]] ++ [d]) ++ [nodeD a b]) ++ [e] = _
  rw [rootR_one]; rfl
theorem pk3 (a b c : Dig) : pkV [a, b, c] = [nodeD a b, c] := by
  rw [pkV_ok (by simp), overR_cons (by simp)]
  show rootR (List.take (bel 4) [a, b, c]) :: overR (List.drop (bel 4) [a, b, c]) = _
  rw [bel_4]
  show rootR [a, b] :: overR [c] = _
  rw [root2, overR_cons (by simp)]
  show nodeD a b :: rootR (List.take (bel 2) [c]) :: overR (List.drop (bel 2) [c]) = _
  rw [bel_two]
  show nodeD a b :: rootR [c] :: overR [] = _
  rw [rootR_one, overR_nil]
theorem rPeaks2_any (oa : Option Addr) (cap : Nat) (ds : List Dig) (w : World) (hd : Dl w oa cap ds) :
    Calls Tryd.prog 23 #[.slice oa ds.length cap] w (Ret w (fun v H => ∃ r : Option Row, v = .tuple #[Row.v (pkV ds).length r, .int .i64 (pkE ds)] ∧ H = Row.b 22 r ∧ Row.ok 32 (pkV ds).length (fl (pkV ds)) r)) := by
  by_cases hgr : 1024 < ds.length
  · exact rPeaks0_any oa cap ds hgr w hd
  · exact rPeaks_any oa cap ds w hd (by omega)
theorem accept_ok {ds : List Dig} {n N : Nat} (hN : ds.length = N) (h1 : 1 ≤ n) (h2 : n ≤ ds.length) (hsm : ¬ 1024 < ds.length) :
    prE ds (n : Int) = 0 ∧ (prV ds (n : Int)).length = stepsC n N true ∧ pcV (n : Int) (N : Int) = stepsC n N true ∧ pcE (n : Int) (N : Int) = 0 ∧ fcE (n : Int) (N : Int) (prV ds (n : Int)) = 0 ∧
    fcV (rootV (ds.take n)) (n : Int) (N : Int) (prV ds (n : Int)) = (rootV (ds.take n), rootV ds) ∧ vcV (rootV (ds.take n)) (rootV ds) (n : Int) (N : Int) (prV ds (n : Int)) = true ∧ vcE (n : Int) (N : Int) (prV ds (n : Int)) = 0 := by
  subst hN
  have hok : ¬ ((n : Int) < 1 ∨ (ds.length : Int) < (n : Int)) := by omega
  have hokc : ¬ badC (n : Int) (ds.length : Int) := by unfold badC; omega
  have htl : (ds.take n).length = n := by rw [List.length_take]; omega
  have hpv : prV ds (n : Int) = proofR ds n true := by rw [prV_ok hsm hok, Int.toNat_natCast]
  have hpl : (prV ds (n : Int)).length = stepsC n ds.length true := by rw [hpv]; exact proof_length h1 h2
  have hfe := fcE_ok hokc hpl
  have hfo : fcV (rootV (ds.take n)) (n : Int) (ds.length : Int) (prV ds (n : Int)) = (rootV (ds.take n), rootV ds) := by
    rw [fcV_ok hokc hpl, rootV_ok (by omega), rootV_ok hsm, hpv]
    exact led_of_proof h1 h2
  have hne : ¬ fcE (n : Int) (ds.length : Int) (prV ds (n : Int)) = 2 := by rw [hfe]; decide
  refine ⟨prE_ok hsm hok, hpl, pcV_ok hokc, pcE_ok hokc, hfe, hfo, ?_, vcE_ok hne⟩
  rw [vcV_y hne hfe (by rw [hfo]), hfo]
  exact decide_eq_true rfl

theorem cone_any (c : UInt8) (w : World) :
    Calls Tryd.prog 34 #[u8 c] w (Ret w (fun v _ => v = .agg (arr8 (oneD c).1))) := by
  refine enter (vs := [u8 c]) Tryd.func34 rfl Tryd.ntmps34 rfl ?_
  refine JC.seq ?_
  refine JC.region ?_
  refine JL.new rfl rfl rfl (.none rfl) (En.allocZ (cs := arr8 (List.replicate 32 0)) Tryd.zeroValue22 rfl) (fun b2 hb2 => ?_)
  refine JL.nil ?_
  refine JQ.thenN ?_
  refine JC.seq ?_
  refine JC.region ?_
  refine JL.new rfl rfl rfl (.none rfl) (En.allocZ (cs := arr8 (List.replicate 32 0)) Tryd.zeroValue22 rfl) (fun b3 hb3 => ?_)
  refine JL.nil ?_
  refine JQ.thenN ?_
  refine JC.seq ?_
  refine JC.seq ?_
  refine JC.region ?_
  refine JL.asg ?_
  refine JL.nil ?_
  refine JQ.thenN ?_
  refine JC.block ?_
  refine JC.loop (X := Nat)
    (fun i => [(0, u8 c), (2, .pointer (some ⟨b2, 0, none⟩)), (3, .pointer (some ⟨b3, 0, none⟩)), (4, .int .i64 (i : Int))])
    (fun i => [(b3, Obj.cells (arr8 (fillC c i)) 22 (0, 0)), (b2, Obj.cells (arr8 (List.replicate 32 0)) 22 (0, 0))])
    (fun i => i ≤ 32)
    (fun i => 32 - i) 0 ?_ ?_ ?_ ?_
  · exact Keeps.k
  · exact Sub.k
  · exact Nat.zero_le _
  rintro i hi
  refine JC.seq ?_
  refine JC.seq ?_
  refine JC.region ?_
  refine JL.mv ?_
  refine JL.val rfl rfl rfl (.none rfl) (Ev.bin rfl rfl lss_int) ?_
  refine JL.nil ?_
  refine JQ.thenN ?_
  refine JC.cond rfl (fun hc1 => ?_) (fun hc1 => ?_)
  · -- t6 True
    replace hc1 := of_decide_eq_true hc1
    refine JC.skip ?_
    refine JQ.thenN ?_
    refine JC.seq ?_
    refine JC.block ?_
    refine JC.region ?_
    refine JL.mv ?_
    refine JL.mv ?_
    refine JL.val rfl rfl rfl (.none rfl) (Ev.idxB1 rfl rfl Tryd.underlying22 Tryd.sizeOf5 (k := i) rfl (by omega)) ?_
    refine JL.sto rfl rfl (.none rfl) (Es.store1 rfl rfl Tryd.sizeOf5 rfl rfl Upd.k (by rw [arr8_size, fillC_length _ (by omega)]; omega)) ?_
    refine JL.reH .here (congrArg (fun x => Obj.cells x 22 (0, 0)) (fillC_set c (i := i) (by omega))) ?_
    refine JL.nil ?_
    refine JQ.blockN ?_
    refine JQ.thenN ?_
    refine JC.region ?_
    refine JL.mv ?_
    refine JL.val rfl rfl rfl (.none rfl) (Ev.bin rfl rfl (add_i64 (by omega))) ?_
    refine JL.asg ?_
    refine JL.nil ?_
    refine JQ.loopN (i + 1) ?_ ?_ ?_ ?_
    · exact Keeps.k
    · exact Sub.k
    · omega
    · omega
  · -- t6 False
    replace hc1 := of_decide_eq_false hc1
    refine JC.exit ?_
    refine JQ.thenE ?_
    refine JQ.thenE ?_
    refine JQ.blockE ?_
    refine JQ.thenN ?_
    refine JC.seq ?_
    refine JC.region ?_
    obtain rfl : i = 32 := by omega
    refine JL.val rfl rfl rfl (.none rfl) (Ev.lB Tryd.underlying22 Tryd.sizeOf22) ?_
    refine JL.sto rfl rfl (.none rfl) (Es.sA Tryd.sizeOf22) ?_
    refine JL.nil ?_
    refine JQ.thenN ?_
    refine JC.ret ?_
    refine JQ.end1 (H' := []) (.inl rfl) rfl (.agg rfl memK Tryd.underlying22 rfl Tryd.sizeOf22 (by rw [arr8_size]; rfl)) ?_ ?_
    · exact Sub.k
    · rfl

theorem five_any (w : World) :
    Calls Tryd.prog 33 #[] w (Ret w (fun v H => ∃ b, v = .slice (some ⟨b, 0, none⟩) 5 5 ∧ H = [(b, Obj.cells (fl [oneD 1, oneD 2, oneD 3, oneD 4, oneD 5]).toArray 22 (0, 0))])) := by
  refine enter (vs := []) Tryd.func33 rfl Tryd.ntmps33 rfl ?_
  refine JC.seq ?_
  refine JC.region ?_
  refine JL.asg ?_
  refine JL.nil ?_
  refine JQ.thenN ?_
  refine JC.seq ?_
  refine JC.region ?_
  refine JL.callV rfl (.none rfl) rfl Tryd.call34 (fun w1 hw1 => cone_any 1 w1) ?_
  refine JL.callV rfl (.none rfl) rfl Tryd.call34 (fun w1 hw1 => cone_any 2 w1) ?_
  refine JL.callV rfl (.none rfl) rfl Tryd.call34 (fun w1 hw1 => cone_any 3 w1) ?_
  refine JL.callV rfl (.none rfl) rfl Tryd.call34 (fun w1 hw1 => cone_any 4 w1) ?_
  refine JL.callV rfl (.none rfl) rfl Tryd.call34 (fun w1 hw1 => cone_any 5 w1) ?_
  refine JL.new rfl rfl rfl (.none rfl) (En.bsD (e := 22) (ds := [oneD 1, oneD 2, oneD 3, oneD 4, oneD 5]) rfl rfl Tryd.underlying23 Tryd.sizeOf22 Tryd.zeroValue22 (by decide) (by decide)) (fun b6 hb6 => ?_)
  refine JL.asg ?_
  refine JL.nil ?_
  refine JQ.thenN ?_
  refine JC.ret ?_
  refine JQ.end1 (H' := [(b6, Obj.cells (fl [oneD 1, oneD 2, oneD 3, oneD 4, oneD 5]).toArray 22 (0, 0))]) (.inl rfl) rfl (.tmp rfl) ?_ ?_
  · exact Sub.k
  · exact ⟨b6, rfl, rfl⟩

theorem calive_any (w : World) (hk : KMem 1 w) (hf : FMem 0 w) :
    Calls Tryd.prog 28 #[] w (Ret w (fun v _ => v = .bool true)) := by
  refine enter (vs := []) Tryd.func28 rfl Tryd.ntmps28 rfl ?_
  refine JC.seq ?_
  refine JC.region ?_
  refine JL.asg ?_
  refine JL.nil ?_
  refine JQ.thenN ?_
  refine JC.seq ?_
  refine JC.region ?_
  refine JL.callN rfl (.none rfl) rfl Tryd.call33 (fun w1 hw1 => five_any w1) ?_
  rintro _ _ ⟨bf1, rfl, rfl⟩
  refine JL.val rfl rfl rfl (.none rfl) (Ev.cast (v' := .slice (some ⟨bf1, 0, none⟩) 3 5) (sub3_0) (Ev.sliceHi rfl rfl Tryd.underlying23 Tryd.sizeOf22 (h := 3) rfl (by omega))) ?_
  refine JL.callN rfl (.none rfl) rfl Tryd.call17 (fun w1 hw1 => cProve_any (some ⟨bf1, 0, none⟩) 5 [oneD 1, oneD 2, oneD 3] 2 (by decide) w1 (Dl.take (ds := [oneD 1, oneD 2, oneD 3, oneD 4, oneD 5]) (cs_block (xs := fl ([oneD 1, oneD 2, oneD 3, oneD 4, oneD 5])) hw1 (by repeat (first | exact List.Mem.head _ | refine List.Mem.tail _ ?_ | refine List.mem_append_right _ ?_)) (by decide)) (k := 3) (by decide)) (hk.old hw1) (hf.old hw1)) ?_
  rintro _ _ ⟨r1, rfl, rfl, hr1⟩
  refine JL.mv ?_
  refine JL.val rfl rfl rfl (.none rfl) (Ev.ex0 rfl) ?_
  refine JL.val rfl rfl rfl (.none rfl) (Ev.ex1 rfl) ?_
  refine JL.asg ?_
  refine JL.asg ?_
  refine JL.nil ?_
  refine JQ.thenN ?_
  refine JC.seq ?_
  refine JC.region ?_
  refine JL.callN rfl (.none rfl) rfl Tryd.call33 (fun w1 hw1 => five_any w1) ?_
  rintro _ _ ⟨bf2, rfl, rfl⟩
  refine JL.callN rfl (.none rfl) rfl Tryd.call17 (fun w1 hw1 => cProve_any (some ⟨bf2, 0, none⟩) 5 [oneD 1, oneD 2, oneD 3, oneD 4, oneD 5] 3 (by decide) w1 (cs_block (xs := fl ([oneD 1, oneD 2, oneD 3, oneD 4, oneD 5])) hw1 (by repeat (first | exact List.Mem.head _ | refine List.Mem.tail _ ?_ | refine List.mem_append_right _ ?_)) (by decide)) (hk.old hw1) (hf.old hw1)) ?_
  rintro _ _ ⟨r2, rfl, rfl, hr2⟩
  refine JL.mv ?_
  refine JL.val rfl rfl rfl (.none rfl) (Ev.ex0 rfl) ?_
  refine JL.val rfl rfl rfl (.none rfl) (Ev.ex1 rfl) ?_
  refine JL.asg ?_
  refine JL.asg ?_
  refine JL.nil ?_
  refine JQ.thenN ?_
  refine JC.seq ?_
  refine JC.region ?_
  refine JL.callN rfl (.none rfl) rfl Tryd.call33 (fun w1 hw1 => five_any w1) ?_
  rintro _ _ ⟨bf3, rfl, rfl⟩
  refine JL.val rfl rfl rfl (.none rfl) (Ev.cast (v' := .slice (some ⟨bf3, 0, none⟩) 3 5) (sub3_0) (Ev.sliceHi rfl rfl Tryd.underlying23 Tryd.sizeOf22 (h := 3) rfl (by omega))) ?_
  refine JL.callN rfl (.none rfl) rfl Tryd.call22 (fun w1 hw1 => cPeaks_any (some ⟨bf3, 0, none⟩) 5 [oneD 1, oneD 2, oneD 3] w1 (Dl.take (ds := [oneD 1, oneD 2, oneD 3, oneD 4, oneD 5]) (cs_block (xs := fl ([oneD 1, oneD 2, oneD 3, oneD 4, oneD 5])) hw1 (by repeat (first | exact List.Mem.head _ | refine List.Mem.tail _ ?_ | refine List.mem_append_right _ ?_)) (by decide)) (k := 3) (by decide)) (hk.old hw1) (hf.old hw1)) ?_
  rintro _ _ ⟨r3, rfl, rfl, hr3⟩
  refine JL.mv ?_
  refine JL.val rfl rfl rfl (.none rfl) (Ev.ex0 rfl) ?_
  refine JL.val rfl rfl rfl (.none rfl) (Ev.ex1 rfl) ?_
  refine JL.asg ?_
  refine JL.asg ?_
  refine JL.nil ?_
  refine JQ.thenN ?_
  refine JC.seq ?_
  refine JC.region ?_
  refine JL.callV rfl (.none rfl) rfl Tryd.call34 (fun w1 hw1 => cone_any 1 w1) ?_
  refine JL.callV rfl (.none rfl) rfl Tryd.call34 (fun w1 hw1 => cone_any 2 w1) ?_
  refine JL.callV rfl (.none rfl) rfl Tryd.call48 (fun w1 hw1 => nodeG_any _ _ w1 (hk.old hw1) (hf.old hw1)) ?_
  refine JL.new rfl rfl rfl (.none rfl) (En.allocZ (cs := arr8 (List.replicate 32 0)) Tryd.zeroValue22 rfl) (fun b7 hb7 => ?_)
  refine JL.sto rfl rfl (.none rfl) (Es.sA Tryd.sizeOf22) ?_
  refine JL.nil ?_
  refine JQ.thenN ?_
  refine JC.seq ?_
  obtain ⟨o1, c1, e1, _, hC1⟩ := Row.vw (e := 22) hr1
  refine JC.re (d := 1) rfl e1 ?_
  obtain ⟨o2, c2, e2, _, hC2⟩ := Row.vw (e := 22) hr2
  refine JC.re (d := 3) rfl e2 ?_
  obtain ⟨o3, c3, e3, _, hC3⟩ := Row.vw (e := 22) hr3
  refine JC.re (d := 5) rfl e3 ?_
  refine JC.re (d := 2) (v' := .int .i64 0) rfl (congrArg (Value.int .i64) (rfl)) ?_
  refine JC.re (d := 4) (v' := .int .i64 0) rfl (congrArg (Value.int .i64) (rfl)) ?_
  refine JC.re (d := 6) (v' := .int .i64 0) rfl (congrArg (Value.int .i64) (rfl)) ?_
  refine JC.regionA (by kernel_rfl) ?_
  refine JA.tk 0 rfl (.none rfl) (fun _ => (Ev.move rfl)) ?_
  refine JA.tk 1 rfl (.none rfl) (fun _ => (Ev.bin rfl rfl eql_int)) ?_
  refine JA.tk 2 rfl (.none rfl) (fun _ => (Ev.move rfl)) ?_
  refine JA.know (d := 30) (b := true) rfl ?_ ?_
  · exact decide_eq_true rfl
  refine JA.tk 3 rfl (.yes rfl rfl rfl) (fun _ => (Ev.move rfl)) ?_
  refine JA.one 4 ?_
  refine JO.callV rfl (.yes rfl rfl rfl) rfl Tryd.call34 (fun w1 hw1 => cone_any 3 w1) ?_
  refine JA.one 5 ?_
  refine JO.new rfl rfl rfl (.yes rfl rfl rfl) (En.bs1D (e := 22) rfl Tryd.underlying23 Tryd.sizeOf22 Tryd.zeroValue22) (fun b33 hb33 => ?_)
  refine JA.one 6 ?_
  refine JO.callV rfl (.yes rfl rfl rfl) rfl Tryd.call21 (fun w1 hw1 => dSame_any o1 (some ⟨b33, 0, none⟩) c1 1 (prV [oneD 1, oneD 2, oneD 3] 2) [oneD 3] w1 (hC1 w1 hw1 (fun p hp => by simp [hp])) (cs_block (xs := fl ([oneD 3])) hw1 (by repeat (first | exact List.Mem.head _ | refine List.Mem.tail _ ?_ | refine List.mem_append_right _ ?_)) (by decide)) (Nat.le_trans (prV_le _ _) (by decide))) ?_
  refine JA.tk 7 rfl (.none rfl) (fun _ => (Ev.pickT rfl rfl)) ?_
  refine JA.tk 8 rfl (.none rfl) (fun _ => (Ev.move rfl)) ?_
  refine JA.know (d := 36) (b := true) rfl ?_ ?_
  · exact decide_eq_true (pr32 _ _ _)
  refine JA.tk 9 rfl (.yes rfl rfl rfl) (fun _ => (Ev.move rfl)) ?_
  refine JA.tk 10 rfl (.yes rfl rfl rfl) (fun _ => (Ev.bin rfl rfl eql_int)) ?_
  refine JA.tk 11 rfl (.none rfl) (fun _ => (Ev.pickT rfl rfl)) ?_
  refine JA.tk 12 rfl (.none rfl) (fun _ => (Ev.move rfl)) ?_
  refine JA.know (d := 40) (b := true) rfl ?_ ?_
  · exact decide_eq_true rfl
  refine JA.tk 13 rfl (.yes rfl rfl rfl) (fun _ => (Ev.move rfl)) ?_
  refine JA.branch [14, 16] (by kernel_rfl) rfl ?_
  refine JAll.cons rfl ?_ ?_
  · -- 14
    refine JO.callV rfl (.yes rfl rfl rfl) rfl Tryd.call34 (fun w1 hw1 => cone_any 3 w1) ?_
    refine JA.branch [15, 16] (by kernel_rfl) rfl ?_
    refine JAll.cons rfl ?_ ?_
    · -- 15
      refine JO.callV rfl (.yes rfl rfl rfl) rfl Tryd.call34 (fun w1 hw1 => cone_any 4 w1) ?_
      refine JA.branch [16, 17] (by kernel_rfl) rfl ?_
      refine JAll.cons rfl ?_ ?_
      · -- 16
        refine JO.val rfl rfl rfl (.yes rfl rfl rfl) (Ev.lB Tryd.underlying22 Tryd.sizeOf22) ?_
        refine JA.one 17 ?_
        refine JO.callV rfl (.yes rfl rfl rfl) rfl Tryd.call34 (fun w1 hw1 => cone_any 5 w1) ?_
        refine JA.one 18 ?_
        refine JO.new rfl rfl rfl (.yes rfl rfl rfl) (En.bsD (e := 22) (ds := [oneD 3, oneD 4, (nodeD (oneD 1) (oneD 2)), oneD 5]) rfl rfl Tryd.underlying23 Tryd.sizeOf22 Tryd.zeroValue22 (by decide) (by decide)) (fun b46 hb46 => ?_)
        refine JA.one 19 ?_
        refine JO.callV rfl (.yes rfl rfl rfl) rfl Tryd.call21 (fun w1 hw1 => dSame_any o2 (some ⟨b46, 0, none⟩) c2 4 (prV [oneD 1, oneD 2, oneD 3, oneD 4, oneD 5] 3) [oneD 3, oneD 4, (nodeD (oneD 1) (oneD 2)), oneD 5] w1 (hC2 w1 hw1 (fun p hp => by simp [hp])) (cs_block (xs := fl ([oneD 3, oneD 4, (nodeD (oneD 1) (oneD 2)), oneD 5])) hw1 (by repeat (first | exact List.Mem.head _ | refine List.Mem.tail _ ?_ | refine List.mem_append_right _ ?_)) (by decide)) (Nat.le_trans (prV_le _ _) (by decide))) ?_
        refine JA.tk 20 rfl (.none rfl) (fun _ => (Ev.pickT rfl rfl)) ?_
        refine JA.tk 21 rfl (.none rfl) (fun _ => (Ev.move rfl)) ?_
        refine JA.know (d := 49) (b := true) rfl ?_ ?_
        · exact decide_eq_true (pr53 _ _ _ _ _)
        refine JA.tk 22 rfl (.yes rfl rfl rfl) (fun _ => (Ev.move rfl)) ?_
        refine JA.tk 23 rfl (.yes rfl rfl rfl) (fun _ => (Ev.bin rfl rfl eql_int)) ?_
        refine JA.tk 24 rfl (.none rfl) (fun _ => (Ev.pickT rfl rfl)) ?_
        refine JA.tk 25 rfl (.none rfl) (fun _ => (Ev.move rfl)) ?_
        refine JA.know (d := 53) (b := true) rfl ?_ ?_
        · exact decide_eq_true rfl
        refine JA.tk 26 rfl (.yes rfl rfl rfl) (fun _ => (Ev.move rfl)) ?_
        refine JA.branch [27, 28] (by kernel_rfl) rfl ?_
        refine JAll.cons rfl ?_ ?_
        · -- 27
          refine JO.val rfl rfl rfl (.yes rfl rfl rfl) (Ev.lB Tryd.underlying22 Tryd.sizeOf22) ?_
          refine JA.one 28 ?_
          refine JO.callV rfl (.yes rfl rfl rfl) rfl Tryd.call34 (fun w1 hw1 => cone_any 3 w1) ?_
          refine JA.one 29 ?_
          refine JO.new rfl rfl rfl (.yes rfl rfl rfl) (En.bsD (e := 22) (ds := [(nodeD (oneD 1) (oneD 2)), oneD 3]) rfl rfl Tryd.underlying23 Tryd.sizeOf22 Tryd.zeroValue22 (by decide) (by decide)) (fun b57 hb57 => ?_)
          refine JA.one 30 ?_
          refine JO.callV rfl (.yes rfl rfl rfl) rfl Tryd.call21 (fun w1 hw1 => dSame_any o3 (some ⟨b57, 0, none⟩) c3 2 (pkV [oneD 1, oneD 2, oneD 3]) [(nodeD (oneD 1) (oneD 2)), oneD 3] w1 (hC3 w1 hw1 (fun p hp => by simp [hp])) (cs_block (xs := fl ([(nodeD (oneD 1) (oneD 2)), oneD 3])) hw1 (by repeat (first | exact List.Mem.head _ | refine List.Mem.tail _ ?_ | refine List.mem_append_right _ ?_)) (by decide)) (Nat.le_trans (pkV_le _) (by decide))) ?_
          refine JA.tk 31 rfl (.none rfl) (fun _ => (Ev.pickT rfl rfl)) ?_
          refine JA.tk 32 rfl (.none rfl) (fun _ => (Ev.assign rfl)) ?_
          refine JA.done (by kernel_rfl) ?_
          refine JQ.thenN ?_
          refine JC.ret ?_
          refine JQ.end1 (H' := []) (.inl rfl) rfl (.tmp rfl) ?_ ?_
          · exact Sub.k
          · exact congrArg Value.bool (decide_eq_true (pk3 _ _ _))
        refine JAll.cons rfl ?_ JAll.nil
        refine JO.callV rfl (.yes rfl rfl rfl) rfl Tryd.call34 (fun w1 hw1 => cone_any 3 w1) ?_
        refine JA.one 27 ?_
        refine JO.val rfl rfl rfl (.yes rfl rfl rfl) (Ev.lB Tryd.underlying22 Tryd.sizeOf22) ?_
        refine JA.one 29 ?_
        refine JO.new rfl rfl rfl (.yes rfl rfl rfl) (En.bsD (e := 22) (ds := [(nodeD (oneD 1) (oneD 2)), oneD 3]) rfl rfl Tryd.underlying23 Tryd.sizeOf22 Tryd.zeroValue22 (by decide) (by decide)) (fun b57 hb57 => ?_)
        refine JA.one 30 ?_
        refine JO.callV rfl (.yes rfl rfl rfl) rfl Tryd.call21 (fun w1 hw1 => dSame_any o3 (some ⟨b57, 0, none⟩) c3 2 (pkV [oneD 1, oneD 2, oneD 3]) [(nodeD (oneD 1) (oneD 2)), oneD 3] w1 (hC3 w1 hw1 (fun p hp => by simp [hp])) (cs_block (xs := fl ([(nodeD (oneD 1) (oneD 2)), oneD 3])) hw1 (by repeat (first | exact List.Mem.head _ | refine List.Mem.tail _ ?_ | refine List.mem_append_right _ ?_)) (by decide)) (Nat.le_trans (pkV_le _) (by decide))) ?_
        refine JA.tk 31 rfl (.none rfl) (fun _ => (Ev.pickT rfl rfl)) ?_
        refine JA.tk 32 rfl (.none rfl) (fun _ => (Ev.assign rfl)) ?_
        refine JA.done (by kernel_rfl) ?_
        refine JQ.thenN ?_
        refine JC.ret ?_
        refine JQ.end1 (H' := []) (.inl rfl) rfl (.tmp rfl) ?_ ?_
        · exact Sub.k
        · exact congrArg Value.bool (decide_eq_true (pk3 _ _ _))
      refine JAll.cons rfl ?_ JAll.nil
      refine JO.callV rfl (.yes rfl rfl rfl) rfl Tryd.call34 (fun w1 hw1 => cone_any 5 w1) ?_
      refine JA.one 16 ?_
      refine JO.val rfl rfl rfl (.yes rfl rfl rfl) (Ev.lB Tryd.underlying22 Tryd.sizeOf22) ?_
      refine JA.one 18 ?_
      refine JO.new rfl rfl rfl (.yes rfl rfl rfl) (En.bsD (e := 22) (ds := [oneD 3, oneD 4, (nodeD (oneD 1) (oneD 2)), oneD 5]) rfl rfl Tryd.underlying23 Tryd.sizeOf22 Tryd.zeroValue22 (by decide) (by decide)) (fun b46 hb46 => ?_)
      refine JA.one 19 ?_
      refine JO.callV rfl (.yes rfl rfl rfl) rfl Tryd.call21 (fun w1 hw1 => dSame_any o2 (some ⟨b46, 0, none⟩) c2 4 (prV [oneD 1, oneD 2, oneD 3, oneD 4, oneD 5] 3) [oneD 3, oneD 4, (nodeD (oneD 1) (oneD 2)), oneD 5] w1 (hC2 w1 hw1 (fun p hp => by simp [hp])) (cs_block (xs := fl ([oneD 3, oneD 4, (nodeD (oneD 1) (oneD 2)), oneD 5])) hw1 (by repeat (first | exact List.Mem.head _ | refine List.Mem.tail _ ?_ | refine List.mem_append_right _ ?_)) (by decide)) (Nat.le_trans (prV_le _ _) (by decide))) ?_
      refine JA.tk 20 rfl (.none rfl) (fun _ => (Ev.pickT rfl rfl)) ?_
      refine JA.tk 21 rfl (.none rfl) (fun _ => (Ev.move rfl)) ?_
      refine JA.know (d := 49) (b := true) rfl ?_ ?_
      · exact decide_eq_true (pr53 _ _ _ _ _)
      refine JA.tk 22 rfl (.yes rfl rfl rfl) (fun _ => (Ev.move rfl)) ?_
      refine JA.tk 23 rfl (.yes rfl rfl rfl) (fun _ => (Ev.bin rfl rfl eql_int)) ?_
      refine JA.tk 24 rfl (.none rfl) (fun _ => (Ev.pickT rfl rfl)) ?_
      refine JA.tk 25 rfl (.none rfl) (fun _ => (Ev.move rfl)) ?_
      refine JA.know (d := 53) (b := true) rfl ?_ ?_
      · exact decide_eq_true rfl
      refine JA.tk 26 rfl (.yes rfl rfl rfl) (fun _ => (Ev.move rfl)) ?_
      refine JA.branch [27, 28] (by kernel_rfl) rfl ?_
      refine JAll.cons rfl ?_ ?_
      · -- 27
        refine JO.val rfl rfl rfl (.yes rfl rfl rfl) (Ev.lB Tryd.underlying22 Tryd.sizeOf22) ?_
        refine JA.one 28 ?_
        refine JO.callV rfl (.yes rfl rfl rfl) rfl Tryd.call34 (fun w1 hw1 => cone_any 3 w1) ?_
        refine JA.one 29 ?_
        refine JO.new rfl rfl rfl (.yes rfl rfl rfl) (En.bsD (e := 22) (ds := [(nodeD (oneD 1) (oneD 2)), oneD 3]) rfl rfl Tryd.underlying23 Tryd.sizeOf22 Tryd.zeroValue22 (by decide) (by decide)) (fun b57 hb57 => ?_)
        refine JA.one 30 ?_
        refine JO.callV rfl (.yes rfl rfl rfl) rfl Tryd.call21 (fun w1 hw1 => dSame_any o3 (some ⟨b57, 0, none⟩) c3 2 (pkV [oneD 1, oneD 2, oneD 3]) [(nodeD (oneD 1) (oneD 2)), oneD 3] w1 (hC3 w1 hw1 (fun p hp => by simp [hp])) (cs_block (xs := fl ([(nodeD (oneD 1) (oneD 2)), oneD 3])) hw1 (by repeat (first | exact List.Mem.head _ | refine List.Mem.tail _ ?_ | refine List.mem_append_right _ ?_)) (by decide)) (Nat.le_trans (pkV_le _) (by decide))) ?_
        refine JA.tk 31 rfl (.none rfl) (fun _ => (Ev.pickT rfl rfl)) ?_
        refine JA.tk 32 rfl (.none rfl) (fun _ => (Ev.assign rfl)) ?_
        refine JA.done (by kernel_rfl) ?_
        refine JQ.thenN ?_
        refine JC.ret ?_
        refine JQ.end1 (H' := []) (.inl rfl) rfl (.tmp rfl) ?_ ?_
        · exact Sub.k
        · exact congrArg Value.bool (decide_eq_true (pk3 _ _ _))
      refine JAll.cons rfl ?_ JAll.nil
      refine JO.callV rfl (.yes rfl rfl rfl) rfl Tryd.call34 (fun w1 hw1 => cone_any 3 w1) ?_
      refine JA.one 27 ?_
      refine JO.val rfl rfl rfl (.yes rfl rfl rfl) (Ev.lB Tryd.underlying22 Tryd.sizeOf22) ?_
      refine JA.one 29 ?_
      refine JO.new rfl rfl rfl (.yes rfl rfl rfl) (En.bsD (e := 22) (ds := [(nodeD (oneD 1) (oneD 2)), oneD 3]) rfl rfl Tryd.underlying23 Tryd.sizeOf22 Tryd.zeroValue22 (by decide) (by decide)) (fun b57 hb57 => ?_)
      refine JA.one 30 ?_
      refine JO.callV rfl (.yes rfl rfl rfl) rfl Tryd.call21 (fun w1 hw1 => dSame_any o3 (some ⟨b57, 0, none⟩) c3 2 (pkV [oneD 1, oneD 2, oneD 3]) [(nodeD (oneD 1) (oneD 2)), oneD 3] w1 (hC3 w1 hw1 (fun p hp => by simp [hp])) (cs_block (xs := fl ([(nodeD (oneD 1) (oneD 2)), oneD 3])) hw1 (by repeat (first | exact List.Mem.head _ | refine List.Mem.tail _ ?_ | refine List.mem_append_right _ ?_)) (by decide)) (Nat.le_trans (pkV_le _) (by decide))) ?_
      refine JA.tk 31 rfl (.none rfl) (fun _ => (Ev.pickT rfl rfl)) ?_
      refine JA.tk 32 rfl (.none rfl) (fun _ => (Ev.assign rfl)) ?_
      refine JA.done (by kernel_rfl) ?_
      refine JQ.thenN ?_
      refine JC.ret ?_
      refine JQ.end1 (H' := []) (.inl rfl) rfl (.tmp rfl) ?_ ?_
      · exact Sub.k
      · exact congrArg Value.bool (decide_eq_true (pk3 _ _ _))
    refine JAll.cons rfl ?_ JAll.nil
    refine JO.val rfl rfl rfl (.yes rfl rfl rfl) (Ev.lB Tryd.underlying22 Tryd.sizeOf22) ?_
    refine JA.one 15 ?_
    refine JO.callV rfl (.yes rfl rfl rfl) rfl Tryd.call34 (fun w1 hw1 => cone_any 4 w1) ?_
    refine JA.one 17 ?_
    refine JO.callV rfl (.yes rfl rfl rfl) rfl Tryd.call34 (fun w1 hw1 => cone_any 5 w1) ?_
    refine JA.one 18 ?_
    refine JO.new rfl rfl rfl (.yes rfl rfl rfl) (En.bsD (e := 22) (ds := [oneD 3, oneD 4, (nodeD (oneD 1) (oneD 2)), oneD 5]) rfl rfl Tryd.underlying23 Tryd.sizeOf22 Tryd.zeroValue22 (by decide) (by decide)) (fun b46 hb46 => ?_)
    refine JA.one 19 ?_
    refine JO.callV rfl (.yes rfl rfl rfl) rfl Tryd.call21 (fun w1 hw1 => dSame_any o2 (some ⟨b46, 0, none⟩) c2 4 (prV [oneD 1, oneD 2, oneD 3, oneD 4, oneD 5] 3) [oneD 3, oneD 4, (nodeD (oneD 1) (oneD 2)), oneD 5] w1 (hC2 w1 hw1 (fun p hp => by simp [hp])) (cs_block (xs := fl ([oneD 3, oneD 4, (nodeD (oneD 1) (oneD 2)), oneD 5])) hw1 (by repeat (first | exact List.Mem.head _ | refine List.Mem.tail _ ?_ | refine List.mem_append_right _ ?_)) (by decide)) (Nat.le_trans (prV_le _ _) (by decide))) ?_
    refine JA.tk 20 rfl (.none rfl) (fun _ => (Ev.pickT rfl rfl)) ?_
    refine JA.tk 21 rfl (.none rfl) (fun _ => (Ev.move rfl)) ?_
    refine JA.know (d := 49) (b := true) rfl ?_ ?_
    · exact decide_eq_true (pr53 _ _ _ _ _)
    refine JA.tk 22 rfl (.yes rfl rfl rfl) (fun _ => (Ev.move rfl)) ?_
    refine JA.tk 23 rfl (.yes rfl rfl rfl) (fun _ => (Ev.bin rfl rfl eql_int)) ?_
    refine JA.tk 24 rfl (.none rfl) (fun _ => (Ev.pickT rfl rfl)) ?_
    refine JA.tk 25 rfl (.none rfl) (fun _ => (Ev.move rfl)) ?_
    refine JA.know (d := 53) (b := true) rfl ?_ ?_
    · exact decide_eq_true rfl
    refine JA.tk 26 rfl (.yes rfl rfl rfl) (fun _ => (Ev.move rfl)) ?_
    refine JA.branch [27, 28] (by kernel_rfl) rfl ?_
    refine JAll.cons rfl ?_ ?_
    · -- 27
      refine JO.val rfl rfl rfl (.yes rfl rfl rfl) (Ev.lB Tryd.underlying22 Tryd.sizeOf22) ?_
      refine JA.one 28 ?_
      refine JO.callV rfl (.yes rfl rfl rfl) rfl Tryd.call34 (fun w1 hw1 => cone_any 3 w1) ?_
      refine JA.one 29 ?_
      refine JO.new rfl rfl rfl (.yes rfl rfl rfl) (En.bsD (e := 22) (ds := [(nodeD (oneD 1) (oneD 2)), oneD 3]) rfl rfl Tryd.underlying23 Tryd.sizeOf22 Tryd.zeroValue22 (by decide) (by decide)) (fun b57 hb57 => ?_)
      refine JA.one 30 ?_
      refine JO.callV rfl (.yes rfl rfl rfl) rfl Tryd.call21 (fun w1 hw1 => dSame_any o3 (some ⟨b57, 0, none⟩) c3 2 (pkV [oneD 1, oneD 2, oneD 3]) [(nodeD (oneD 1) (oneD 2)), oneD 3] w1 (hC3 w1 hw1 (fun p hp => by simp [hp])) (cs_block (xs := fl ([(nodeD (oneD 1) (oneD 2)), oneD 3])) hw1 (by repeat (first | exact List.Mem.head _ | refine List.Mem.tail _ ?_ | refine List.mem_append_right _ ?_)) (by decide)) (Nat.le_trans (pkV_le _) (by decide))) ?_
      refine JA.tk 31 rfl (.none rfl) (fun _ => (Ev.pickT rfl rfl)) ?_
      refine JA.tk 32 rfl (.none rfl) (fun _ => (Ev.assign rfl)) ?_
      refine JA.done (by kernel_rfl) ?_
      refine JQ.thenN ?_
      refine JC.ret ?_
      refine JQ.end1 (H' := []) (.inl rfl) rfl (.tmp rfl) ?_ ?_
      · exact Sub.k
      · exact congrArg Value.bool (decide_eq_true (pk3 _ _ _))
    refine JAll.cons rfl ?_ JAll.nil
    refine JO.callV rfl (.yes rfl rfl rfl) rfl Tryd.call34 (fun w1 hw1 => cone_any 3 w1) ?_
    refine JA.one 27 ?_
    refine JO.val rfl rfl rfl (.yes rfl rfl rfl) (Ev.lB Tryd.underlying22 Tryd.sizeOf22) ?_
    refine JA.one 29 ?_
    refine JO.new rfl rfl rfl (.yes rfl rfl rfl) (En.bsD (e := 22) (ds := [(nodeD (oneD 1) (oneD 2)), oneD 3]) rfl rfl Tryd.underlying23 Tryd.sizeOf22 Tryd.zeroValue22 (by decide) (by decide)) (fun b57 hb57 => ?_)
    refine JA.one 30 ?_
    refine JO.callV rfl (.yes rfl rfl rfl) rfl Tryd.call21 (fun w1 hw1 => dSame_any o3 (some ⟨b57, 0, none⟩) c3 2 (pkV [oneD 1, oneD 2, oneD 3]) [(nodeD (oneD 1) (oneD 2)), oneD 3] w1 (hC3 w1 hw1 (fun p hp => by simp [hp])) (cs_block (xs := fl ([(nodeD (oneD 1) (oneD 2)), oneD 3])) hw1 (by repeat (first | exact List.Mem.head _ | refine List.Mem.tail _ ?_ | refine List.mem_append_right _ ?_)) (by decide)) (Nat.le_trans (pkV_le _) (by decide))) ?_
    refine JA.tk 31 rfl (.none rfl) (fun _ => (Ev.pickT rfl rfl)) ?_
    refine JA.tk 32 rfl (.none rfl) (fun _ => (Ev.assign rfl)) ?_
    refine JA.done (by kernel_rfl) ?_
    refine JQ.thenN ?_
    refine JC.ret ?_
    refine JQ.end1 (H' := []) (.inl rfl) rfl (.tmp rfl) ?_ ?_
    · exact Sub.k
    · exact congrArg Value.bool (decide_eq_true (pk3 _ _ _))
  refine JAll.cons rfl ?_ JAll.nil
  refine JO.val rfl rfl rfl (.yes rfl rfl rfl) (Ev.lB Tryd.underlying22 Tryd.sizeOf22) ?_
  refine JA.one 14 ?_
  refine JO.callV rfl (.yes rfl rfl rfl) rfl Tryd.call34 (fun w1 hw1 => cone_any 3 w1) ?_
  refine JA.one 15 ?_
  refine JO.callV rfl (.yes rfl rfl rfl) rfl Tryd.call34 (fun w1 hw1 => cone_any 4 w1) ?_
  refine JA.one 17 ?_
  refine JO.callV rfl (.yes rfl rfl rfl) rfl Tryd.call34 (fun w1 hw1 => cone_any 5 w1) ?_
  refine JA.one 18 ?_
  refine JO.new rfl rfl rfl (.yes rfl rfl rfl) (En.bsD (e := 22) (ds := [oneD 3, oneD 4, (nodeD (oneD 1) (oneD 2)), oneD 5]) rfl rfl Tryd.underlying23 Tryd.sizeOf22 Tryd.zeroValue22 (by decide) (by decide)) (fun b46 hb46 => ?_)
  refine JA.one 19 ?_
  refine JO.callV rfl (.yes rfl rfl rfl) rfl Tryd.call21 (fun w1 hw1 => dSame_any o2 (some ⟨b46, 0, none⟩) c2 4 (prV [oneD 1, oneD 2, oneD 3, oneD 4, oneD 5] 3) [oneD 3, oneD 4, (nodeD (oneD 1) (oneD 2)), oneD 5] w1 (hC2 w1 hw1 (fun p hp => by simp [hp])) (cs_block (xs := fl ([oneD 3, oneD 4, (nodeD (oneD 1) (oneD 2)), oneD 5])) hw1 (by repeat (first | exact List.Mem.head _ | refine List.Mem.tail _ ?_ | refine List.mem_append_right _ ?_)) (by decide)) (Nat.le_trans (prV_le _ _) (by decide))) ?_
  refine JA.tk 20 rfl (.none rfl) (fun _ => (Ev.pickT rfl rfl)) ?_
  refine JA.tk 21 rfl (.none rfl) (fun _ => (Ev.move rfl)) ?_
  refine JA.know (d := 49) (b := true) rfl ?_ ?_
  · exact decide_eq_true (pr53 _ _ _ _ _)
  refine JA.tk 22 rfl (.yes rfl rfl rfl) (fun _ => (Ev.move rfl)) ?_
  refine JA.tk 23 rfl (.yes rfl rfl rfl) (fun _ => (Ev.bin rfl rfl eql_int)) ?_
  refine JA.tk 24 rfl (.none rfl) (fun _ => (Ev.pickT rfl rfl)) ?_
  refine JA.tk 25 rfl (.none rfl) (fun _ => (Ev.move rfl)) ?_
  refine JA.know (d := 53) (b := true) rfl ?_ ?_
  · exact decide_eq_true rfl
  refine JA.tk 26 rfl (.yes rfl rfl rfl) (fun _ => (Ev.move rfl)) ?_
  refine JA.branch [27, 28] (by kernel_rfl) rfl ?_
  refine JAll.cons rfl ?_ ?_
  · -- 27
    refine JO.val rfl rfl rfl (.yes rfl rfl rfl) (Ev.lB Tryd.underlying22 Tryd.sizeOf22) ?_
    refine JA.one 28 ?_
    refine JO.callV rfl (.yes rfl rfl rfl) rfl Tryd.call34 (fun w1 hw1 => cone_any 3 w1) ?_
    refine JA.one 29 ?_
    refine JO.new rfl rfl rfl (.yes rfl rfl rfl) (En.bsD (e := 22) (ds := [(nodeD (oneD 1) (oneD 2)), oneD 3]) rfl rfl Tryd.underlying23 Tryd.sizeOf22 Tryd.zeroValue22 (by decide) (by decide)) (fun b57 hb57 => ?_)
    refine JA.one 30 ?_
    refine JO.callV rfl (.yes rfl rfl rfl) rfl Tryd.call21 (fun w1 hw1 => dSame_any o3 (some ⟨b57, 0, none⟩) c3 2 (pkV [oneD 1, oneD 2, oneD 3]) [(nodeD (oneD 1) (oneD 2)), oneD 3] w1 (hC3 w1 hw1 (fun p hp => by simp [hp])) (cs_block (xs := fl ([(nodeD (oneD 1) (oneD 2)), oneD 3])) hw1 (by repeat (first | exact List.Mem.head _ | refine List.Mem.tail _ ?_ | refine List.mem_append_right _ ?_)) (by decide)) (Nat.le_trans (pkV_le _) (by decide))) ?_
    refine JA.tk 31 rfl (.none rfl) (fun _ => (Ev.pickT rfl rfl)) ?_
    refine JA.tk 32 rfl (.none rfl) (fun _ => (Ev.assign rfl)) ?_
    refine JA.done (by kernel_rfl) ?_
    refine JQ.thenN ?_
    refine JC.ret ?_
    refine JQ.end1 (H' := []) (.inl rfl) rfl (.tmp rfl) ?_ ?_
    · exact Sub.k
    · exact congrArg Value.bool (decide_eq_true (pk3 _ _ _))
  refine JAll.cons rfl ?_ JAll.nil
  refine JO.callV rfl (.yes rfl rfl rfl) rfl Tryd.call34 (fun w1 hw1 => cone_any 3 w1) ?_
  refine JA.one 27 ?_
  refine JO.val rfl rfl rfl (.yes rfl rfl rfl) (Ev.lB Tryd.underlying22 Tryd.sizeOf22) ?_
  refine JA.one 29 ?_
  refine JO.new rfl rfl rfl (.yes rfl rfl rfl) (En.bsD (e := 22) (ds := [(nodeD (oneD 1) (oneD 2)), oneD 3]) rfl rfl Tryd.underlying23 Tryd.sizeOf22 Tryd.zeroValue22 (by decide) (by decide)) (fun b57 hb57 => ?_)
  refine JA.one 30 ?_
  refine JO.callV rfl (.yes rfl rfl rfl) rfl Tryd.call21 (fun w1 hw1 => dSame_any o3 (some ⟨b57, 0, none⟩) c3 2 (pkV [oneD 1, oneD 2, oneD 3]) [(nodeD (oneD 1) (oneD 2)), oneD 3] w1 (hC3 w1 hw1 (fun p hp => by simp [hp])) (cs_block (xs := fl ([(nodeD (oneD 1) (oneD 2)), oneD 3])) hw1 (by repeat (first | exact List.Mem.head _ | refine List.Mem.tail _ ?_ | refine List.mem_append_right _ ?_)) (by decide)) (Nat.le_trans (pkV_le _) (by decide))) ?_
  refine JA.tk 31 rfl (.none rfl) (fun _ => (Ev.pickT rfl rfl)) ?_
  refine JA.tk 32 rfl (.none rfl) (fun _ => (Ev.assign rfl)) ?_
  refine JA.done (by kernel_rfl) ?_
  refine JQ.thenN ?_
  refine JC.ret ?_
  refine JQ.end1 (H' := []) (.inl rfl) rfl (.tmp rfl) ?_ ?_
  · exact Sub.k
  · exact congrArg Value.bool (decide_eq_true (pk3 _ _ _))

theorem lawProofs_any (oa : Option Addr) (cap : Nat) (ds : List Dig) (i n : Int) (hib : -9223372036854775808 ≤ i ∧ i ≤ 9223372036854775807) (hnb : -9223372036854775808 ≤ n ∧ n ≤ 9223372036854775807) (w : World) (hd : Dl w oa cap ds) (hmx : ds.length ≤ 4398046510976) (hk : KMem 1 w) (hf : FMem 0 w) :
    Calls Tryd.prog 4 #[.slice oa ds.length cap, .int .i64 i, .int .i64 n] w (Ret w (fun v _ => v = .bool true)) := by
  refine enter (vs := [.slice oa ds.length cap, .int .i64 i, .int .i64 n]) Tryd.func4 rfl Tryd.ntmps4 rfl ?_
  refine JC.seq ?_
  refine JC.region ?_
  refine JL.asg ?_
  refine JL.nil ?_
  refine JQ.thenN ?_
  refine JC.seq ?_
  refine JC.seq ?_
  refine JC.region ?_
  refine JL.mv ?_
  refine JL.callV rfl (.none rfl) rfl Tryd.call11 (fun w1 hw1 => great_any oa ds.length cap w1) ?_
  refine JL.mv ?_
  refine JL.split (d := 18) rfl (fun hg1 => ?_) (fun hg1 => ?_)
  · -- guard 18 true
    refine JL.val rfl rfl rfl (.yes rfl rfl rfl) (Ev.move rfl) ?_
    refine JL.val rfl rfl rfl (.yes rfl rfl rfl) (Ev.lenS rfl Tryd.underlying23) ?_
    refine JL.val rfl rfl rfl (.yes rfl rfl rfl) (Ev.bin rfl rfl leq_int) ?_
    refine JL.val rfl rfl rfl (.none rfl) (Ev.pickT rfl rfl) ?_
    refine JL.nil ?_
    refine JQ.thenN ?_
    refine JC.cond rfl (fun hc1 => ?_) (fun hc1 => ?_)
    · -- t22 True
      replace hc1 := of_decide_eq_true hc1
      refine JC.seq ?_
      refine JC.region ?_
      refine JL.asg ?_
      refine JL.nil ?_
      refine JQ.thenN ?_
      refine JC.ret ?_
      refine JQ.thenR ?_
      refine JQ.end1 (H' := []) (.inl rfl) rfl (.tmp rfl) ?_ ?_
      · exact Sub.k
      · first | rfl | exact congrArg Value.bool (decide_eq_true rfl)
    · -- t22 False
      replace hc1 := of_decide_eq_false hc1
      refine JC.skip ?_
      refine JQ.thenN ?_
      refine JC.seq ?_
      refine JC.region ?_
      refine JL.mv ?_
      refine JL.callN rfl (.none rfl) rfl Tryd.call16 (fun w1 hw1 => dTwin_any oa cap ds w1 (hd.old hw1) hmx) ?_
      rintro _ _ ⟨r2, rfl, rfl, hr2⟩
      refine JL.asg ?_
      refine JL.nil ?_
      refine JQ.thenN ?_
      refine JC.seq ?_
      refine JC.region ?_
      obtain ⟨o2, c2, e2, _, hC2⟩ := Row.vw (e := 22) hr2
      refine JL.re (d := 7) rfl e2 ?_
      refine JL.mv ?_
      refine JL.mv ?_
      refine JL.callN rfl (.none rfl) rfl Tryd.call17 (fun w1 hw1 => cProve_any o2 c2 ds i hib w1 (hC2 w1 hw1 (fun p hp => by simp [hp])) (hk.old hw1) (hf.old hw1)) ?_
      rintro _ _ ⟨r4, rfl, rfl, hr4⟩
      refine JL.mv ?_
      refine JL.val rfl rfl rfl (.none rfl) (Ev.ex0 rfl) ?_
      refine JL.val rfl rfl rfl (.none rfl) (Ev.ex1 rfl) ?_
      refine JL.asg ?_
      refine JL.asg ?_
      refine JL.nil ?_
      refine JQ.thenN ?_
      refine JC.seq ?_
      refine JC.region ?_
      refine JL.mv ?_
      refine JL.mv ?_
      refine JL.callN rfl (.none rfl) rfl Tryd.call18 (fun w1 hw1 => rcProve_any oa cap ds i hib w1 (hd.old hw1) hmx) ?_
      rintro _ _ ⟨r5, rfl, rfl, hr5⟩
      refine JL.mv ?_
      refine JL.val rfl rfl rfl (.none rfl) (Ev.ex0 rfl) ?_
      refine JL.val rfl rfl rfl (.none rfl) (Ev.ex1 rfl) ?_
      refine JL.asg ?_
      refine JL.asg ?_
      refine JL.nil ?_
      refine JQ.thenN ?_
      refine JC.seq ?_
      refine JC.region ?_
      refine JL.mv ?_
      refine JL.mv ?_
      refine JL.callV rfl (.none rfl) rfl Tryd.call19 (fun w1 hw1 => cProofLen_any i n hib hnb w1) ?_
      refine JL.mv ?_
      refine JL.val rfl rfl rfl (.none rfl) (Ev.ex0 rfl) ?_
      refine JL.val rfl rfl rfl (.none rfl) (Ev.ex1 rfl) ?_
      refine JL.asg ?_
      refine JL.asg ?_
      refine JL.nil ?_
      refine JQ.thenN ?_
      refine JC.seq ?_
      refine JC.region ?_
      refine JL.mv ?_
      refine JL.mv ?_
      refine JL.callV rfl (.none rfl) rfl Tryd.call20 (fun w1 hw1 => rcProofLen_any i n hib hnb w1) ?_
      refine JL.mv ?_
      refine JL.val rfl rfl rfl (.none rfl) (Ev.ex0 rfl) ?_
      refine JL.val rfl rfl rfl (.none rfl) (Ev.ex1 rfl) ?_
      refine JL.asg ?_
      refine JL.asg ?_
      refine JL.nil ?_
      refine JQ.thenN ?_
      refine JC.seq ?_
      refine JC.region ?_
      obtain ⟨o4, c4, e4, _, hC4⟩ := Row.vw (e := 22) hr4
      refine JL.re (d := 8) rfl e4 ?_
      obtain ⟨o5, c5, e5, _, hC5⟩ := Row.vw (e := 22) hr5
      refine JL.re (d := 10) rfl e5 ?_
      refine JL.mv ?_
      refine JL.mv ?_
      refine JL.callV rfl (.none rfl) rfl Tryd.call21 (fun w1 hw1 => dSame_any o4 o5 c4 c5 (prV ds i) (prV ds i) w1 (hC4 w1 hw1 (fun p hp => by simp [hp])) (hC5 w1 hw1 (fun p hp => by simp [hp])) (Nat.le_trans (prV_le _ _) hmx)) ?_
      refine JL.mv ?_
      refine JL.know (d := 52) (b := true) rfl ?_ ?_
      · exact decide_eq_true rfl
      refine JL.val rfl rfl rfl (.yes rfl rfl rfl) (Ev.move rfl) ?_
      refine JL.val rfl rfl rfl (.yes rfl rfl rfl) (Ev.move rfl) ?_
      refine JL.val rfl rfl rfl (.yes rfl rfl rfl) (Ev.bin rfl rfl eql_int) ?_
      refine JL.val rfl rfl rfl (.none rfl) (Ev.pickT rfl rfl) ?_
      refine JL.mv ?_
      refine JL.know (d := 57) (b := true) rfl ?_ ?_
      · exact decide_eq_true rfl
      refine JL.val rfl rfl rfl (.yes rfl rfl rfl) (Ev.move rfl) ?_
      refine JL.val rfl rfl rfl (.yes rfl rfl rfl) (Ev.move rfl) ?_
      refine JL.val rfl rfl rfl (.yes rfl rfl rfl) (Ev.bin rfl rfl eql_int) ?_
      refine JL.val rfl rfl rfl (.none rfl) (Ev.pickT rfl rfl) ?_
      refine JL.mv ?_
      refine JL.know (d := 62) (b := true) rfl ?_ ?_
      · exact decide_eq_true rfl
      refine JL.val rfl rfl rfl (.yes rfl rfl rfl) (Ev.move rfl) ?_
      refine JL.val rfl rfl rfl (.yes rfl rfl rfl) (Ev.move rfl) ?_
      refine JL.val rfl rfl rfl (.yes rfl rfl rfl) (Ev.bin rfl rfl eql_int) ?_
      refine JL.val rfl rfl rfl (.none rfl) (Ev.pickT rfl rfl) ?_
      refine JL.mv ?_
      refine JL.know (d := 67) (b := true) rfl ?_ ?_
      · exact decide_eq_true rfl
      refine JL.val rfl rfl rfl (.yes rfl rfl rfl) (Ev.move rfl) ?_
      refine JL.val rfl rfl rfl (.yes rfl rfl rfl) (Ev.move rfl) ?_
      refine JL.callV rfl (.yes rfl rfl rfl) rfl Tryd.call21 (fun w1 hw1 => dSame_any o2 oa c2 cap ds ds w1 (hC2 w1 hw1 (fun p hp => by simp [hp])) (hd.old hw1) hmx) ?_
      refine JL.val rfl rfl rfl (.none rfl) (Ev.pickT rfl rfl) ?_
      refine JL.asg ?_
      refine JL.nil ?_
      refine JQ.thenN ?_
      refine JC.ret ?_
      refine JQ.end1 (H' := []) (.inl rfl) rfl (.tmp rfl) ?_ ?_
      · exact Sub.k
      · first | rfl | exact congrArg Value.bool (decide_eq_true rfl)
  · -- guard 18 false
    refine JL.skip rfl rfl (.noT rfl rfl rfl) ?_
    refine JL.skip rfl rfl (.noT rfl rfl rfl) ?_
    refine JL.skip rfl rfl (.noT rfl rfl rfl) ?_
    refine JL.val rfl rfl rfl (.none rfl) (Ev.pickF rfl rfl) ?_
    refine JL.nil ?_
    refine JQ.thenN ?_
    refine JC.condF rfl ?_
    refine JC.skip ?_
    refine JQ.thenN ?_
    refine JC.seq ?_
    refine JC.region ?_
    refine JL.mv ?_
    refine JL.callN rfl (.none rfl) rfl Tryd.call16 (fun w1 hw1 => dTwin_any oa cap ds w1 (hd.old hw1) hmx) ?_
    rintro _ _ ⟨r2, rfl, rfl, hr2⟩
    refine JL.asg ?_
    refine JL.nil ?_
    refine JQ.thenN ?_
    refine JC.seq ?_
    refine JC.region ?_
    obtain ⟨o2, c2, e2, _, hC2⟩ := Row.vw (e := 22) hr2
    refine JL.re (d := 7) rfl e2 ?_
    refine JL.mv ?_
    refine JL.mv ?_
    refine JL.callN rfl (.none rfl) rfl Tryd.call17 (fun w1 hw1 => cProve_any o2 c2 ds i hib w1 (hC2 w1 hw1 (fun p hp => by simp [hp])) (hk.old hw1) (hf.old hw1)) ?_
    rintro _ _ ⟨r4, rfl, rfl, hr4⟩
    refine JL.mv ?_
    refine JL.val rfl rfl rfl (.none rfl) (Ev.ex0 rfl) ?_
    refine JL.val rfl rfl rfl (.none rfl) (Ev.ex1 rfl) ?_
    refine JL.asg ?_
    refine JL.asg ?_
    refine JL.nil ?_
    refine JQ.thenN ?_
    refine JC.seq ?_
    refine JC.region ?_
    refine JL.mv ?_
    refine JL.mv ?_
    refine JL.callN rfl (.none rfl) rfl Tryd.call18 (fun w1 hw1 => rcProve_any oa cap ds i hib w1 (hd.old hw1) hmx) ?_
    rintro _ _ ⟨r5, rfl, rfl, hr5⟩
    refine JL.mv ?_
    refine JL.val rfl rfl rfl (.none rfl) (Ev.ex0 rfl) ?_
    refine JL.val rfl rfl rfl (.none rfl) (Ev.ex1 rfl) ?_
    refine JL.asg ?_
    refine JL.asg ?_
    refine JL.nil ?_
    refine JQ.thenN ?_
    refine JC.seq ?_
    refine JC.region ?_
    refine JL.mv ?_
    refine JL.mv ?_
    refine JL.callV rfl (.none rfl) rfl Tryd.call19 (fun w1 hw1 => cProofLen_any i n hib hnb w1) ?_
    refine JL.mv ?_
    refine JL.val rfl rfl rfl (.none rfl) (Ev.ex0 rfl) ?_
    refine JL.val rfl rfl rfl (.none rfl) (Ev.ex1 rfl) ?_
    refine JL.asg ?_
    refine JL.asg ?_
    refine JL.nil ?_
    refine JQ.thenN ?_
    refine JC.seq ?_
    refine JC.region ?_
    refine JL.mv ?_
    refine JL.mv ?_
    refine JL.callV rfl (.none rfl) rfl Tryd.call20 (fun w1 hw1 => rcProofLen_any i n hib hnb w1) ?_
    refine JL.mv ?_
    refine JL.val rfl rfl rfl (.none rfl) (Ev.ex0 rfl) ?_
    refine JL.val rfl rfl rfl (.none rfl) (Ev.ex1 rfl) ?_
    refine JL.asg ?_
    refine JL.asg ?_
    refine JL.nil ?_
    refine JQ.thenN ?_
    refine JC.seq ?_
    refine JC.region ?_
    obtain ⟨o4, c4, e4, _, hC4⟩ := Row.vw (e := 22) hr4
    refine JL.re (d := 8) rfl e4 ?_
    obtain ⟨o5, c5, e5, _, hC5⟩ := Row.vw (e := 22) hr5
    refine JL.re (d := 10) rfl e5 ?_
    refine JL.mv ?_
    refine JL.mv ?_
    refine JL.callV rfl (.none rfl) rfl Tryd.call21 (fun w1 hw1 => dSame_any o4 o5 c4 c5 (prV ds i) (prV ds i) w1 (hC4 w1 hw1 (fun p hp => by simp [hp])) (hC5 w1 hw1 (fun p hp => by simp [hp])) (Nat.le_trans (prV_le _ _) hmx)) ?_
    refine JL.mv ?_
    refine JL.know (d := 52) (b := true) rfl ?_ ?_
    · exact decide_eq_true rfl
    refine JL.val rfl rfl rfl (.yes rfl rfl rfl) (Ev.move rfl) ?_
    refine JL.val rfl rfl rfl (.yes rfl rfl rfl) (Ev.move rfl) ?_
    refine JL.val rfl rfl rfl (.yes rfl rfl rfl) (Ev.bin rfl rfl eql_int) ?_
    refine JL.val rfl rfl rfl (.none rfl) (Ev.pickT rfl rfl) ?_
    refine JL.mv ?_
    refine JL.know (d := 57) (b := true) rfl ?_ ?_
    · exact decide_eq_true rfl
    refine JL.val rfl rfl rfl (.yes rfl rfl rfl) (Ev.move rfl) ?_
    refine JL.val rfl rfl rfl (.yes rfl rfl rfl) (Ev.move rfl) ?_
    refine JL.val rfl rfl rfl (.yes rfl rfl rfl) (Ev.bin rfl rfl eql_int) ?_
    refine JL.val rfl rfl rfl (.none rfl) (Ev.pickT rfl rfl) ?_
    refine JL.mv ?_
    refine JL.know (d := 62) (b := true) rfl ?_ ?_
    · exact decide_eq_true rfl
    refine JL.val rfl rfl rfl (.yes rfl rfl rfl) (Ev.move rfl) ?_
    refine JL.val rfl rfl rfl (.yes rfl rfl rfl) (Ev.move rfl) ?_
    refine JL.val rfl rfl rfl (.yes rfl rfl rfl) (Ev.bin rfl rfl eql_int) ?_
    refine JL.val rfl rfl rfl (.none rfl) (Ev.pickT rfl rfl) ?_
    refine JL.mv ?_
    refine JL.know (d := 67) (b := true) rfl ?_ ?_
    · exact decide_eq_true rfl
    refine JL.val rfl rfl rfl (.yes rfl rfl rfl) (Ev.move rfl) ?_
    refine JL.val rfl rfl rfl (.yes rfl rfl rfl) (Ev.move rfl) ?_
    refine JL.callV rfl (.yes rfl rfl rfl) rfl Tryd.call21 (fun w1 hw1 => dSame_any o2 oa c2 cap ds ds w1 (hC2 w1 hw1 (fun p hp => by simp [hp])) (hd.old hw1) hmx) ?_
    refine JL.val rfl rfl rfl (.none rfl) (Ev.pickT rfl rfl) ?_
    refine JL.asg ?_
    refine JL.nil ?_
    refine JQ.thenN ?_
    refine JC.ret ?_
    refine JQ.end1 (H' := []) (.inl rfl) rfl (.tmp rfl) ?_ ?_
    · exact Sub.k
    · first | rfl | exact congrArg Value.bool (decide_eq_true rfl)

theorem lawPeaks_any (oa ob : Option Addr) (ca cb : Nat) (ds ps : List Dig) (n : Int) (hnb : -9223372036854775808 ≤ n ∧ n ≤ 9223372036854775807) (x : Dig) (w : World) (hd : Dl w oa ca ds) (hp : Dl w ob cb ps) (hk : KMem 1 w) (hf : FMem 0 w) :
    Calls Tryd.prog 5 #[.slice oa ds.length ca, .slice ob ps.length cb, .int .i64 n, .agg (arr8 x.1)] w (Ret w (fun v _ => v = .bool true)) := by
  refine enter (vs := [.slice oa ds.length ca, .slice ob ps.length cb, .int .i64 n, .agg (arr8 x.1)]) Tryd.func5 rfl Tryd.ntmps5 rfl ?_
  refine JC.seq ?_
  refine JC.region ?_
  refine JL.new rfl rfl rfl (.none rfl) (En.boxA rfl) (fun b7 hb7 => ?_)
  refine JL.asg ?_
  refine JL.nil ?_
  refine JQ.thenN ?_
  refine JC.seq ?_
  refine JC.seq ?_
  refine JC.region ?_
  refine JL.mv ?_
  refine JL.callV rfl (.none rfl) rfl Tryd.call11 (fun w1 hw1 => great_any oa ds.length ca w1) ?_
  refine JL.mv ?_
  refine JL.split (d := 20) rfl (fun hg1 => ?_) (fun hg1 => ?_)
  · -- guard 20 true
    refine JL.val rfl rfl rfl (.yes rfl rfl rfl) (Ev.move rfl) ?_
    refine JL.val rfl rfl rfl (.yes rfl rfl rfl) (Ev.lenS rfl Tryd.underlying23) ?_
    refine JL.val rfl rfl rfl (.yes rfl rfl rfl) (Ev.bin rfl rfl leq_int) ?_
    refine JL.val rfl rfl rfl (.none rfl) (Ev.pickT rfl rfl) ?_
    refine JL.mv ?_
    refine JL.split (d := 25) rfl (fun hgP => ?_) (fun hgP => ?_)
    · -- guard 25 true
      refine JL.skip rfl rfl (.noF rfl rfl rfl) ?_
      refine JL.skip rfl rfl (.noF rfl rfl rfl) ?_
      refine JL.val rfl rfl rfl (.none rfl) (Ev.pickT rfl rfl) ?_
      refine JL.nil ?_
      refine JQ.thenN ?_
      refine JC.condT rfl ?_
      refine JC.seq ?_
      refine JC.region ?_
      refine JL.asg ?_
      refine JL.nil ?_
      refine JQ.thenN ?_
      refine JC.ret ?_
      refine JQ.thenR ?_
      refine JQ.end1 (H' := []) (.inl rfl) rfl (.tmp rfl) ?_ ?_
      · exact Sub.k
      · first | rfl | exact congrArg Value.bool (decide_eq_true rfl)
    · -- guard 25 false
      refine JL.val rfl rfl rfl (.yes rfl rfl rfl) (Ev.move rfl) ?_
      refine JL.callV rfl (.yes rfl rfl rfl) rfl Tryd.call11 (fun w1 hw1 => great_any ob ps.length cb w1) ?_
      refine JL.val rfl rfl rfl (.none rfl) (Ev.pickF rfl rfl) ?_
      refine JL.nil ?_
      refine JQ.thenN ?_
      refine JC.cond rfl (fun hc1 => ?_) (fun hc1 => ?_)
      · -- t28 True
        replace hc1 := of_decide_eq_true hc1
        refine JC.seq ?_
        refine JC.region ?_
        refine JL.asg ?_
        refine JL.nil ?_
        refine JQ.thenN ?_
        refine JC.ret ?_
        refine JQ.thenR ?_
        refine JQ.end1 (H' := []) (.inl rfl) rfl (.tmp rfl) ?_ ?_
        · exact Sub.k
        · first | rfl | exact congrArg Value.bool (decide_eq_true rfl)
      · -- t28 False
        replace hc1 := of_decide_eq_false hc1
        have hps : ps.length ≤ 130 := by omega
        refine JC.skip ?_
        refine JQ.thenN ?_
        refine JC.seq ?_
        refine JC.region ?_
        refine JL.mv ?_
        refine JL.callN rfl (.none rfl) rfl Tryd.call16 (fun w1 hw1 => dTwin_any ob cb ps w1 (hp.old hw1) (by omega)) ?_
        rintro _ _ ⟨r2, rfl, rfl, hr2⟩
        refine JL.asg ?_
        refine JL.nil ?_
        refine JQ.thenN ?_
        refine JC.seq ?_
        refine JC.region ?_
        obtain ⟨o2, c2, e2, _, hC2⟩ := Row.vw (e := 22) hr2
        refine JL.re (d := 9) rfl e2 ?_
        refine JL.mv ?_
        refine JL.callN rfl (.none rfl) rfl Tryd.call22 (fun w1 hw1 => cPeaks_any oa ca ds w1 (hd.old hw1) (hk.old hw1) (hf.old hw1)) ?_
        rintro _ _ ⟨r4, rfl, rfl, hr4⟩
        refine JL.mv ?_
        refine JL.val rfl rfl rfl (.none rfl) (Ev.ex0 rfl) ?_
        refine JL.val rfl rfl rfl (.none rfl) (Ev.ex1 rfl) ?_
        refine JL.asg ?_
        refine JL.asg ?_
        refine JL.nil ?_
        refine JQ.thenN ?_
        refine JC.seq ?_
        refine JC.region ?_
        refine JL.mv ?_
        refine JL.callN rfl (.none rfl) rfl Tryd.call23 (fun w1 hw1 => rPeaks2_any oa ca ds w1 (hd.old hw1)) ?_
        rintro _ _ ⟨r5, rfl, rfl, hr5⟩
        refine JL.mv ?_
        refine JL.val rfl rfl rfl (.none rfl) (Ev.ex0 rfl) ?_
        refine JL.val rfl rfl rfl (.none rfl) (Ev.ex1 rfl) ?_
        refine JL.asg ?_
        refine JL.asg ?_
        refine JL.nil ?_
        refine JQ.thenN ?_
        refine JC.seq ?_
        refine JC.region ?_
        refine JL.mv ?_
        refine JL.mv ?_
        refine JL.val rfl rfl rfl (.none rfl) (Ev.lB Tryd.underlying22 Tryd.sizeOf22) ?_
        refine JL.callN rfl (.none rfl) rfl Tryd.call24 (fun w1 hw1 => cAppend_any o2 c2 ps n hnb x w1 (hC2 w1 hw1 (fun p hp => by simp [hp])) (hk.old hw1) (hf.old hw1)) ?_
        rintro _ _ ⟨r6, rfl, rfl, hr6⟩
        refine JL.mv ?_
        refine JL.val rfl rfl rfl (.none rfl) (Ev.ex0 rfl) ?_
        refine JL.val rfl rfl rfl (.none rfl) (Ev.ex1 rfl) ?_
        refine JL.asg ?_
        refine JL.asg ?_
        refine JL.nil ?_
        refine JQ.thenN ?_
        refine JC.seq ?_
        refine JC.region ?_
        refine JL.mv ?_
        refine JL.mv ?_
        refine JL.val rfl rfl rfl (.none rfl) (Ev.lB Tryd.underlying22 Tryd.sizeOf22) ?_
        refine JL.callN rfl (.none rfl) rfl Tryd.call25 (fun w1 hw1 => rAppend_any ob cb ps n hnb x w1 (hp.old hw1)) ?_
        rintro _ _ ⟨r7, rfl, rfl, hr7⟩
        refine JL.mv ?_
        refine JL.val rfl rfl rfl (.none rfl) (Ev.ex0 rfl) ?_
        refine JL.val rfl rfl rfl (.none rfl) (Ev.ex1 rfl) ?_
        refine JL.asg ?_
        refine JL.asg ?_
        refine JL.nil ?_
        refine JQ.thenN ?_
        refine JC.seq ?_
        refine JC.region ?_
        obtain ⟨o4, c4, e4, _, hC4⟩ := Row.vw (e := 22) hr4
        refine JL.re (d := 10) rfl e4 ?_
        obtain ⟨o5, c5, e5, _, hC5⟩ := Row.vw (e := 22) hr5
        refine JL.re (d := 12) rfl e5 ?_
        obtain ⟨o6, c6, e6, _, hC6⟩ := Row.vw (e := 22) hr6
        refine JL.re (d := 14) rfl e6 ?_
        obtain ⟨o7, c7, e7, _, hC7⟩ := Row.vw (e := 22) hr7
        refine JL.re (d := 16) rfl e7 ?_
        refine JL.mv ?_
        refine JL.mv ?_
        refine JL.callV rfl (.none rfl) rfl Tryd.call21 (fun w1 hw1 => dSame_any o4 o5 c4 c5 (pkV ds) (pkV ds) w1 (hC4 w1 hw1 (fun p hp => by simp [hp])) (hC5 w1 hw1 (fun p hp => by simp [hp])) (Nat.le_trans (pkV_small ds) (by decide))) ?_
        refine JL.mv ?_
        refine JL.know (d := 58) (b := true) rfl ?_ ?_
        · exact decide_eq_true rfl
        refine JL.val rfl rfl rfl (.yes rfl rfl rfl) (Ev.move rfl) ?_
        refine JL.val rfl rfl rfl (.yes rfl rfl rfl) (Ev.move rfl) ?_
        refine JL.val rfl rfl rfl (.yes rfl rfl rfl) (Ev.bin rfl rfl eql_int) ?_
        refine JL.val rfl rfl rfl (.none rfl) (Ev.pickT rfl rfl) ?_
        refine JL.mv ?_
        refine JL.know (d := 63) (b := true) rfl ?_ ?_
        · exact decide_eq_true rfl
        refine JL.val rfl rfl rfl (.yes rfl rfl rfl) (Ev.move rfl) ?_
        refine JL.val rfl rfl rfl (.yes rfl rfl rfl) (Ev.move rfl) ?_
        refine JL.callV rfl (.yes rfl rfl rfl) rfl Tryd.call21 (fun w1 hw1 => dSame_any o6 o7 c6 c7 (apV ps n x) (apV ps n x) w1 (hC6 w1 hw1 (fun p hp => by simp [hp])) (hC7 w1 hw1 (fun p hp => by simp [hp])) (Nat.le_trans (apV_le ps n x) (by omega))) ?_
        refine JL.val rfl rfl rfl (.none rfl) (Ev.pickT rfl rfl) ?_
        refine JL.mv ?_
        refine JL.know (d := 68) (b := true) rfl ?_ ?_
        · exact decide_eq_true rfl
        refine JL.val rfl rfl rfl (.yes rfl rfl rfl) (Ev.move rfl) ?_
        refine JL.val rfl rfl rfl (.yes rfl rfl rfl) (Ev.move rfl) ?_
        refine JL.val rfl rfl rfl (.yes rfl rfl rfl) (Ev.bin rfl rfl eql_int) ?_
        refine JL.val rfl rfl rfl (.none rfl) (Ev.pickT rfl rfl) ?_
        refine JL.mv ?_
        refine JL.know (d := 73) (b := true) rfl ?_ ?_
        · exact decide_eq_true rfl
        refine JL.val rfl rfl rfl (.yes rfl rfl rfl) (Ev.move rfl) ?_
        refine JL.callV rfl (.yes rfl rfl rfl) rfl Tryd.call26 (fun w1 hw1 => cPeaksRoot_any o2 c2 ps w1 (hC2 w1 hw1 (fun p hp => by simp [hp])) (by omega) (hk.old hw1) (hf.old hw1)) ?_
        refine JL.val rfl rfl rfl (.yes rfl rfl rfl) (Ev.move rfl) ?_
        refine JL.callV rfl (.yes rfl rfl rfl) rfl Tryd.call27 (fun w1 hw1 => rPeaksRoot_any ob cb ps w1 (hp.old hw1) (by omega)) ?_
        refine JL.val rfl rfl rfl (.yes rfl rfl rfl) (Ev.bin rfl rfl (eql_arr8 (n := 32) Tryd.underlying22 Tryd.underlying5 (by kernel_rfl) (by kernel_rfl) (by first | rfl | exact dig_len _ | assumption | exact sha_length _ | exact shaO_length _) (by first | rfl | exact dig_len _ | assumption | exact sha_length _ | exact shaO_length _))) ?_
        refine JL.val rfl rfl rfl (.none rfl) (Ev.pickT rfl rfl) ?_
        refine JL.mv ?_
        refine JL.know (d := 80) (b := true) rfl ?_ ?_
        · exact decide_eq_true rfl
        refine JL.val rfl rfl rfl (.yes rfl rfl rfl) (Ev.move rfl) ?_
        refine JL.val rfl rfl rfl (.yes rfl rfl rfl) (Ev.move rfl) ?_
        refine JL.callV rfl (.yes rfl rfl rfl) rfl Tryd.call21 (fun w1 hw1 => dSame_any o2 ob c2 cb ps ps w1 (hC2 w1 hw1 (fun p hp => by simp [hp])) (hp.old hw1) (by omega)) ?_
        refine JL.val rfl rfl rfl (.none rfl) (Ev.pickT rfl rfl) ?_
        refine JL.asg ?_
        refine JL.nil ?_
        refine JQ.thenN ?_
        refine JC.ret ?_
        refine JQ.end1 (H' := []) (.inl rfl) rfl (.tmp rfl) ?_ ?_
        · exact Sub.k
        · first | rfl | exact congrArg Value.bool (decide_eq_true rfl)
  · -- guard 20 false
    refine JL.skip rfl rfl (.noT rfl rfl rfl) ?_
    refine JL.skip rfl rfl (.noT rfl rfl rfl) ?_
    refine JL.skip rfl rfl (.noT rfl rfl rfl) ?_
    refine JL.val rfl rfl rfl (.none rfl) (Ev.pickF rfl rfl) ?_
    refine JL.mv ?_
    refine JL.val rfl rfl rfl (.yes rfl rfl rfl) (Ev.move rfl) ?_
    refine JL.callV rfl (.yes rfl rfl rfl) rfl Tryd.call11 (fun w1 hw1 => great_any ob ps.length cb w1) ?_
    refine JL.val rfl rfl rfl (.none rfl) (Ev.pickF rfl rfl) ?_
    refine JL.nil ?_
    refine JQ.thenN ?_
    refine JC.cond rfl (fun hc2 => ?_) (fun hc2 => ?_)
    · -- t28 True
      replace hc2 := of_decide_eq_true hc2
      refine JC.seq ?_
      refine JC.region ?_
      refine JL.asg ?_
      refine JL.nil ?_
      refine JQ.thenN ?_
      refine JC.ret ?_
      refine JQ.thenR ?_
      refine JQ.end1 (H' := []) (.inl rfl) rfl (.tmp rfl) ?_ ?_
      · exact Sub.k
      · first | rfl | exact congrArg Value.bool (decide_eq_true rfl)
    · -- t28 False
      replace hc2 := of_decide_eq_false hc2
      have hps : ps.length ≤ 130 := by omega
      refine JC.skip ?_
      refine JQ.thenN ?_
      refine JC.seq ?_
      refine JC.region ?_
      refine JL.mv ?_
      refine JL.callN rfl (.none rfl) rfl Tryd.call16 (fun w1 hw1 => dTwin_any ob cb ps w1 (hp.old hw1) (by omega)) ?_
      rintro _ _ ⟨r2, rfl, rfl, hr2⟩
      refine JL.asg ?_
      refine JL.nil ?_
      refine JQ.thenN ?_
      refine JC.seq ?_
      refine JC.region ?_
      obtain ⟨o2, c2, e2, _, hC2⟩ := Row.vw (e := 22) hr2
      refine JL.re (d := 9) rfl e2 ?_
      refine JL.mv ?_
      refine JL.callN rfl (.none rfl) rfl Tryd.call22 (fun w1 hw1 => cPeaks_any oa ca ds w1 (hd.old hw1) (hk.old hw1) (hf.old hw1)) ?_
      rintro _ _ ⟨r4, rfl, rfl, hr4⟩
      refine JL.mv ?_
      refine JL.val rfl rfl rfl (.none rfl) (Ev.ex0 rfl) ?_
      refine JL.val rfl rfl rfl (.none rfl) (Ev.ex1 rfl) ?_
      refine JL.asg ?_
      refine JL.asg ?_
      refine JL.nil ?_
      refine JQ.thenN ?_
      refine JC.seq ?_
      refine JC.region ?_
      refine JL.mv ?_
      refine JL.callN rfl (.none rfl) rfl Tryd.call23 (fun w1 hw1 => rPeaks2_any oa ca ds w1 (hd.old hw1)) ?_
      rintro _ _ ⟨r5, rfl, rfl, hr5⟩
      refine JL.mv ?_
      refine JL.val rfl rfl rfl (.none rfl) (Ev.ex0 rfl) ?_
      refine JL.val rfl rfl rfl (.none rfl) (Ev.ex1 rfl) ?_
      refine JL.asg ?_
      refine JL.asg ?_
      refine JL.nil ?_
      refine JQ.thenN ?_
      refine JC.seq ?_
      refine JC.region ?_
      refine JL.mv ?_
      refine JL.mv ?_
      refine JL.val rfl rfl rfl (.none rfl) (Ev.lB Tryd.underlying22 Tryd.sizeOf22) ?_
      refine JL.callN rfl (.none rfl) rfl Tryd.call24 (fun w1 hw1 => cAppend_any o2 c2 ps n hnb x w1 (hC2 w1 hw1 (fun p hp => by simp [hp])) (hk.old hw1) (hf.old hw1)) ?_
      rintro _ _ ⟨r6, rfl, rfl, hr6⟩
      refine JL.mv ?_
      refine JL.val rfl rfl rfl (.none rfl) (Ev.ex0 rfl) ?_
      refine JL.val rfl rfl rfl (.none rfl) (Ev.ex1 rfl) ?_
      refine JL.asg ?_
      refine JL.asg ?_
      refine JL.nil ?_
      refine JQ.thenN ?_
      refine JC.seq ?_
      refine JC.region ?_
      refine JL.mv ?_
      refine JL.mv ?_
      refine JL.val rfl rfl rfl (.none rfl) (Ev.lB Tryd.underlying22 Tryd.sizeOf22) ?_
      refine JL.callN rfl (.none rfl) rfl Tryd.call25 (fun w1 hw1 => rAppend_any ob cb ps n hnb x w1 (hp.old hw1)) ?_
      rintro _ _ ⟨r7, rfl, rfl, hr7⟩
      refine JL.mv ?_
      refine JL.val rfl rfl rfl (.none rfl) (Ev.ex0 rfl) ?_
      refine JL.val rfl rfl rfl (.none rfl) (Ev.ex1 rfl) ?_
      refine JL.asg ?_
      refine JL.asg ?_
      refine JL.nil ?_
      refine JQ.thenN ?_
      refine JC.seq ?_
      refine JC.region ?_
      obtain ⟨o4, c4, e4, _, hC4⟩ := Row.vw (e := 22) hr4
      refine JL.re (d := 10) rfl e4 ?_
      obtain ⟨o5, c5, e5, _, hC5⟩ := Row.vw (e := 22) hr5
      refine JL.re (d := 12) rfl e5 ?_
      obtain ⟨o6, c6, e6, _, hC6⟩ := Row.vw (e := 22) hr6
      refine JL.re (d := 14) rfl e6 ?_
      obtain ⟨o7, c7, e7, _, hC7⟩ := Row.vw (e := 22) hr7
      refine JL.re (d := 16) rfl e7 ?_
      refine JL.mv ?_
      refine JL.mv ?_
      refine JL.callV rfl (.none rfl) rfl Tryd.call21 (fun w1 hw1 => dSame_any o4 o5 c4 c5 (pkV ds) (pkV ds) w1 (hC4 w1 hw1 (fun p hp => by simp [hp])) (hC5 w1 hw1 (fun p hp => by simp [hp])) (Nat.le_trans (pkV_small ds) (by decide))) ?_
      refine JL.mv ?_
      refine JL.know (d := 58) (b := true) rfl ?_ ?_
      · exact decide_eq_true rfl
      refine JL.val rfl rfl rfl (.yes rfl rfl rfl) (Ev.move rfl) ?_
      refine JL.val rfl rfl rfl (.yes rfl rfl rfl) (Ev.move rfl) ?_
      refine JL.val rfl rfl rfl (.yes rfl rfl rfl) (Ev.bin rfl rfl eql_int) ?_
      refine JL.val rfl rfl rfl (.none rfl) (Ev.pickT rfl rfl) ?_
      refine JL.mv ?_
      refine JL.know (d := 63) (b := true) rfl ?_ ?_
      · exact decide_eq_true rfl
      refine JL.val rfl rfl rfl (.yes rfl rfl rfl) (Ev.move rfl) ?_
      refine JL.val rfl rfl rfl (.yes rfl rfl rfl) (Ev.move rfl) ?_
      refine JL.callV rfl (.yes rfl rfl rfl) rfl Tryd.call21 (fun w1 hw1 => dSame_any o6 o7 c6 c7 (apV ps n x) (apV ps n x) w1 (hC6 w1 hw1 (fun p hp => by simp [hp])) (hC7 w1 hw1 (fun p hp => by simp [hp])) (Nat.le_trans (apV_le ps n x) (by omega))) ?_
      refine JL.val rfl rfl rfl (.none rfl) (Ev.pickT rfl rfl) ?_
      refine JL.mv ?_
      refine JL.know (d := 68) (b := true) rfl ?_ ?_
      · exact decide_eq_true rfl
      refine JL.val rfl rfl rfl (.yes rfl rfl rfl) (Ev.move rfl) ?_
      refine JL.val rfl rfl rfl (.yes rfl rfl rfl) (Ev.move rfl) ?_
      refine JL.val rfl rfl rfl (.yes rfl rfl rfl) (Ev.bin rfl rfl eql_int) ?_
      refine JL.val rfl rfl rfl (.none rfl) (Ev.pickT rfl rfl) ?_
      refine JL.mv ?_
      refine JL.know (d := 73) (b := true) rfl ?_ ?_
      · exact decide_eq_true rfl
      refine JL.val rfl rfl rfl (.yes rfl rfl rfl) (Ev.move rfl) ?_
      refine JL.callV rfl (.yes rfl rfl rfl) rfl Tryd.call26 (fun w1 hw1 => cPeaksRoot_any o2 c2 ps w1 (hC2 w1 hw1 (fun p hp => by simp [hp])) (by omega) (hk.old hw1) (hf.old hw1)) ?_
      refine JL.val rfl rfl rfl (.yes rfl rfl rfl) (Ev.move rfl) ?_
      refine JL.callV rfl (.yes rfl rfl rfl) rfl Tryd.call27 (fun w1 hw1 => rPeaksRoot_any ob cb ps w1 (hp.old hw1) (by omega)) ?_
      refine JL.val rfl rfl rfl (.yes rfl rfl rfl) (Ev.bin rfl rfl (eql_arr8 (n := 32) Tryd.underlying22 Tryd.underlying5 (by kernel_rfl) (by kernel_rfl) (by first | rfl | exact dig_len _ | assumption | exact sha_length _ | exact shaO_length _) (by first | rfl | exact dig_len _ | assumption | exact sha_length _ | exact shaO_length _))) ?_
      refine JL.val rfl rfl rfl (.none rfl) (Ev.pickT rfl rfl) ?_
      refine JL.mv ?_
      refine JL.know (d := 80) (b := true) rfl ?_ ?_
      · exact decide_eq_true rfl
      refine JL.val rfl rfl rfl (.yes rfl rfl rfl) (Ev.move rfl) ?_
      refine JL.val rfl rfl rfl (.yes rfl rfl rfl) (Ev.move rfl) ?_
      refine JL.callV rfl (.yes rfl rfl rfl) rfl Tryd.call21 (fun w1 hw1 => dSame_any o2 ob c2 cb ps ps w1 (hC2 w1 hw1 (fun p hp => by simp [hp])) (hp.old hw1) (by omega)) ?_
      refine JL.val rfl rfl rfl (.none rfl) (Ev.pickT rfl rfl) ?_
      refine JL.asg ?_
      refine JL.nil ?_
      refine JQ.thenN ?_
      refine JC.ret ?_
      refine JQ.end1 (H' := []) (.inl rfl) rfl (.tmp rfl) ?_ ?_
      · exact Sub.k
      · first | rfl | exact congrArg Value.bool (decide_eq_true rfl)

theorem lawAccepts_any (oa : Option Addr) (cap : Nat) (ds : List Dig) (i : Int) (hib : -9223372036854775808 ≤ i ∧ i ≤ 9223372036854775807) (w : World) (hd : Dl w oa cap ds) (hk : KMem 1 w) (hf : FMem 0 w) :
    Calls Tryd.prog 6 #[.slice oa ds.length cap, .int .i64 i] w (Ret w (fun v _ => v = .bool true)) := by
  refine enter (vs := [.slice oa ds.length cap, .int .i64 i]) Tryd.func6 rfl Tryd.ntmps6 rfl ?_
  refine JC.seq ?_
  refine JC.region ?_
  refine JL.asg ?_
  refine JL.nil ?_
  refine JQ.thenN ?_
  refine JC.seq ?_
  refine JC.region ?_
  refine JL.callV rfl (.none rfl) rfl Tryd.call28 (fun w1 hw1 => calive_any w1 (hk.old hw1) (hf.old hw1)) ?_
  refine JL.asg ?_
  refine JL.nil ?_
  refine JQ.thenN ?_
  refine JC.seq ?_
  refine JC.seq ?_
  refine JC.region ?_
  refine JL.mv ?_
  refine JL.callV rfl (.none rfl) rfl Tryd.call11 (fun w1 hw1 => great_any oa ds.length cap w1) ?_
  refine JL.mv ?_
  refine JL.split (d := 22) rfl (fun hgA => ?_) (fun hgA => ?_)
  · -- guard 22 true
    refine JL.skip rfl rfl (.noF rfl rfl rfl) ?_
    refine JL.skip rfl rfl (.noF rfl rfl rfl) ?_
    refine JL.val rfl rfl rfl (.none rfl) (Ev.pickT rfl rfl) ?_
    refine JL.mv ?_
    refine JL.skip rfl rfl (.noF rfl rfl rfl) ?_
    refine JL.skip rfl rfl (.noF rfl rfl rfl) ?_
    refine JL.skip rfl rfl (.noF rfl rfl rfl) ?_
    refine JL.skip rfl rfl (.noF rfl rfl rfl) ?_
    refine JL.val rfl rfl rfl (.none rfl) (Ev.pickT rfl rfl) ?_
    refine JL.mv ?_
    refine JL.skip rfl rfl (.noF rfl rfl rfl) ?_
    refine JL.skip rfl rfl (.noF rfl rfl rfl) ?_
    refine JL.val rfl rfl rfl (.none rfl) (Ev.pickT rfl rfl) ?_
    refine JL.nil ?_
    refine JQ.thenN ?_
    refine JC.condT rfl ?_
    refine JC.seq ?_
    refine JC.region ?_
    refine JL.mv ?_
    refine JL.asg ?_
    refine JL.nil ?_
    refine JQ.thenN ?_
    refine JC.ret ?_
    refine JQ.thenR ?_
    refine JQ.end1 (H' := []) (.inl rfl) rfl (.tmp rfl) ?_ ?_
    · exact Sub.k
    · first | rfl | exact congrArg Value.bool hve
  · -- guard 22 false
    have hg130 : ¬ 130 < (ds.length : Int) := of_decide_eq_false hgA
    refine JL.val rfl rfl rfl (.yes rfl rfl rfl) (Ev.move rfl) ?_
    refine JL.val rfl rfl rfl (.yes rfl rfl rfl) (Ev.bin rfl rfl lss_int) ?_
    refine JL.val rfl rfl rfl (.none rfl) (Ev.pickF rfl rfl) ?_
    refine JL.mv ?_
    refine JL.split (d := 26) rfl (fun hgB => ?_) (fun hgB => ?_)
    · -- guard 26 true
      refine JL.skip rfl rfl (.noF rfl rfl rfl) ?_
      refine JL.skip rfl rfl (.noF rfl rfl rfl) ?_
      refine JL.skip rfl rfl (.noF rfl rfl rfl) ?_
      refine JL.skip rfl rfl (.noF rfl rfl rfl) ?_
      refine JL.val rfl rfl rfl (.none rfl) (Ev.pickT rfl rfl) ?_
      refine JL.mv ?_
      refine JL.skip rfl rfl (.noF rfl rfl rfl) ?_
      refine JL.skip rfl rfl (.noF rfl rfl rfl) ?_
      refine JL.val rfl rfl rfl (.none rfl) (Ev.pickT rfl rfl) ?_
      refine JL.nil ?_
      refine JQ.thenN ?_
      refine JC.condT rfl ?_
      refine JC.seq ?_
      refine JC.region ?_
      refine JL.mv ?_
      refine JL.asg ?_
      refine JL.nil ?_
      refine JQ.thenN ?_
      refine JC.ret ?_
      refine JQ.thenR ?_
      refine JQ.end1 (H' := []) (.inl rfl) rfl (.tmp rfl) ?_ ?_
      · exact Sub.k
      · first | rfl | exact congrArg Value.bool hve
    · -- guard 26 false
      have hi0 := of_decide_eq_false hgB
      refine JL.val rfl rfl rfl (.yes rfl rfl rfl) (Ev.move rfl) ?_
      refine JL.val rfl rfl rfl (.yes rfl rfl rfl) (Ev.move rfl) ?_
      refine JL.val rfl rfl rfl (.yes rfl rfl rfl) (Ev.lenS rfl Tryd.underlying23) ?_
      refine JL.val rfl rfl rfl (.yes rfl rfl rfl) (Ev.bin rfl rfl gtr_int) ?_
      refine JL.val rfl rfl rfl (.none rfl) (Ev.pickF rfl rfl) ?_
      refine JL.mv ?_
      refine JL.split (d := 32) rfl (fun hgC => ?_) (fun hgC => ?_)
      · -- guard 32 true
        refine JL.skip rfl rfl (.noF rfl rfl rfl) ?_
        refine JL.skip rfl rfl (.noF rfl rfl rfl) ?_
        refine JL.val rfl rfl rfl (.none rfl) (Ev.pickT rfl rfl) ?_
        refine JL.nil ?_
        refine JQ.thenN ?_
        refine JC.condT rfl ?_
        refine JC.seq ?_
        refine JC.region ?_
        refine JL.mv ?_
        refine JL.asg ?_
        refine JL.nil ?_
        refine JQ.thenN ?_
        refine JC.ret ?_
        refine JQ.thenR ?_
        refine JQ.end1 (H' := []) (.inl rfl) rfl (.tmp rfl) ?_ ?_
        · exact Sub.k
        · first | rfl | exact congrArg Value.bool hve
      · -- guard 32 false
        have hil := of_decide_eq_false hgC
        obtain ⟨n, rfl⟩ : ∃ n : Nat, i = (n : Int) := ⟨i.toNat, by omega⟩
        have hn1 : 1 ≤ n := by omega
        have hn2 : n ≤ ds.length := by omega
        have hsm : ¬ 1024 < ds.length := by omega
        have htl : (ds.take n).length = n := by rw [List.length_take]; omega
        obtain ⟨a, rfl⟩ := Cs.get_some hd (by omega)
        obtain ⟨hpe0, hpl, hpc, hpce, hfe, hfo, hve, hvee⟩ := accept_ok (N := ds.length) rfl hn1 hn2 hsm
        refine JL.val rfl rfl rfl (.yes rfl rfl rfl) (Ev.move rfl) ?_
        refine JL.val rfl rfl rfl (.yes rfl rfl rfl) (Ev.not rfl) ?_
        refine JL.val rfl rfl rfl (.none rfl) (Ev.pickF rfl rfl) ?_
        refine JL.nil ?_
        refine JQ.thenN ?_
        refine JC.knowF rfl ?_ ?_
        · rfl
        refine JC.skip ?_
        refine JQ.thenN ?_
        refine JC.seq ?_
        refine JC.region ?_
        refine JL.mv ?_
        refine JL.mv ?_
        refine JL.val rfl rfl rfl (.none rfl) (Ev.cast (v' := .slice (some a) (ds.take n).length cap) (by rw [sub3_0, htl]) (Ev.sliceHi rfl rfl Tryd.underlying23 Tryd.sizeOf22 (h := n) rfl (by have := hd.le; omega))) ?_
        refine JL.callV rfl (.none rfl) rfl Tryd.call29 (fun w1 hw1 => Root_any (some a) cap (ds.take n) w1 (Dl.take (hd.old hw1) (by omega)) (by omega) (hk.old hw1) (hf.old hw1)) ?_
        refine JL.mv ?_
        refine JL.val rfl rfl rfl (.none rfl) (Ev.ex0 rfl) ?_
        refine JL.val rfl rfl rfl (.none rfl) (Ev.ex1 rfl) ?_
        refine JL.new rfl rfl rfl (.none rfl) (En.allocZ (cs := arr8 (List.replicate 32 0)) Tryd.zeroValue22 rfl) (fun b6 hb6 => ?_)
        refine JL.sto rfl rfl (.none rfl) (Es.sA Tryd.sizeOf22) ?_
        refine JL.asg ?_
        refine JL.nil ?_
        refine JQ.thenN ?_
        refine JC.seq ?_
        refine JC.region ?_
        refine JL.mv ?_
        refine JL.callV rfl (.none rfl) rfl Tryd.call29 (fun w1 hw1 => Root_any (some a) cap ds w1 (hd.old hw1) (by omega) (hk.old hw1) (hf.old hw1)) ?_
        refine JL.mv ?_
        refine JL.val rfl rfl rfl (.none rfl) (Ev.ex0 rfl) ?_
        refine JL.val rfl rfl rfl (.none rfl) (Ev.ex1 rfl) ?_
        refine JL.new rfl rfl rfl (.none rfl) (En.allocZ (cs := arr8 (List.replicate 32 0)) Tryd.zeroValue22 rfl) (fun b8 hb8 => ?_)
        refine JL.sto rfl rfl (.none rfl) (Es.sA Tryd.sizeOf22) ?_
        refine JL.asg ?_
        refine JL.nil ?_
        refine JQ.thenN ?_
        refine JC.seq ?_
        refine JC.region ?_
        refine JL.mv ?_
        refine JL.mv ?_
        refine JL.callN rfl (.none rfl) rfl Tryd.call17 (fun w1 hw1 => cProve_any (some a) cap ds (n : Int) hib w1 (hd.old hw1) (hk.old hw1) (hf.old hw1)) ?_
        rintro _ _ ⟨r1, rfl, rfl, hr1⟩
        refine JL.mv ?_
        refine JL.val rfl rfl rfl (.none rfl) (Ev.ex0 rfl) ?_
        refine JL.val rfl rfl rfl (.none rfl) (Ev.ex1 rfl) ?_
        refine JL.asg ?_
        refine JL.asg ?_
        refine JL.nil ?_
        refine JQ.thenN ?_
        refine JC.seq ?_
        refine JC.region ?_
        obtain ⟨o1, c1, e1, _, hC1⟩ := Row.vw (e := 22) hr1
        refine JL.re (d := 10) rfl e1 ?_
        refine JL.mv ?_
        refine JL.mv ?_
        refine JL.val rfl rfl rfl (.none rfl) (Ev.lenS rfl Tryd.underlying23) ?_
        refine JL.callV rfl (.none rfl) rfl Tryd.call19 (fun w1 hw1 => cProofLen_any (n : Int) (ds.length : Int) hib (by constructor <;> omega) w1) ?_
        refine JL.mv ?_
        refine JL.val rfl rfl rfl (.none rfl) (Ev.ex0 rfl) ?_
        refine JL.val rfl rfl rfl (.none rfl) (Ev.ex1 rfl) ?_
        refine JL.asg ?_
        refine JL.asg ?_
        refine JL.nil ?_
        refine JQ.thenN ?_
        refine JC.seq ?_
        refine JC.region ?_
        refine JL.mv ?_
        refine JL.mv ?_
        refine JL.val rfl rfl rfl (.none rfl) (Ev.lenS rfl Tryd.underlying23) ?_
        refine JL.val rfl rfl rfl (.none rfl) (Ev.lB Tryd.underlying22 Tryd.sizeOf22) ?_
        refine JL.mv ?_
        refine JL.callV rfl (.none rfl) rfl Tryd.call12 (fun w1 hw1 => cFollow_any (rootV (ds.take n)) (n : Int) (ds.length : Int) hib (by constructor <;> omega) o1 c1 (prV ds (n : Int)) w1 (hC1 w1 hw1 (fun p hp => by simp [hp])) (hk.old hw1) (hf.old hw1)) ?_
        refine JL.mv ?_
        refine JL.val rfl rfl rfl (.none rfl) (Ev.ex0 rfl) ?_
        refine JL.val rfl rfl rfl (.none rfl) (Ev.ex1 rfl) ?_
        refine JL.val rfl rfl rfl (.none rfl) (Ev.ex2 rfl) ?_
        refine JL.new rfl rfl rfl (.none rfl) (En.allocZ (cs := arr8 (List.replicate 32 0)) Tryd.zeroValue22 rfl) (fun b14 hb14 => ?_)
        refine JL.new rfl rfl rfl (.none rfl) (En.allocZ (cs := arr8 (List.replicate 32 0)) Tryd.zeroValue22 rfl) (fun b15 hb15 => ?_)
        refine JL.sto rfl rfl (.none rfl) (Es.sA Tryd.sizeOf22) ?_
        refine JL.sto rfl rfl (.none rfl) (Es.sA Tryd.sizeOf22) ?_
        refine JL.asg ?_
        refine JL.nil ?_
        refine JQ.thenN ?_
        refine JC.seq ?_
        refine JC.region ?_
        refine JL.mv ?_
        refine JL.mv ?_
        refine JL.val rfl rfl rfl (.none rfl) (Ev.lenS rfl Tryd.underlying23) ?_
        refine JL.val rfl rfl rfl (.none rfl) (Ev.lB Tryd.underlying22 Tryd.sizeOf22) ?_
        refine JL.val rfl rfl rfl (.none rfl) (Ev.lB Tryd.underlying22 Tryd.sizeOf22) ?_
        refine JL.mv ?_
        refine JL.callV rfl (.none rfl) rfl Tryd.call14 (fun w1 hw1 => cVerify_any (rootV (ds.take n)) (rootV ds) (n : Int) (ds.length : Int) hib (by constructor <;> omega) o1 c1 (prV ds (n : Int)) w1 (hC1 w1 hw1 (fun p hp => by simp [hp])) (hk.old hw1) (hf.old hw1)) ?_
        refine JL.mv ?_
        refine JL.val rfl rfl rfl (.none rfl) (Ev.ex0 rfl) ?_
        refine JL.val rfl rfl rfl (.none rfl) (Ev.ex1 rfl) ?_
        refine JL.asg ?_
        refine JL.asg ?_
        refine JL.nil ?_
        refine JQ.thenN ?_
        refine JC.seq ?_
        refine JC.region ?_
        refine JL.re (d := 7) (v' := .int .i64 0) rfl (congrArg (Value.int .i64) (rootE_ok (by omega))) ?_
        refine JL.re (d := 9) (v' := .int .i64 0) rfl (congrArg (Value.int .i64) (rootE_ok hsm)) ?_
        refine JL.re (d := 11) (v' := .int .i64 0) rfl (congrArg (Value.int .i64) (hpe0)) ?_
        refine JL.re (d := 13) (v' := .int .i64 0) rfl (congrArg (Value.int .i64) (hpce)) ?_
        refine JL.re (d := 16) (v' := .int .i64 0) rfl (congrArg (Value.int .i64) (hfe)) ?_
        refine JL.re (d := 18) (v' := .int .i64 0) rfl (congrArg (Value.int .i64) (hvee)) ?_
        refine JL.mv ?_
        refine JL.mv ?_
        refine JL.know (d := 83) (b := true) rfl ?_ ?_
        · first | rfl | exact decide_eq_true rfl | exact decide_eq_true (congrArg Int.ofNat (hpl.trans hpc.symm)) | exact decide_eq_true (by rw [hfo]) | exact hve
        refine JL.val rfl rfl rfl (.yes rfl rfl rfl) (Ev.move rfl) ?_
        refine JL.val rfl rfl rfl (.yes rfl rfl rfl) (Ev.bin rfl rfl eql_int) ?_
        refine JL.val rfl rfl rfl (.none rfl) (Ev.pickT rfl rfl) ?_
        refine JL.mv ?_
        refine JL.know (d := 87) (b := true) rfl ?_ ?_
        · first | rfl | exact decide_eq_true rfl | exact decide_eq_true (congrArg Int.ofNat (hpl.trans hpc.symm)) | exact decide_eq_true (by rw [hfo]) | exact hve
        refine JL.val rfl rfl rfl (.yes rfl rfl rfl) (Ev.move rfl) ?_
        refine JL.val rfl rfl rfl (.yes rfl rfl rfl) (Ev.bin rfl rfl eql_int) ?_
        refine JL.val rfl rfl rfl (.none rfl) (Ev.pickT rfl rfl) ?_
        refine JL.mv ?_
        refine JL.know (d := 91) (b := true) rfl ?_ ?_
        · first | rfl | exact decide_eq_true rfl | exact decide_eq_true (congrArg Int.ofNat (hpl.trans hpc.symm)) | exact decide_eq_true (by rw [hfo]) | exact hve
        refine JL.val rfl rfl rfl (.yes rfl rfl rfl) (Ev.move rfl) ?_
        refine JL.val rfl rfl rfl (.yes rfl rfl rfl) (Ev.bin rfl rfl eql_int) ?_
        refine JL.val rfl rfl rfl (.none rfl) (Ev.pickT rfl rfl) ?_
        refine JL.mv ?_
        refine JL.know (d := 95) (b := true) rfl ?_ ?_
        · first | rfl | exact decide_eq_true rfl | exact decide_eq_true (congrArg Int.ofNat (hpl.trans hpc.symm)) | exact decide_eq_true (by rw [hfo]) | exact hve
        refine JL.val rfl rfl rfl (.yes rfl rfl rfl) (Ev.move rfl) ?_
        refine JL.val rfl rfl rfl (.yes rfl rfl rfl) (Ev.bin rfl rfl eql_int) ?_
        refine JL.val rfl rfl rfl (.none rfl) (Ev.pickT rfl rfl) ?_
        refine JL.mv ?_
        refine JL.know (d := 99) (b := true) rfl ?_ ?_
        · first | rfl | exact decide_eq_true rfl | exact decide_eq_true (congrArg Int.ofNat (hpl.trans hpc.symm)) | exact decide_eq_true (by rw [hfo]) | exact hve
        refine JL.val rfl rfl rfl (.yes rfl rfl rfl) (Ev.move rfl) ?_
        refine JL.val rfl rfl rfl (.yes rfl rfl rfl) (Ev.lenS rfl Tryd.underlying23) ?_
        refine JL.val rfl rfl rfl (.yes rfl rfl rfl) (Ev.move rfl) ?_
        refine JL.val rfl rfl rfl (.yes rfl rfl rfl) (Ev.bin rfl rfl eql_int) ?_
        refine JL.val rfl rfl rfl (.none rfl) (Ev.pickT rfl rfl) ?_
        refine JL.mv ?_
        refine JL.know (d := 105) (b := true) rfl ?_ ?_
        · first | rfl | exact decide_eq_true rfl | exact decide_eq_true (congrArg Int.ofNat (hpl.trans hpc.symm)) | exact decide_eq_true (by rw [hfo]) | exact hve
        refine JL.val rfl rfl rfl (.yes rfl rfl rfl) (Ev.move rfl) ?_
        refine JL.val rfl rfl rfl (.yes rfl rfl rfl) (Ev.bin rfl rfl eql_int) ?_
        refine JL.val rfl rfl rfl (.none rfl) (Ev.pickT rfl rfl) ?_
        refine JL.mv ?_
        refine JL.know (d := 109) (b := true) rfl ?_ ?_
        · first | rfl | exact decide_eq_true rfl | exact decide_eq_true (congrArg Int.ofNat (hpl.trans hpc.symm)) | exact decide_eq_true (by rw [hfo]) | exact hve
        refine JL.val rfl rfl rfl (.yes rfl rfl rfl) (Ev.lB Tryd.underlying22 Tryd.sizeOf22) ?_
        refine JL.val rfl rfl rfl (.yes rfl rfl rfl) (Ev.lB Tryd.underlying22 Tryd.sizeOf22) ?_
        refine JL.val rfl rfl rfl (.yes rfl rfl rfl) (Ev.bin rfl rfl (eql_arr8 (n := 32) Tryd.underlying22 Tryd.underlying5 (by kernel_rfl) (by kernel_rfl) (by first | rfl | exact dig_len _ | assumption | exact sha_length _ | exact shaO_length _) (by first | rfl | exact dig_len _ | assumption | exact sha_length _ | exact shaO_length _))) ?_
        refine JL.val rfl rfl rfl (.none rfl) (Ev.pickT rfl rfl) ?_
        refine JL.mv ?_
        refine JL.know (d := 114) (b := true) rfl ?_ ?_
        · first | rfl | exact decide_eq_true rfl | exact decide_eq_true (congrArg Int.ofNat (hpl.trans hpc.symm)) | exact decide_eq_true (by rw [hfo]) | exact hve
        refine JL.val rfl rfl rfl (.yes rfl rfl rfl) (Ev.lB Tryd.underlying22 Tryd.sizeOf22) ?_
        refine JL.val rfl rfl rfl (.yes rfl rfl rfl) (Ev.lB Tryd.underlying22 Tryd.sizeOf22) ?_
        refine JL.val rfl rfl rfl (.yes rfl rfl rfl) (Ev.bin rfl rfl (eql_arr8 (n := 32) Tryd.underlying22 Tryd.underlying5 (by kernel_rfl) (by kernel_rfl) (by first | rfl | exact dig_len _ | assumption | exact sha_length _ | exact shaO_length _) (by first | rfl | exact dig_len _ | assumption | exact sha_length _ | exact shaO_length _))) ?_
        refine JL.val rfl rfl rfl (.none rfl) (Ev.pickT rfl rfl) ?_
        refine JL.mv ?_
        refine JL.know (d := 119) (b := true) rfl ?_ ?_
        · first | rfl | exact decide_eq_true rfl | exact decide_eq_true (congrArg Int.ofNat (hpl.trans hpc.symm)) | exact decide_eq_true (by rw [hfo]) | exact hve
        refine JL.val rfl rfl rfl (.yes rfl rfl rfl) (Ev.move rfl) ?_
        refine JL.val rfl rfl rfl (.yes rfl rfl rfl) (Ev.bin rfl rfl eql_int) ?_
        refine JL.val rfl rfl rfl (.none rfl) (Ev.pickT rfl rfl) ?_
        refine JL.mv ?_
        refine JL.know (d := 123) (b := true) rfl ?_ ?_
        · first | rfl | exact decide_eq_true rfl | exact decide_eq_true (congrArg Int.ofNat (hpl.trans hpc.symm)) | exact decide_eq_true (by rw [hfo]) | exact hve
        refine JL.val rfl rfl rfl (.yes rfl rfl rfl) (Ev.move rfl) ?_
        refine JL.val rfl rfl rfl (.none rfl) (Ev.pickT rfl rfl) ?_
        refine JL.asg ?_
        refine JL.nil ?_
        refine JQ.thenN ?_
        refine JC.ret ?_
        refine JQ.end1 (H' := []) (.inl rfl) rfl (.tmp rfl) ?_ ?_
        · exact Sub.k
        · first | rfl | exact congrArg Value.bool hve

end Go.Proofs.YtimegpilihfghaaDoor
