/-
  Consistency: the law of names.
-/
import Derived.Test.YtimegpilihfghaaDoorCon7
namespace Go.Proofs.YtimegpilihfghaaDoor
open Go Go.RowKit
set_option maxRecDepth 100000

def bigY : List Dig := List.replicate 1025 zeroD
theorem bigY_len : bigY.length = 1025 := List.length_replicate
theorem Dl.bigY {w0 w1 : World} {H : Blocks} {b : Nat} {e : TypeId} (hw : Hp w0 H w1) (hm : (b, Obj.cells (fl bigY).toArray e (0, 0)) ∈ H) : Dl w1 (some ⟨b, 0, none⟩) 1025 bigY :=
  ⟨Nat.le_of_eq bigY_len, (by decide : 1025 ≤ maxLen), fun h => (by cases h), fun a ha => by
    cases ha
    exact Mem.own hw hm fun j v hj => by simpa using hj⟩
theorem cn1 : pcV 4 8 = 1 := by decide +kernel
theorem cn2 : pcV 6 8 = 3 := by decide +kernel
theorem cn3 : stepsC 2 3 true = 1 := by decide +kernel
theorem cn4 : fcE 2 3 [] = 290 := fcE_ne (i := 2) (n := 3) (by decide) (by rw [cn3]; decide)
theorem cn5 : badA [] 1 := .inr (.inr (by show 0 ≠ onesR 1; decide +kernel))
theorem cn6 : badA [oneD 1] 1024 := .inr (.inl (by decide))
theorem pr33 (a b c : Dig) : prV [a, b, c] 3 = [] := by
  rw [prV_ok (by simp) (by simp)]
  exact proofR_top (l := [a, b, c]) (m := 3) rfl
theorem pr31 (a b c : Dig) : prV [a, b, c] 1 = [b, c] := by
  rw [prV_ok (by simp) (by simp)]
  show proofR [a, b, c] 1 true = _
  rw [proofR_left (by decide) (by simp) (by show 1 ≤ bel 3; rw [bel_three]; decide)]
  show proofR (List.take (bel 3) [a, b, c]) 1 true ++ [rootR (List.drop (bel 3) [a, b, c])] = _
  rw [bel_three]
  show proofR [a, b] 1 true ++ [rootR [c]] = _
  rw [proofR_left (by decide) (by simp) (by show 1 ≤ bel 2; rw [bel_two]; decide)]
  show (proofR (List.take (bel 2) [a, b]) 1 true ++ [rootR (List.drop (bel 2) [a, b])]) ++ [rootR [c]] = _
  rw [bel_two]
  show (proofR [a] 1 true ++ [rootR [b]]) ++ [rootR [c]] = _
  rw [proofR_top (l := [a]) (m := 1) rfl, rootR_one, rootR_one]; rfl

theorem lawNames_any (w : World) (hk : KMem 1 w) (hf : FMem 0 w) :
    Calls Tryd.prog 10 #[] w (Ret w (fun v _ => v = .bool true)) := by
  refine enter (vs := []) Tryd.func10 rfl Tryd.ntmps10 rfl ?_
  refine JC.seq ?_
  -- region 0
  refine JC.region ?_
  refine JL.val rfl rfl rfl (.none rfl) (Ev.assign rfl) ?_
  refine JL.nil ?_
  refine JQ.thenN ?_
  refine JC.seq ?_
  -- region 1
  refine JC.region ?_
  refine JL.callN rfl (.none rfl) rfl Tryd.call33 (fun w1 hw1 => five_any w1) ?_
  rintro _ _ ⟨bf1, rfl, rfl⟩
  refine JL.val rfl rfl rfl (.none rfl) (Ev.cast (v' := .slice (some ⟨bf1, 0, none⟩) [oneD 1, oneD 2, oneD 3].length 5) (sub3_0) (Ev.sliceHi rfl rfl Tryd.underlying23 Tryd.sizeOf22 (h := 3) rfl (by omega))) ?_
  refine JL.callN rfl (.none rfl) rfl Tryd.call17 (fun w1 hw1 => cProve_any (some ⟨bf1, 0, none⟩) 5 [oneD 1, oneD 2, oneD 3] 3 (by constructor <;> decide) w1 (Dl.take (ds := [oneD 1, oneD 2, oneD 3, oneD 4, oneD 5]) (cs_block (xs := fl ([oneD 1, oneD 2, oneD 3, oneD 4, oneD 5])) hw1 (by repeat (first | exact List.Mem.head _ | refine List.Mem.tail _ ?_ | refine List.mem_append_right _ ?_)) (by decide)) (k := 3) (by decide)) (hk.old hw1) (hf.old hw1)) ?_
  rintro _ _ ⟨r1, rfl, rfl, hr1⟩
  refine JL.val rfl rfl rfl (.none rfl) (Ev.move rfl) ?_
  refine JL.val rfl rfl rfl (.none rfl) (Ev.ex0 rfl) ?_
  refine JL.val rfl rfl rfl (.none rfl) (Ev.ex1 rfl) ?_
  refine JL.val rfl rfl rfl (.none rfl) (Ev.assign rfl) ?_
  refine JL.val rfl rfl rfl (.none rfl) (Ev.assign rfl) ?_
  refine JL.nil ?_
  refine JQ.thenN ?_
  refine JC.seq ?_
  -- region 2
  refine JC.region ?_
  refine JL.callN rfl (.none rfl) rfl Tryd.call33 (fun w1 hw1 => five_any w1) ?_
  rintro _ _ ⟨bf2, rfl, rfl⟩
  refine JL.val rfl rfl rfl (.none rfl) (Ev.cast (v' := .slice (some ⟨bf2, 0, none⟩) [oneD 1, oneD 2, oneD 3].length 5) (sub3_0) (Ev.sliceHi rfl rfl Tryd.underlying23 Tryd.sizeOf22 (h := 3) rfl (by omega))) ?_
  refine JL.callN rfl (.none rfl) rfl Tryd.call17 (fun w1 hw1 => cProve_any (some ⟨bf2, 0, none⟩) 5 [oneD 1, oneD 2, oneD 3] 1 (by constructor <;> decide) w1 (Dl.take (ds := [oneD 1, oneD 2, oneD 3, oneD 4, oneD 5]) (cs_block (xs := fl ([oneD 1, oneD 2, oneD 3, oneD 4, oneD 5])) hw1 (by repeat (first | exact List.Mem.head _ | refine List.Mem.tail _ ?_ | refine List.mem_append_right _ ?_)) (by decide)) (k := 3) (by decide)) (hk.old hw1) (hf.old hw1)) ?_
  rintro _ _ ⟨r2, rfl, rfl, hr2⟩
  refine JL.val rfl rfl rfl (.none rfl) (Ev.move rfl) ?_
  refine JL.val rfl rfl rfl (.none rfl) (Ev.ex0 rfl) ?_
  refine JL.val rfl rfl rfl (.none rfl) (Ev.ex1 rfl) ?_
  refine JL.val rfl rfl rfl (.none rfl) (Ev.assign rfl) ?_
  refine JL.val rfl rfl rfl (.none rfl) (Ev.assign rfl) ?_
  refine JL.nil ?_
  refine JQ.thenN ?_
  refine JC.seq ?_
  -- region 3
  refine JC.region ?_
  refine JL.callV rfl (.none rfl) rfl Tryd.call19 (fun w1 hw1 => cProofLen_any 4 8 (by constructor <;> decide) (by constructor <;> decide) w1) ?_
  refine JL.val rfl rfl rfl (.none rfl) (Ev.move rfl) ?_
  refine JL.val rfl rfl rfl (.none rfl) (Ev.ex0 rfl) ?_
  refine JL.val rfl rfl rfl (.none rfl) (Ev.ex1 rfl) ?_
  refine JL.val rfl rfl rfl (.none rfl) (Ev.assign rfl) ?_
  refine JL.val rfl rfl rfl (.none rfl) (Ev.assign rfl) ?_
  refine JL.nil ?_
  refine JQ.thenN ?_
  refine JC.seq ?_
  -- region 4
  refine JC.region ?_
  refine JL.callV rfl (.none rfl) rfl Tryd.call19 (fun w1 hw1 => cProofLen_any 6 8 (by constructor <;> decide) (by constructor <;> decide) w1) ?_
  refine JL.val rfl rfl rfl (.none rfl) (Ev.move rfl) ?_
  refine JL.val rfl rfl rfl (.none rfl) (Ev.ex0 rfl) ?_
  refine JL.val rfl rfl rfl (.none rfl) (Ev.ex1 rfl) ?_
  refine JL.val rfl rfl rfl (.none rfl) (Ev.assign rfl) ?_
  refine JL.val rfl rfl rfl (.none rfl) (Ev.assign rfl) ?_
  refine JL.nil ?_
  refine JQ.thenN ?_
  refine JC.seq ?_
  -- region 5
  refine JC.region ?_
  refine JL.callN rfl (.none rfl) rfl Tryd.call33 (fun w1 hw1 => five_any w1) ?_
  rintro _ _ ⟨bf3, rfl, rfl⟩
  refine JL.callN rfl (.none rfl) rfl Tryd.call17 (fun w1 hw1 => cProve_any (some ⟨bf3, 0, none⟩) 5 [oneD 1, oneD 2, oneD 3, oneD 4, oneD 5] 0 (by constructor <;> decide) w1 (cs_block (xs := fl ([oneD 1, oneD 2, oneD 3, oneD 4, oneD 5])) hw1 (by repeat (first | exact List.Mem.head _ | refine List.Mem.tail _ ?_ | refine List.mem_append_right _ ?_)) (by decide)) (hk.old hw1) (hf.old hw1)) ?_
  rintro _ _ ⟨r3, rfl, rfl, hr3⟩
  refine JL.val rfl rfl rfl (.none rfl) (Ev.move rfl) ?_
  refine JL.val rfl rfl rfl (.none rfl) (Ev.ex0 rfl) ?_
  refine JL.val rfl rfl rfl (.none rfl) (Ev.ex1 rfl) ?_
  refine JL.val rfl rfl rfl (.none rfl) (Ev.assign rfl) ?_
  refine JL.val rfl rfl rfl (.none rfl) (Ev.assign rfl) ?_
  refine JL.nil ?_
  refine JQ.thenN ?_
  refine JC.seq ?_
  -- region 6
  refine JC.region ?_
  refine JL.callN rfl (.none rfl) rfl Tryd.call33 (fun w1 hw1 => five_any w1) ?_
  rintro _ _ ⟨bf4, rfl, rfl⟩
  refine JL.callN rfl (.none rfl) rfl Tryd.call17 (fun w1 hw1 => cProve_any (some ⟨bf4, 0, none⟩) 5 [oneD 1, oneD 2, oneD 3, oneD 4, oneD 5] 6 (by constructor <;> decide) w1 (cs_block (xs := fl ([oneD 1, oneD 2, oneD 3, oneD 4, oneD 5])) hw1 (by repeat (first | exact List.Mem.head _ | refine List.Mem.tail _ ?_ | refine List.mem_append_right _ ?_)) (by decide)) (hk.old hw1) (hf.old hw1)) ?_
  rintro _ _ ⟨r4, rfl, rfl, hr4⟩
  refine JL.val rfl rfl rfl (.none rfl) (Ev.move rfl) ?_
  refine JL.val rfl rfl rfl (.none rfl) (Ev.ex0 rfl) ?_
  refine JL.val rfl rfl rfl (.none rfl) (Ev.ex1 rfl) ?_
  refine JL.val rfl rfl rfl (.none rfl) (Ev.assign rfl) ?_
  refine JL.val rfl rfl rfl (.none rfl) (Ev.assign rfl) ?_
  refine JL.nil ?_
  refine JQ.thenN ?_
  refine JC.seq ?_
  -- region 7
  refine JC.region ?_
  refine JL.new rfl rfl rfl (.none rfl) (En.makeD (n := 1025) rfl rfl Tryd.underlying23 (by kernel_rfl) (by decide)) (fun b63 hb63 => ?_)
  refine JL.re (d := 63) (v' := .slice (some ⟨b63, 0, none⟩) bigY.length 1025) rfl (by rw [bigY_len]) ?_
  refine JL.callN rfl (.none rfl) rfl Tryd.call17 (fun w1 hw1 => cProve_any (some ⟨b63, 0, none⟩) 1025 bigY 0 (by constructor <;> decide) w1 (Dl.bigY hw1 (by repeat (first | exact List.Mem.head _ | refine List.Mem.tail _ ?_ | refine List.mem_append_right _ ?_))) (hk.old hw1) (hf.old hw1)) ?_
  rintro _ _ ⟨r5, rfl, rfl, hr5⟩
  refine JL.val rfl rfl rfl (.none rfl) (Ev.move rfl) ?_
  refine JL.val rfl rfl rfl (.none rfl) (Ev.ex0 rfl) ?_
  refine JL.val rfl rfl rfl (.none rfl) (Ev.ex1 rfl) ?_
  refine JL.val rfl rfl rfl (.none rfl) (Ev.assign rfl) ?_
  refine JL.val rfl rfl rfl (.none rfl) (Ev.assign rfl) ?_
  refine JL.nil ?_
  refine JQ.thenN ?_
  refine JC.seq ?_
  -- region 8
  refine JC.region ?_
  refine JL.callV rfl (.none rfl) rfl Tryd.call34 (fun w1 hw1 => cone_any 1 w1) ?_
  refine JL.callV rfl (.none rfl) rfl Tryd.call12 (fun w1 hw1 => cFollow_any (oneD 1) 2 3 (by constructor <;> decide) (by constructor <;> decide) none 0 [] w1 cs_nil (hk.old hw1) (hf.old hw1)) ?_
  refine JL.val rfl rfl rfl (.none rfl) (Ev.move rfl) ?_
  refine JL.val rfl rfl rfl (.none rfl) (Ev.ex0 rfl) ?_
  refine JL.val rfl rfl rfl (.none rfl) (Ev.ex1 rfl) ?_
  refine JL.val rfl rfl rfl (.none rfl) (Ev.ex2 rfl) ?_
  refine JL.new rfl rfl rfl (.none rfl) (En.allocZ (cs := arr8 (List.replicate 32 0)) Tryd.zeroValue22 rfl) (fun b15 hb15 => ?_)
  refine JL.new rfl rfl rfl (.none rfl) (En.allocZ (cs := arr8 (List.replicate 32 0)) Tryd.zeroValue22 rfl) (fun b16 hb16 => ?_)
  refine JL.sto rfl rfl (.none rfl) (Es.sA Tryd.sizeOf22) ?_
  refine JL.sto rfl rfl (.none rfl) (Es.sA Tryd.sizeOf22) ?_
  refine JL.val rfl rfl rfl (.none rfl) (Ev.assign rfl) ?_
  refine JL.nil ?_
  refine JQ.thenN ?_
  refine JC.seq ?_
  -- region 9
  refine JC.region ?_
  refine JL.callV rfl (.none rfl) rfl Tryd.call34 (fun w1 hw1 => cone_any 1 w1) ?_
  refine JL.callV rfl (.none rfl) rfl Tryd.call12 (fun w1 hw1 => cFollow_any (oneD 1) 4 3 (by constructor <;> decide) (by constructor <;> decide) none 0 [] w1 cs_nil (hk.old hw1) (hf.old hw1)) ?_
  refine JL.val rfl rfl rfl (.none rfl) (Ev.move rfl) ?_
  refine JL.val rfl rfl rfl (.none rfl) (Ev.ex0 rfl) ?_
  refine JL.val rfl rfl rfl (.none rfl) (Ev.ex1 rfl) ?_
  refine JL.val rfl rfl rfl (.none rfl) (Ev.ex2 rfl) ?_
  refine JL.new rfl rfl rfl (.none rfl) (En.allocZ (cs := arr8 (List.replicate 32 0)) Tryd.zeroValue22 rfl) (fun b18 hb18 => ?_)
  refine JL.new rfl rfl rfl (.none rfl) (En.allocZ (cs := arr8 (List.replicate 32 0)) Tryd.zeroValue22 rfl) (fun b19 hb19 => ?_)
  refine JL.sto rfl rfl (.none rfl) (Es.sA Tryd.sizeOf22) ?_
  refine JL.sto rfl rfl (.none rfl) (Es.sA Tryd.sizeOf22) ?_
  refine JL.val rfl rfl rfl (.none rfl) (Ev.assign rfl) ?_
  refine JL.nil ?_
  refine JQ.thenN ?_
  refine JC.seq ?_
  -- region 10
  refine JC.region ?_
  refine JL.callV rfl (.none rfl) rfl Tryd.call34 (fun w1 hw1 => cone_any 1 w1) ?_
  refine JL.callV rfl (.none rfl) rfl Tryd.call34 (fun w1 hw1 => cone_any 2 w1) ?_
  refine JL.callV rfl (.none rfl) rfl Tryd.call14 (fun w1 hw1 => cVerify_any (oneD 1) (oneD 2) 2 3 (by constructor <;> decide) (by constructor <;> decide) none 0 [] w1 cs_nil (hk.old hw1) (hf.old hw1)) ?_
  refine JL.val rfl rfl rfl (.none rfl) (Ev.move rfl) ?_
  refine JL.val rfl rfl rfl (.none rfl) (Ev.ex0 rfl) ?_
  refine JL.val rfl rfl rfl (.none rfl) (Ev.ex1 rfl) ?_
  refine JL.val rfl rfl rfl (.none rfl) (Ev.assign rfl) ?_
  refine JL.val rfl rfl rfl (.none rfl) (Ev.assign rfl) ?_
  refine JL.nil ?_
  refine JQ.thenN ?_
  refine JC.seq ?_
  -- region 11
  refine JC.region ?_
  refine JL.callV rfl (.none rfl) rfl Tryd.call34 (fun w1 hw1 => cone_any 1 w1) ?_
  refine JL.callV rfl (.none rfl) rfl Tryd.call34 (fun w1 hw1 => cone_any 2 w1) ?_
  refine JL.callV rfl (.none rfl) rfl Tryd.call14 (fun w1 hw1 => cVerify_any (oneD 1) (oneD 2) 0 3 (by constructor <;> decide) (by constructor <;> decide) none 0 [] w1 cs_nil (hk.old hw1) (hf.old hw1)) ?_
  refine JL.val rfl rfl rfl (.none rfl) (Ev.move rfl) ?_
  refine JL.val rfl rfl rfl (.none rfl) (Ev.ex0 rfl) ?_
  refine JL.val rfl rfl rfl (.none rfl) (Ev.ex1 rfl) ?_
  refine JL.val rfl rfl rfl (.none rfl) (Ev.assign rfl) ?_
  refine JL.val rfl rfl rfl (.none rfl) (Ev.assign rfl) ?_
  refine JL.nil ?_
  refine JQ.thenN ?_
  refine JC.seq ?_
  -- region 12
  refine JC.region ?_
  refine JL.callV rfl (.none rfl) rfl Tryd.call34 (fun w1 hw1 => cone_any 1 w1) ?_
  refine JL.callN rfl (.none rfl) rfl Tryd.call24 (fun w1 hw1 => cAppend_any none 0 [] 1 (by constructor <;> decide) (oneD 1) w1 cs_nil (hk.old hw1) (hf.old hw1)) ?_
  rintro _ _ ⟨r6, rfl, rfl, hr6⟩
  refine JL.val rfl rfl rfl (.none rfl) (Ev.move rfl) ?_
  refine JL.val rfl rfl rfl (.none rfl) (Ev.ex0 rfl) ?_
  refine JL.val rfl rfl rfl (.none rfl) (Ev.ex1 rfl) ?_
  refine JL.val rfl rfl rfl (.none rfl) (Ev.assign rfl) ?_
  refine JL.val rfl rfl rfl (.none rfl) (Ev.assign rfl) ?_
  refine JL.nil ?_
  refine JQ.thenN ?_
  refine JC.seq ?_
  -- region 13
  refine JC.regionA (by kernel_rfl) ?_
  refine JA.branch [0] (by kernel_rfl) rfl ?_
  refine JAll.cons rfl ?_ JAll.nil
  refine JO.callN rfl (.none rfl) rfl Tryd.call33 (fun w1 hw1 => five_any w1) ?_
  rintro _ _ ⟨bf5, rfl, rfl⟩
  refine JA.takeR 1 (by kernel_rfl) rfl rfl rfl (by kernel_rfl) (by kernel_rfl) (by kernel_rfl) (fun _ _ _ h => h) (fun _ _ => rfl) (.none rfl) (fun _ => (Ev.cast (v' := .slice (some ⟨bf5, 0, none⟩) [oneD 1].length 5) (sub3_0) (Ev.sliceHi rfl rfl Tryd.underlying23 Tryd.sizeOf22 (h := 1) rfl (by omega)))) ?_
  refine JA.branch [2] (by kernel_rfl) rfl ?_
  refine JAll.cons rfl ?_ JAll.nil
  refine JO.callV rfl (.none rfl) rfl Tryd.call34 (fun w1 hw1 => cone_any 1 w1) ?_
  refine JA.branch [3] (by kernel_rfl) rfl ?_
  refine JAll.cons rfl ?_ JAll.nil
  refine JO.callN rfl (.none rfl) rfl Tryd.call24 (fun w1 hw1 => cAppend_any (some ⟨bf5, 0, none⟩) 5 [oneD 1] 1024 (by constructor <;> decide) (oneD 1) w1 (Dl.take (ds := [oneD 1, oneD 2, oneD 3, oneD 4, oneD 5]) (cs_block (xs := fl ([oneD 1, oneD 2, oneD 3, oneD 4, oneD 5])) hw1 (by repeat (first | exact List.Mem.head _ | refine List.Mem.tail _ ?_ | refine List.mem_append_right _ ?_)) (by decide)) (k := 1) (by decide)) (hk.old hw1) (hf.old hw1)) ?_
  rintro _ _ ⟨r7, rfl, rfl, hr7⟩
  refine JA.takeR 4 (by kernel_rfl) rfl rfl rfl (by kernel_rfl) (by kernel_rfl) (by kernel_rfl) (fun _ _ _ h => h) (fun _ _ => rfl) (.none rfl) (fun _ => (Ev.move rfl)) ?_
  refine JA.takeR 5 (by kernel_rfl) rfl rfl rfl (by kernel_rfl) (by kernel_rfl) (by kernel_rfl) (fun _ _ _ h => h) (fun _ _ => rfl) (.none rfl) (fun _ => (Ev.ex0 rfl)) ?_
  refine JA.takeR 6 (by kernel_rfl) rfl rfl rfl (by kernel_rfl) (by kernel_rfl) (by kernel_rfl) (fun _ _ _ h => h) (fun _ _ => rfl) (.none rfl) (fun _ => (Ev.ex1 rfl)) ?_
  refine JA.takeR 7 (by kernel_rfl) rfl rfl rfl (by kernel_rfl) (by kernel_rfl) (by kernel_rfl) (fun _ _ _ h => h) (fun _ _ => rfl) (.none rfl) (fun _ => (Ev.assign rfl)) ?_
  refine JA.takeR 8 (by kernel_rfl) rfl rfl rfl (by kernel_rfl) (by kernel_rfl) (by kernel_rfl) (fun _ _ _ h => h) (fun _ _ => rfl) (.none rfl) (fun _ => (Ev.assign rfl)) ?_
  refine JA.done (by kernel_rfl) ?_
  refine JQ.thenN ?_
  refine JC.seq ?_
  -- region 14
  refine JC.region ?_
  refine JL.callV rfl (.none rfl) rfl Tryd.call35 (fun w1 hw1 => Sum_any none 0 [] w1 bs_nil (Nat.zero_le _) (hk.old hw1) (hf.old hw1)) ?_
  refine JL.val rfl rfl rfl (.none rfl) (Ev.move rfl) ?_
  refine JL.val rfl rfl rfl (.none rfl) (Ev.ex0 rfl) ?_
  refine JL.val rfl rfl rfl (.none rfl) (Ev.ex1 rfl) ?_
  refine JL.new rfl rfl rfl (.none rfl) (En.allocZ (cs := arr8 (List.replicate 32 0)) Tryd.zeroValue22 rfl) (fun b29 hb29 => ?_)
  refine JL.sto rfl rfl (.none rfl) (Es.sA Tryd.sizeOf22) ?_
  refine JL.val rfl rfl rfl (.none rfl) (Ev.assign rfl) ?_
  refine JL.nil ?_
  refine JQ.thenN ?_
  refine JC.seq ?_
  obtain ⟨o1, c1, e1, _, hC1⟩ := Row.vw (e := 22) hr1
  refine JC.re (d := 1) rfl e1 ?_
  obtain ⟨o2, c2, e2, _, hC2⟩ := Row.vw (e := 22) hr2
  refine JC.re (d := 3) rfl e2 ?_
  refine JC.re (d := 2) (v' := .int .i64 0) rfl (congrArg (Value.int .i64) (by decide +kernel)) ?_
  refine JC.re (d := 4) (v' := .int .i64 0) rfl (congrArg (Value.int .i64) (by decide +kernel)) ?_
  refine JC.re (d := 5) (v' := .int .i64 1) rfl (congrArg (Value.int .i64) (by rw [cn1]; rfl)) ?_
  refine JC.re (d := 6) (v' := .int .i64 0) rfl (congrArg (Value.int .i64) (by decide +kernel)) ?_
  refine JC.re (d := 7) (v' := .int .i64 3) rfl (congrArg (Value.int .i64) (by rw [cn2]; rfl)) ?_
  refine JC.re (d := 8) (v' := .int .i64 0) rfl (congrArg (Value.int .i64) (by decide +kernel)) ?_
  refine JC.re (d := 10) (v' := .int .i64 2) rfl (congrArg (Value.int .i64) (by decide +kernel)) ?_
  refine JC.re (d := 12) (v' := .int .i64 2) rfl (congrArg (Value.int .i64) (by decide +kernel)) ?_
  refine JC.re (d := 14) (v' := .int .i64 4) rfl (congrArg (Value.int .i64) (prE_gr (by rw [bigY_len]; decide))) ?_
  -- region 15
  refine JC.region ?_
  refine JL.val rfl rfl rfl (.none rfl) (Ev.move rfl) ?_
  refine JL.val rfl rfl rfl (.none rfl) (Ev.bin rfl rfl eql_int) ?_
  refine JL.val rfl rfl rfl (.none rfl) (Ev.move rfl) ?_
  refine JL.know (d := 109) (b := true) rfl ?_ ?_
  · first | rfl | exact decide_eq_true rfl | exact decide_eq_true (pr31 _ _ _) | exact decide_eq_true (by rw [pr33]; rfl) | exact decide_eq_true (shaO_small (by decide)).symm | exact decide_eq_true (shaO_small (by decide))
  refine JL.val rfl rfl rfl (.yes rfl rfl rfl) (Ev.move rfl) ?_
  refine JL.val rfl rfl rfl (.yes rfl rfl rfl) (Ev.lenS rfl Tryd.underlying23) ?_
  refine JL.val rfl rfl rfl (.yes rfl rfl rfl) (Ev.bin rfl rfl eql_int) ?_
  refine JL.val rfl rfl rfl (.none rfl) (Ev.pickT rfl rfl) ?_
  refine JL.val rfl rfl rfl (.none rfl) (Ev.move rfl) ?_
  refine JL.know (d := 114) (b := true) rfl ?_ ?_
  · first | rfl | exact decide_eq_true rfl | exact decide_eq_true (pr31 _ _ _) | exact decide_eq_true (by rw [pr33]; rfl) | exact decide_eq_true (shaO_small (by decide)).symm | exact decide_eq_true (shaO_small (by decide))
  refine JL.val rfl rfl rfl (.yes rfl rfl rfl) (Ev.move rfl) ?_
  refine JL.val rfl rfl rfl (.yes rfl rfl rfl) (Ev.bin rfl rfl eql_int) ?_
  refine JL.val rfl rfl rfl (.none rfl) (Ev.pickT rfl rfl) ?_
  refine JL.val rfl rfl rfl (.none rfl) (Ev.move rfl) ?_
  refine JL.know (d := 118) (b := true) rfl ?_ ?_
  · first | rfl | exact decide_eq_true rfl | exact decide_eq_true (pr31 _ _ _) | exact decide_eq_true (by rw [pr33]; rfl) | exact decide_eq_true (shaO_small (by decide)).symm | exact decide_eq_true (shaO_small (by decide))
  refine JL.val rfl rfl rfl (.yes rfl rfl rfl) (Ev.move rfl) ?_
  refine JL.callV rfl (.yes rfl rfl rfl) rfl Tryd.call34 (fun w1 hw1 => cone_any 2 w1) ?_
  refine JL.callV rfl (.yes rfl rfl rfl) rfl Tryd.call34 (fun w1 hw1 => cone_any 3 w1) ?_
  refine JL.new rfl rfl rfl (.yes rfl rfl rfl) (En.bsD (e := 22) (ds := [oneD 2, oneD 3]) rfl rfl Tryd.underlying23 Tryd.sizeOf22 Tryd.zeroValue22 (by decide) (by decide)) (fun b122 hb122 => ?_)
  refine JL.callV rfl (.yes rfl rfl rfl) rfl Tryd.call21 (fun w1 hw1 => dSame_any o2 (some ⟨b122, 0, none⟩) c2 2 (prV [oneD 1, oneD 2, oneD 3] 1) [oneD 2, oneD 3] w1 (hC2 w1 hw1 (fun p hp => by simp [hp])) (cs_block (xs := fl ([oneD 2, oneD 3])) hw1 (by repeat (first | exact List.Mem.head _ | refine List.Mem.tail _ ?_ | refine List.mem_append_right _ ?_)) (by decide)) (Nat.le_trans (prV_le _ _) (by decide))) ?_
  refine JL.val rfl rfl rfl (.none rfl) (Ev.pickT rfl rfl) ?_
  refine JL.val rfl rfl rfl (.none rfl) (Ev.move rfl) ?_
  refine JL.know (d := 125) (b := true) rfl ?_ ?_
  · first | rfl | exact decide_eq_true rfl | exact decide_eq_true (pr31 _ _ _) | exact decide_eq_true (by rw [pr33]; rfl) | exact decide_eq_true (shaO_small (by decide)).symm | exact decide_eq_true (shaO_small (by decide))
  refine JL.val rfl rfl rfl (.yes rfl rfl rfl) (Ev.move rfl) ?_
  refine JL.val rfl rfl rfl (.yes rfl rfl rfl) (Ev.bin rfl rfl eql_int) ?_
  refine JL.val rfl rfl rfl (.none rfl) (Ev.pickT rfl rfl) ?_
  refine JL.val rfl rfl rfl (.none rfl) (Ev.move rfl) ?_
  refine JL.know (d := 129) (b := true) rfl ?_ ?_
  · first | rfl | exact decide_eq_true rfl | exact decide_eq_true (pr31 _ _ _) | exact decide_eq_true (by rw [pr33]; rfl) | exact decide_eq_true (shaO_small (by decide)).symm | exact decide_eq_true (shaO_small (by decide))
  refine JL.val rfl rfl rfl (.yes rfl rfl rfl) (Ev.move rfl) ?_
  refine JL.val rfl rfl rfl (.yes rfl rfl rfl) (Ev.bin rfl rfl eql_int) ?_
  refine JL.val rfl rfl rfl (.none rfl) (Ev.pickT rfl rfl) ?_
  refine JL.val rfl rfl rfl (.none rfl) (Ev.move rfl) ?_
  refine JL.know (d := 133) (b := true) rfl ?_ ?_
  · first | rfl | exact decide_eq_true rfl | exact decide_eq_true (pr31 _ _ _) | exact decide_eq_true (by rw [pr33]; rfl) | exact decide_eq_true (shaO_small (by decide)).symm | exact decide_eq_true (shaO_small (by decide))
  refine JL.val rfl rfl rfl (.yes rfl rfl rfl) (Ev.move rfl) ?_
  refine JL.val rfl rfl rfl (.yes rfl rfl rfl) (Ev.bin rfl rfl eql_int) ?_
  refine JL.val rfl rfl rfl (.none rfl) (Ev.pickT rfl rfl) ?_
  refine JL.val rfl rfl rfl (.none rfl) (Ev.move rfl) ?_
  refine JL.know (d := 137) (b := true) rfl ?_ ?_
  · first | rfl | exact decide_eq_true rfl | exact decide_eq_true (pr31 _ _ _) | exact decide_eq_true (by rw [pr33]; rfl) | exact decide_eq_true (shaO_small (by decide)).symm | exact decide_eq_true (shaO_small (by decide))
  refine JL.val rfl rfl rfl (.yes rfl rfl rfl) (Ev.move rfl) ?_
  refine JL.val rfl rfl rfl (.yes rfl rfl rfl) (Ev.bin rfl rfl eql_int) ?_
  refine JL.val rfl rfl rfl (.none rfl) (Ev.pickT rfl rfl) ?_
  refine JL.val rfl rfl rfl (.none rfl) (Ev.move rfl) ?_
  refine JL.know (d := 141) (b := true) rfl ?_ ?_
  · first | rfl | exact decide_eq_true rfl | exact decide_eq_true (pr31 _ _ _) | exact decide_eq_true (by rw [pr33]; rfl) | exact decide_eq_true (shaO_small (by decide)).symm | exact decide_eq_true (shaO_small (by decide))
  refine JL.val rfl rfl rfl (.yes rfl rfl rfl) (Ev.move rfl) ?_
  refine JL.val rfl rfl rfl (.yes rfl rfl rfl) (Ev.bin rfl rfl eql_int) ?_
  refine JL.val rfl rfl rfl (.none rfl) (Ev.pickT rfl rfl) ?_
  refine JL.val rfl rfl rfl (.none rfl) (Ev.move rfl) ?_
  refine JL.know (d := 145) (b := true) rfl ?_ ?_
  · first | rfl | exact decide_eq_true rfl | exact decide_eq_true (pr31 _ _ _) | exact decide_eq_true (by rw [pr33]; rfl) | exact decide_eq_true (shaO_small (by decide)).symm | exact decide_eq_true (shaO_small (by decide))
  refine JL.val rfl rfl rfl (.yes rfl rfl rfl) (Ev.move rfl) ?_
  refine JL.val rfl rfl rfl (.yes rfl rfl rfl) (Ev.bin rfl rfl eql_int) ?_
  refine JL.val rfl rfl rfl (.none rfl) (Ev.pickT rfl rfl) ?_
  refine JL.val rfl rfl rfl (.none rfl) (Ev.move rfl) ?_
  refine JL.know (d := 149) (b := true) rfl ?_ ?_
  · first | rfl | exact decide_eq_true rfl | exact decide_eq_true (pr31 _ _ _) | exact decide_eq_true (by rw [pr33]; rfl) | exact decide_eq_true (shaO_small (by decide)).symm | exact decide_eq_true (shaO_small (by decide))
  refine JL.val rfl rfl rfl (.yes rfl rfl rfl) (Ev.move rfl) ?_
  refine JL.val rfl rfl rfl (.yes rfl rfl rfl) (Ev.bin rfl rfl eql_int) ?_
  refine JL.val rfl rfl rfl (.none rfl) (Ev.pickT rfl rfl) ?_
  refine JL.val rfl rfl rfl (.none rfl) (Ev.assign rfl) ?_
  refine JL.nil ?_
  refine JQ.thenN ?_
  refine JC.seq ?_
  refine JC.re (d := 17) (v' := .int .i64 290) rfl (congrArg (Value.int .i64) (fcE_ne (i := 2) (n := 3) (by decide) (by rw [cn3]; decide))) ?_
  refine JC.re (d := 20) (v' := .int .i64 2) rfl (congrArg (Value.int .i64) (fcE_bad (by decide))) ?_
  refine JC.re (d := 22) (v' := .int .i64 0) rfl (congrArg (Value.int .i64) (vcE_ok (by rw [cn4]; decide))) ?_
  refine JC.re (d := 21) (v' := .bool false) rfl (congrArg Value.bool (vcV_e (by rw [cn4]; decide) (by rw [cn4]; decide))) ?_
  refine JC.re (d := 24) (v' := .int .i64 2) rfl (congrArg (Value.int .i64) (vcE_bad (fcE_bad (by decide)))) ?_
  refine JC.re (d := 26) (v' := .int .i64 2) rfl (congrArg (Value.int .i64) (apE_bad cn5)) ?_
  refine JC.re (d := 28) (v' := .int .i64 2) rfl (congrArg (Value.int .i64) (apE_bad cn6)) ?_
  refine JC.re (d := 30) (v' := .int .i64 0) rfl (congrArg (Value.int .i64) (by decide +kernel)) ?_
  -- region 16
  refine JC.regionA (by kernel_rfl) ?_
  refine JA.takeR 0 (by kernel_rfl) rfl rfl rfl (by kernel_rfl) (by kernel_rfl) (by kernel_rfl) (fun _ _ _ h => h) (fun _ _ => rfl) (.none rfl) (fun _ => (Ev.move rfl)) ?_
  refine JA.branch [1] (by kernel_rfl) rfl ?_
  refine JAll.cons rfl ?_ JAll.nil
  refine JO.callV rfl (.yes rfl rfl rfl) rfl Tryd.call28 (fun w1 hw1 => calive_any w1 (hk.old hw1) (hf.old hw1)) ?_
  refine JA.takeR 2 (by kernel_rfl) rfl rfl rfl (by kernel_rfl) (by kernel_rfl) (by kernel_rfl) (fun _ _ _ h => h) (fun _ _ => rfl) (.none rfl) (fun _ => (Ev.pickT rfl rfl)) ?_
  refine JA.takeR 3 (by kernel_rfl) rfl rfl rfl (by kernel_rfl) (by kernel_rfl) (by kernel_rfl) (fun _ _ _ h => h) (fun _ _ => rfl) (.none rfl) (fun _ => (Ev.move rfl)) ?_
  refine JA.know (d := 156) (b := true) rfl ?_ ?_
  · first | rfl | exact decide_eq_true rfl | exact decide_eq_true (pr31 _ _ _) | exact decide_eq_true (by rw [pr33]; rfl) | exact decide_eq_true (shaO_small (by decide)).symm | exact decide_eq_true (shaO_small (by decide))
  refine JA.takeR 4 (by kernel_rfl) rfl rfl rfl (by kernel_rfl) (by kernel_rfl) (by kernel_rfl) (fun _ _ _ h => h) (fun _ _ => rfl) (.yes rfl rfl rfl) (fun _ => (Ev.move rfl)) ?_
  refine JA.takeR 5 (by kernel_rfl) rfl rfl rfl (by kernel_rfl) (by kernel_rfl) (by kernel_rfl) (fun _ _ _ h => h) (fun _ _ => rfl) (.none rfl) (fun _ => (Ev.pickT rfl rfl)) ?_
  refine JA.takeR 6 (by kernel_rfl) rfl rfl rfl (by kernel_rfl) (by kernel_rfl) (by kernel_rfl) (fun _ _ _ h => h) (fun _ _ => rfl) (.none rfl) (fun _ => (Ev.move rfl)) ?_
  refine JA.know (d := 159) (b := true) rfl ?_ ?_
  · first | rfl | exact decide_eq_true rfl | exact decide_eq_true (pr31 _ _ _) | exact decide_eq_true (by rw [pr33]; rfl) | exact decide_eq_true (shaO_small (by decide)).symm | exact decide_eq_true (shaO_small (by decide))
  refine JA.takeR 7 (by kernel_rfl) rfl rfl rfl (by kernel_rfl) (by kernel_rfl) (by kernel_rfl) (fun _ _ _ h => h) (fun _ _ => rfl) (.yes rfl rfl rfl) (fun _ => (Ev.move rfl)) ?_
  refine JA.takeR 8 (by kernel_rfl) rfl rfl rfl (by kernel_rfl) (by kernel_rfl) (by kernel_rfl) (fun _ _ _ h => h) (fun _ _ => rfl) (.yes rfl rfl rfl) (fun _ => (Ev.bin rfl rfl eql_int)) ?_
  refine JA.takeR 9 (by kernel_rfl) rfl rfl rfl (by kernel_rfl) (by kernel_rfl) (by kernel_rfl) (fun _ _ _ h => h) (fun _ _ => rfl) (.none rfl) (fun _ => (Ev.pickT rfl rfl)) ?_
  refine JA.takeR 10 (by kernel_rfl) rfl rfl rfl (by kernel_rfl) (by kernel_rfl) (by kernel_rfl) (fun _ _ _ h => h) (fun _ _ => rfl) (.none rfl) (fun _ => (Ev.move rfl)) ?_
  refine JA.know (d := 163) (b := true) rfl ?_ ?_
  · first | rfl | exact decide_eq_true rfl | exact decide_eq_true (pr31 _ _ _) | exact decide_eq_true (by rw [pr33]; rfl) | exact decide_eq_true (shaO_small (by decide)).symm | exact decide_eq_true (shaO_small (by decide))
  refine JA.takeR 11 (by kernel_rfl) rfl rfl rfl (by kernel_rfl) (by kernel_rfl) (by kernel_rfl) (fun _ _ _ h => h) (fun _ _ => rfl) (.yes rfl rfl rfl) (fun _ => (Ev.move rfl)) ?_
  refine JA.takeR 12 (by kernel_rfl) rfl rfl rfl (by kernel_rfl) (by kernel_rfl) (by kernel_rfl) (fun _ _ _ h => h) (fun _ _ => rfl) (.yes rfl rfl rfl) (fun _ => (Ev.bin rfl rfl eql_int)) ?_
  refine JA.takeR 13 (by kernel_rfl) rfl rfl rfl (by kernel_rfl) (by kernel_rfl) (by kernel_rfl) (fun _ _ _ h => h) (fun _ _ => rfl) (.none rfl) (fun _ => (Ev.pickT rfl rfl)) ?_
  refine JA.takeR 14 (by kernel_rfl) rfl rfl rfl (by kernel_rfl) (by kernel_rfl) (by kernel_rfl) (fun _ _ _ h => h) (fun _ _ => rfl) (.none rfl) (fun _ => (Ev.move rfl)) ?_
  refine JA.know (d := 167) (b := true) rfl ?_ ?_
  · first | rfl | exact decide_eq_true rfl | exact decide_eq_true (pr31 _ _ _) | exact decide_eq_true (by rw [pr33]; rfl) | exact decide_eq_true (shaO_small (by decide)).symm | exact decide_eq_true (shaO_small (by decide))
  refine JA.takeR 15 (by kernel_rfl) rfl rfl rfl (by kernel_rfl) (by kernel_rfl) (by kernel_rfl) (fun _ _ _ h => h) (fun _ _ => rfl) (.yes rfl rfl rfl) (fun _ => (Ev.move rfl)) ?_
  refine JA.takeR 16 (by kernel_rfl) rfl rfl rfl (by kernel_rfl) (by kernel_rfl) (by kernel_rfl) (fun _ _ _ h => h) (fun _ _ => rfl) (.yes rfl rfl rfl) (fun _ => (Ev.bin rfl rfl eql_int)) ?_
  refine JA.takeR 17 (by kernel_rfl) rfl rfl rfl (by kernel_rfl) (by kernel_rfl) (by kernel_rfl) (fun _ _ _ h => h) (fun _ _ => rfl) (.none rfl) (fun _ => (Ev.pickT rfl rfl)) ?_
  refine JA.takeR 18 (by kernel_rfl) rfl rfl rfl (by kernel_rfl) (by kernel_rfl) (by kernel_rfl) (fun _ _ _ h => h) (fun _ _ => rfl) (.none rfl) (fun _ => (Ev.move rfl)) ?_
  refine JA.know (d := 171) (b := true) rfl ?_ ?_
  · first | rfl | exact decide_eq_true rfl | exact decide_eq_true (pr31 _ _ _) | exact decide_eq_true (by rw [pr33]; rfl) | exact decide_eq_true (shaO_small (by decide)).symm | exact decide_eq_true (shaO_small (by decide))
  refine JA.takeR 19 (by kernel_rfl) rfl rfl rfl (by kernel_rfl) (by kernel_rfl) (by kernel_rfl) (fun _ _ _ h => h) (fun _ _ => rfl) (.yes rfl rfl rfl) (fun _ => (Ev.move rfl)) ?_
  refine JA.takeR 20 (by kernel_rfl) rfl rfl rfl (by kernel_rfl) (by kernel_rfl) (by kernel_rfl) (fun _ _ _ h => h) (fun _ _ => rfl) (.yes rfl rfl rfl) (fun _ => (Ev.not rfl)) ?_
  refine JA.takeR 21 (by kernel_rfl) rfl rfl rfl (by kernel_rfl) (by kernel_rfl) (by kernel_rfl) (fun _ _ _ h => h) (fun _ _ => rfl) (.none rfl) (fun _ => (Ev.pickT rfl rfl)) ?_
  refine JA.takeR 22 (by kernel_rfl) rfl rfl rfl (by kernel_rfl) (by kernel_rfl) (by kernel_rfl) (fun _ _ _ h => h) (fun _ _ => rfl) (.none rfl) (fun _ => (Ev.move rfl)) ?_
  refine JA.know (d := 175) (b := true) rfl ?_ ?_
  · first | rfl | exact decide_eq_true rfl | exact decide_eq_true (pr31 _ _ _) | exact decide_eq_true (by rw [pr33]; rfl) | exact decide_eq_true (shaO_small (by decide)).symm | exact decide_eq_true (shaO_small (by decide))
  refine JA.takeR 23 (by kernel_rfl) rfl rfl rfl (by kernel_rfl) (by kernel_rfl) (by kernel_rfl) (fun _ _ _ h => h) (fun _ _ => rfl) (.yes rfl rfl rfl) (fun _ => (Ev.move rfl)) ?_
  refine JA.takeR 24 (by kernel_rfl) rfl rfl rfl (by kernel_rfl) (by kernel_rfl) (by kernel_rfl) (fun _ _ _ h => h) (fun _ _ => rfl) (.yes rfl rfl rfl) (fun _ => (Ev.bin rfl rfl eql_int)) ?_
  refine JA.takeR 25 (by kernel_rfl) rfl rfl rfl (by kernel_rfl) (by kernel_rfl) (by kernel_rfl) (fun _ _ _ h => h) (fun _ _ => rfl) (.none rfl) (fun _ => (Ev.pickT rfl rfl)) ?_
  refine JA.takeR 26 (by kernel_rfl) rfl rfl rfl (by kernel_rfl) (by kernel_rfl) (by kernel_rfl) (fun _ _ _ h => h) (fun _ _ => rfl) (.none rfl) (fun _ => (Ev.move rfl)) ?_
  refine JA.know (d := 179) (b := true) rfl ?_ ?_
  · first | rfl | exact decide_eq_true rfl | exact decide_eq_true (pr31 _ _ _) | exact decide_eq_true (by rw [pr33]; rfl) | exact decide_eq_true (shaO_small (by decide)).symm | exact decide_eq_true (shaO_small (by decide))
  refine JA.takeR 27 (by kernel_rfl) rfl rfl rfl (by kernel_rfl) (by kernel_rfl) (by kernel_rfl) (fun _ _ _ h => h) (fun _ _ => rfl) (.yes rfl rfl rfl) (fun _ => (Ev.move rfl)) ?_
  refine JA.takeR 28 (by kernel_rfl) rfl rfl rfl (by kernel_rfl) (by kernel_rfl) (by kernel_rfl) (fun _ _ _ h => h) (fun _ _ => rfl) (.yes rfl rfl rfl) (fun _ => (Ev.bin rfl rfl eql_int)) ?_
  refine JA.takeR 29 (by kernel_rfl) rfl rfl rfl (by kernel_rfl) (by kernel_rfl) (by kernel_rfl) (fun _ _ _ h => h) (fun _ _ => rfl) (.none rfl) (fun _ => (Ev.pickT rfl rfl)) ?_
  refine JA.takeR 30 (by kernel_rfl) rfl rfl rfl (by kernel_rfl) (by kernel_rfl) (by kernel_rfl) (fun _ _ _ h => h) (fun _ _ => rfl) (.none rfl) (fun _ => (Ev.move rfl)) ?_
  refine JA.know (d := 183) (b := true) rfl ?_ ?_
  · first | rfl | exact decide_eq_true rfl | exact decide_eq_true (pr31 _ _ _) | exact decide_eq_true (by rw [pr33]; rfl) | exact decide_eq_true (shaO_small (by decide)).symm | exact decide_eq_true (shaO_small (by decide))
  refine JA.takeR 31 (by kernel_rfl) rfl rfl rfl (by kernel_rfl) (by kernel_rfl) (by kernel_rfl) (fun _ _ _ h => h) (fun _ _ => rfl) (.yes rfl rfl rfl) (fun _ => (Ev.move rfl)) ?_
  refine JA.takeR 32 (by kernel_rfl) rfl rfl rfl (by kernel_rfl) (by kernel_rfl) (by kernel_rfl) (fun _ _ _ h => h) (fun _ _ => rfl) (.yes rfl rfl rfl) (fun _ => (Ev.bin rfl rfl eql_int)) ?_
  refine JA.takeR 33 (by kernel_rfl) rfl rfl rfl (by kernel_rfl) (by kernel_rfl) (by kernel_rfl) (fun _ _ _ h => h) (fun _ _ => rfl) (.none rfl) (fun _ => (Ev.pickT rfl rfl)) ?_
  refine JA.takeR 34 (by kernel_rfl) rfl rfl rfl (by kernel_rfl) (by kernel_rfl) (by kernel_rfl) (fun _ _ _ h => h) (fun _ _ => rfl) (.none rfl) (fun _ => (Ev.move rfl)) ?_
  refine JA.know (d := 187) (b := true) rfl ?_ ?_
  · first | rfl | exact decide_eq_true rfl | exact decide_eq_true (pr31 _ _ _) | exact decide_eq_true (by rw [pr33]; rfl) | exact decide_eq_true (shaO_small (by decide)).symm | exact decide_eq_true (shaO_small (by decide))
  refine JA.takeR 35 (by kernel_rfl) rfl rfl rfl (by kernel_rfl) (by kernel_rfl) (by kernel_rfl) (fun _ _ _ h => h) (fun _ _ => rfl) (.yes rfl rfl rfl) (fun _ => (Ev.move rfl)) ?_
  refine JA.takeR 36 (by kernel_rfl) rfl rfl rfl (by kernel_rfl) (by kernel_rfl) (by kernel_rfl) (fun _ _ _ h => h) (fun _ _ => rfl) (.yes rfl rfl rfl) (fun _ => (Ev.bin rfl rfl eql_int)) ?_
  refine JA.takeR 37 (by kernel_rfl) rfl rfl rfl (by kernel_rfl) (by kernel_rfl) (by kernel_rfl) (fun _ _ _ h => h) (fun _ _ => rfl) (.none rfl) (fun _ => (Ev.pickT rfl rfl)) ?_
  refine JA.takeR 38 (by kernel_rfl) rfl rfl rfl (by kernel_rfl) (by kernel_rfl) (by kernel_rfl) (fun _ _ _ h => h) (fun _ _ => rfl) (.none rfl) (fun _ => (Ev.move rfl)) ?_
  refine JA.know (d := 191) (b := true) rfl ?_ ?_
  · first | rfl | exact decide_eq_true rfl | exact decide_eq_true (pr31 _ _ _) | exact decide_eq_true (by rw [pr33]; rfl) | exact decide_eq_true (shaO_small (by decide)).symm | exact decide_eq_true (shaO_small (by decide))
  refine JA.branch [39, 40] (by kernel_rfl) rfl ?_
  refine JAll.cons rfl ?_ ?_
  · -- 39
    refine JO.callV rfl (.yes rfl rfl rfl) rfl Tryd.call26 (fun w1 hw1 => cPeaksRoot_any none 0 [] w1 cs_nil (Nat.zero_le _) (hk.old hw1) (hf.old hw1)) ?_
    refine JA.branch [40] (by kernel_rfl) rfl ?_
    refine JAll.cons rfl ?_ JAll.nil
    refine JO.val rfl rfl rfl (.yes rfl rfl rfl) (Ev.lB Tryd.underlying22 Tryd.sizeOf22) ?_
    refine JA.takeR 41 (by kernel_rfl) rfl rfl rfl (by kernel_rfl) (by kernel_rfl) (by kernel_rfl) (fun _ _ _ h => h) (fun _ _ => rfl) (.yes rfl rfl rfl) (fun _ => (Ev.bin rfl rfl (eql_arr8 (n := 32) Tryd.underlying22 Tryd.underlying5 (by kernel_rfl) (by kernel_rfl) (by first | rfl | exact dig_len _ | assumption | exact sha_length _ | exact shaO_length _) (by first | rfl | exact dig_len _ | assumption | exact sha_length _ | exact shaO_length _)))) ?_
    refine JA.takeR 42 (by kernel_rfl) rfl rfl rfl (by kernel_rfl) (by kernel_rfl) (by kernel_rfl) (fun _ _ _ h => h) (fun _ _ => rfl) (.none rfl) (fun _ => (Ev.pickT rfl rfl)) ?_
    refine JA.takeR 43 (by kernel_rfl) rfl rfl rfl (by kernel_rfl) (by kernel_rfl) (by kernel_rfl) (fun _ _ _ h => h) (fun _ _ => rfl) (.none rfl) (fun _ => (Ev.move rfl)) ?_
    refine JA.know (d := 196) (b := true) rfl ?_ ?_
    · first | rfl | exact decide_eq_true rfl | exact decide_eq_true (pr31 _ _ _) | exact decide_eq_true (by rw [pr33]; rfl) | exact decide_eq_true (shaO_small (by decide)).symm | exact decide_eq_true (shaO_small (by decide))
    refine JA.branch [44] (by kernel_rfl) rfl ?_
    refine JAll.cons rfl ?_ JAll.nil
    refine JO.callN rfl (.yes rfl rfl rfl) rfl Tryd.call33 (fun w1 hw1 => five_any w1) ?_
    rintro _ _ ⟨bf6, rfl, rfl⟩
    refine JA.takeR 45 (by kernel_rfl) rfl rfl rfl (by kernel_rfl) (by kernel_rfl) (by kernel_rfl) (fun _ _ _ h => h) (fun _ _ => rfl) (.yes rfl rfl rfl) (fun _ => (Ev.cast (v' := .slice (some ⟨bf6, 0, none⟩) [oneD 1].length 5) (sub3_0) (Ev.sliceHi rfl rfl Tryd.underlying23 Tryd.sizeOf22 (h := 1) rfl (by omega)))) ?_
    refine JA.branch [46] (by kernel_rfl) rfl ?_
    refine JAll.cons rfl ?_ JAll.nil
    refine JO.callV rfl (.yes rfl rfl rfl) rfl Tryd.call26 (fun w1 hw1 => cPeaksRoot_any (some ⟨bf6, 0, none⟩) 5 [oneD 1] w1 (Dl.take (ds := [oneD 1, oneD 2, oneD 3, oneD 4, oneD 5]) (cs_block (xs := fl ([oneD 1, oneD 2, oneD 3, oneD 4, oneD 5])) hw1 (by repeat (first | exact List.Mem.head _ | refine List.Mem.tail _ ?_ | refine List.mem_append_right _ ?_)) (by decide)) (k := 1) (by decide)) (by decide) (hk.old hw1) (hf.old hw1)) ?_
    refine JA.branch [47] (by kernel_rfl) rfl ?_
    refine JAll.cons rfl ?_ JAll.nil
    refine JO.callV rfl (.yes rfl rfl rfl) rfl Tryd.call34 (fun w1 hw1 => cone_any 1 w1) ?_
    refine JA.takeR 48 (by kernel_rfl) rfl rfl rfl (by kernel_rfl) (by kernel_rfl) (by kernel_rfl) (fun _ _ _ h => h) (fun _ _ => rfl) (.yes rfl rfl rfl) (fun _ => (Ev.bin rfl rfl (eql_arr8 (n := 32) Tryd.underlying22 Tryd.underlying5 (by kernel_rfl) (by kernel_rfl) (by first | rfl | exact dig_len _ | assumption | exact sha_length _ | exact shaO_length _) (by first | rfl | exact dig_len _ | assumption | exact sha_length _ | exact shaO_length _)))) ?_
    refine JA.takeR 49 (by kernel_rfl) rfl rfl rfl (by kernel_rfl) (by kernel_rfl) (by kernel_rfl) (fun _ _ _ h => h) (fun _ _ => rfl) (.none rfl) (fun _ => (Ev.pickT rfl rfl)) ?_
    refine JA.takeR 50 (by kernel_rfl) rfl rfl rfl (by kernel_rfl) (by kernel_rfl) (by kernel_rfl) (fun _ _ _ h => h) (fun _ _ => rfl) (.none rfl) (fun _ => (Ev.assign rfl)) ?_
    refine JA.done (by kernel_rfl) ?_
    refine JQ.thenN ?_
    refine JC.ret ?_
    refine JQ.end1 (H' := []) (.inl rfl) rfl (.tmp rfl) ?_ ?_
    · exact Sub.k
    · first | rfl | exact congrArg Value.bool (decide_eq_true rfl)
  refine JAll.cons rfl ?_ JAll.nil
  refine JO.val rfl rfl rfl (.yes rfl rfl rfl) (Ev.lB Tryd.underlying22 Tryd.sizeOf22) ?_
  refine JA.branch [39] (by kernel_rfl) rfl ?_
  refine JAll.cons rfl ?_ JAll.nil
  refine JO.callV rfl (.yes rfl rfl rfl) rfl Tryd.call26 (fun w1 hw1 => cPeaksRoot_any none 0 [] w1 cs_nil (Nat.zero_le _) (hk.old hw1) (hf.old hw1)) ?_
  refine JA.takeR 41 (by kernel_rfl) rfl rfl rfl (by kernel_rfl) (by kernel_rfl) (by kernel_rfl) (fun _ _ _ h => h) (fun _ _ => rfl) (.yes rfl rfl rfl) (fun _ => (Ev.bin rfl rfl (eql_arr8 (n := 32) Tryd.underlying22 Tryd.underlying5 (by kernel_rfl) (by kernel_rfl) (by first | rfl | exact dig_len _ | assumption | exact sha_length _ | exact shaO_length _) (by first | rfl | exact dig_len _ | assumption | exact sha_length _ | exact shaO_length _)))) ?_
  refine JA.takeR 42 (by kernel_rfl) rfl rfl rfl (by kernel_rfl) (by kernel_rfl) (by kernel_rfl) (fun _ _ _ h => h) (fun _ _ => rfl) (.none rfl) (fun _ => (Ev.pickT rfl rfl)) ?_
  refine JA.takeR 43 (by kernel_rfl) rfl rfl rfl (by kernel_rfl) (by kernel_rfl) (by kernel_rfl) (fun _ _ _ h => h) (fun _ _ => rfl) (.none rfl) (fun _ => (Ev.move rfl)) ?_
  refine JA.know (d := 196) (b := true) rfl ?_ ?_
  · first | rfl | exact decide_eq_true rfl | exact decide_eq_true (pr31 _ _ _) | exact decide_eq_true (by rw [pr33]; rfl) | exact decide_eq_true (shaO_small (by decide)).symm | exact decide_eq_true (shaO_small (by decide))
  refine JA.branch [44] (by kernel_rfl) rfl ?_
  refine JAll.cons rfl ?_ JAll.nil
  refine JO.callN rfl (.yes rfl rfl rfl) rfl Tryd.call33 (fun w1 hw1 => five_any w1) ?_
  rintro _ _ ⟨bf6, rfl, rfl⟩
  refine JA.takeR 45 (by kernel_rfl) rfl rfl rfl (by kernel_rfl) (by kernel_rfl) (by kernel_rfl) (fun _ _ _ h => h) (fun _ _ => rfl) (.yes rfl rfl rfl) (fun _ => (Ev.cast (v' := .slice (some ⟨bf6, 0, none⟩) [oneD 1].length 5) (sub3_0) (Ev.sliceHi rfl rfl Tryd.underlying23 Tryd.sizeOf22 (h := 1) rfl (by omega)))) ?_
  refine JA.branch [46] (by kernel_rfl) rfl ?_
  refine JAll.cons rfl ?_ JAll.nil
  refine JO.callV rfl (.yes rfl rfl rfl) rfl Tryd.call26 (fun w1 hw1 => cPeaksRoot_any (some ⟨bf6, 0, none⟩) 5 [oneD 1] w1 (Dl.take (ds := [oneD 1, oneD 2, oneD 3, oneD 4, oneD 5]) (cs_block (xs := fl ([oneD 1, oneD 2, oneD 3, oneD 4, oneD 5])) hw1 (by repeat (first | exact List.Mem.head _ | refine List.Mem.tail _ ?_ | refine List.mem_append_right _ ?_)) (by decide)) (k := 1) (by decide)) (by decide) (hk.old hw1) (hf.old hw1)) ?_
  refine JA.branch [47] (by kernel_rfl) rfl ?_
  refine JAll.cons rfl ?_ JAll.nil
  refine JO.callV rfl (.yes rfl rfl rfl) rfl Tryd.call34 (fun w1 hw1 => cone_any 1 w1) ?_
  refine JA.takeR 48 (by kernel_rfl) rfl rfl rfl (by kernel_rfl) (by kernel_rfl) (by kernel_rfl) (fun _ _ _ h => h) (fun _ _ => rfl) (.yes rfl rfl rfl) (fun _ => (Ev.bin rfl rfl (eql_arr8 (n := 32) Tryd.underlying22 Tryd.underlying5 (by kernel_rfl) (by kernel_rfl) (by first | rfl | exact dig_len _ | assumption | exact sha_length _ | exact shaO_length _) (by first | rfl | exact dig_len _ | assumption | exact sha_length _ | exact shaO_length _)))) ?_
  refine JA.takeR 49 (by kernel_rfl) rfl rfl rfl (by kernel_rfl) (by kernel_rfl) (by kernel_rfl) (fun _ _ _ h => h) (fun _ _ => rfl) (.none rfl) (fun _ => (Ev.pickT rfl rfl)) ?_
  refine JA.takeR 50 (by kernel_rfl) rfl rfl rfl (by kernel_rfl) (by kernel_rfl) (by kernel_rfl) (fun _ _ _ h => h) (fun _ _ => rfl) (.none rfl) (fun _ => (Ev.assign rfl)) ?_
  refine JA.done (by kernel_rfl) ?_
  refine JQ.thenN ?_
  refine JC.ret ?_
  refine JQ.end1 (H' := []) (.inl rfl) rfl (.tmp rfl) ?_ ?_
  · exact Sub.k
  · first | rfl | exact congrArg Value.bool (decide_eq_true rfl)

end Go.Proofs.YtimegpilihfghaaDoor
