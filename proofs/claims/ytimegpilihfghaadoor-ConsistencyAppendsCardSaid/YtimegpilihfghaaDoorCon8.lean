/-
  Consistency: the laws on chains and on appending leaf by leaf.
-/
import Derived.Test.YtimegpilihfghaaDoorCon7
namespace Go.Proofs.YtimegpilihfghaaDoor
open Go Go.RowKit
set_option maxRecDepth 100000

theorem lawChains_any (oa : Option Addr) (cap : Nat) (ds : List Dig) (i j : Int) (hib : -9223372036854775808 ≤ i ∧ i ≤ 9223372036854775807) (hjb : -9223372036854775808 ≤ j ∧ j ≤ 9223372036854775807) (w : World) (hd : Dl w oa cap ds) (hk : KMem 1 w) (hf : FMem 0 w) :
    Calls Tryd.prog 7 #[.slice oa ds.length cap, .int .i64 i, .int .i64 j] w (Ret w (fun v _ => v = .bool true)) := by
  refine enter (vs := [.slice oa ds.length cap, .int .i64 i, .int .i64 j]) Tryd.func7 rfl Tryd.ntmps7 rfl ?_
  refine JC.seq ?_
  -- region 0
  refine JC.region ?_
  refine JL.val rfl rfl rfl (.none rfl) (Ev.assign rfl) ?_
  refine JL.nil ?_
  refine JQ.thenN ?_
  refine JC.seq ?_
  -- region 1
  refine JC.region ?_
  refine JL.callV rfl (.none rfl) rfl Tryd.call28 (fun w1 hw1 => calive_any w1 (hk.old hw1) (hf.old hw1)) ?_
  refine JL.val rfl rfl rfl (.none rfl) (Ev.assign rfl) ?_
  refine JL.nil ?_
  refine JQ.thenN ?_
  refine JC.seq ?_
  refine JC.seq ?_
  -- region 2
  refine JC.region ?_
  refine JL.val rfl rfl rfl (.none rfl) (Ev.move rfl) ?_
  refine JL.callV rfl (.none rfl) rfl Tryd.call11 (fun w1 hw1 => great_any oa ds.length cap w1) ?_
  refine JL.val rfl rfl rfl (.none rfl) (Ev.move rfl) ?_
  refine JL.split (d := 30) rfl (fun hgA => ?_) (fun hgA => ?_)
  · -- guard 30 true
    refine JL.skip rfl rfl (.noF rfl rfl rfl) ?_
    refine JL.skip rfl rfl (.noF rfl rfl rfl) ?_
    refine JL.val rfl rfl rfl (.none rfl) (Ev.pickT rfl rfl) ?_
    refine JL.val rfl rfl rfl (.none rfl) (Ev.move rfl) ?_
    refine JL.skip rfl rfl (.noF rfl rfl rfl) ?_
    refine JL.skip rfl rfl (.noF rfl rfl rfl) ?_
    refine JL.skip rfl rfl (.noF rfl rfl rfl) ?_
    refine JL.val rfl rfl rfl (.none rfl) (Ev.pickT rfl rfl) ?_
    refine JL.val rfl rfl rfl (.none rfl) (Ev.move rfl) ?_
    refine JL.skip rfl rfl (.noF rfl rfl rfl) ?_
    refine JL.skip rfl rfl (.noF rfl rfl rfl) ?_
    refine JL.skip rfl rfl (.noF rfl rfl rfl) ?_
    refine JL.skip rfl rfl (.noF rfl rfl rfl) ?_
    refine JL.val rfl rfl rfl (.none rfl) (Ev.pickT rfl rfl) ?_
    refine JL.val rfl rfl rfl (.none rfl) (Ev.move rfl) ?_
    refine JL.skip rfl rfl (.noF rfl rfl rfl) ?_
    refine JL.skip rfl rfl (.noF rfl rfl rfl) ?_
    refine JL.val rfl rfl rfl (.none rfl) (Ev.pickT rfl rfl) ?_
    refine JL.nil ?_
    refine JQ.thenN ?_
    refine JC.condT rfl ?_
    refine JC.seq ?_
    -- region 3
    refine JC.region ?_
    refine JL.val rfl rfl rfl (.none rfl) (Ev.move rfl) ?_
    refine JL.val rfl rfl rfl (.none rfl) (Ev.assign rfl) ?_
    refine JL.nil ?_
    refine JQ.thenN ?_
    refine JC.ret ?_
    refine JQ.thenR ?_
    refine JQ.end1 (H' := []) (.inl rfl) rfl (.tmp rfl) ?_ ?_
    · exact Sub.k
    · first | rfl | exact congrArg Value.bool pcve
  · -- guard 30 false
    have hg130 : ¬ 130 < (ds.length : Int) := of_decide_eq_false hgA
    refine JL.val rfl rfl rfl (.yes rfl rfl rfl) (Ev.move rfl) ?_
    refine JL.val rfl rfl rfl (.yes rfl rfl rfl) (Ev.bin rfl rfl lss_int) ?_
    refine JL.val rfl rfl rfl (.none rfl) (Ev.pickF rfl rfl) ?_
    refine JL.val rfl rfl rfl (.none rfl) (Ev.move rfl) ?_
    refine JL.split (d := 34) rfl (fun hgB => ?_) (fun hgB => ?_)
    · -- guard 34 true
      refine JL.skip rfl rfl (.noF rfl rfl rfl) ?_
      refine JL.skip rfl rfl (.noF rfl rfl rfl) ?_
      refine JL.skip rfl rfl (.noF rfl rfl rfl) ?_
      refine JL.val rfl rfl rfl (.none rfl) (Ev.pickT rfl rfl) ?_
      refine JL.val rfl rfl rfl (.none rfl) (Ev.move rfl) ?_
      refine JL.skip rfl rfl (.noF rfl rfl rfl) ?_
      refine JL.skip rfl rfl (.noF rfl rfl rfl) ?_
      refine JL.skip rfl rfl (.noF rfl rfl rfl) ?_
      refine JL.skip rfl rfl (.noF rfl rfl rfl) ?_
      refine JL.val rfl rfl rfl (.none rfl) (Ev.pickT rfl rfl) ?_
      refine JL.val rfl rfl rfl (.none rfl) (Ev.move rfl) ?_
      refine JL.skip rfl rfl (.noF rfl rfl rfl) ?_
      refine JL.skip rfl rfl (.noF rfl rfl rfl) ?_
      refine JL.val rfl rfl rfl (.none rfl) (Ev.pickT rfl rfl) ?_
      refine JL.nil ?_
      refine JQ.thenN ?_
      refine JC.condT rfl ?_
      refine JC.seq ?_
      -- region 3
      refine JC.region ?_
      refine JL.val rfl rfl rfl (.none rfl) (Ev.move rfl) ?_
      refine JL.val rfl rfl rfl (.none rfl) (Ev.assign rfl) ?_
      refine JL.nil ?_
      refine JQ.thenN ?_
      refine JC.ret ?_
      refine JQ.thenR ?_
      refine JQ.end1 (H' := []) (.inl rfl) rfl (.tmp rfl) ?_ ?_
      · exact Sub.k
      · first | rfl | exact congrArg Value.bool pcve
    · -- guard 34 false
      have hi0 := of_decide_eq_false hgB
      refine JL.val rfl rfl rfl (.yes rfl rfl rfl) (Ev.move rfl) ?_
      refine JL.val rfl rfl rfl (.yes rfl rfl rfl) (Ev.move rfl) ?_
      refine JL.val rfl rfl rfl (.yes rfl rfl rfl) (Ev.bin rfl rfl gtr_int) ?_
      refine JL.val rfl rfl rfl (.none rfl) (Ev.pickF rfl rfl) ?_
      refine JL.val rfl rfl rfl (.none rfl) (Ev.move rfl) ?_
      refine JL.split (d := 39) rfl (fun hgC => ?_) (fun hgC => ?_)
      · -- guard 39 true
        refine JL.skip rfl rfl (.noF rfl rfl rfl) ?_
        refine JL.skip rfl rfl (.noF rfl rfl rfl) ?_
        refine JL.skip rfl rfl (.noF rfl rfl rfl) ?_
        refine JL.skip rfl rfl (.noF rfl rfl rfl) ?_
        refine JL.val rfl rfl rfl (.none rfl) (Ev.pickT rfl rfl) ?_
        refine JL.val rfl rfl rfl (.none rfl) (Ev.move rfl) ?_
        refine JL.skip rfl rfl (.noF rfl rfl rfl) ?_
        refine JL.skip rfl rfl (.noF rfl rfl rfl) ?_
        refine JL.val rfl rfl rfl (.none rfl) (Ev.pickT rfl rfl) ?_
        refine JL.nil ?_
        refine JQ.thenN ?_
        refine JC.condT rfl ?_
        refine JC.seq ?_
        -- region 3
        refine JC.region ?_
        refine JL.val rfl rfl rfl (.none rfl) (Ev.move rfl) ?_
        refine JL.val rfl rfl rfl (.none rfl) (Ev.assign rfl) ?_
        refine JL.nil ?_
        refine JQ.thenN ?_
        refine JC.ret ?_
        refine JQ.thenR ?_
        refine JQ.end1 (H' := []) (.inl rfl) rfl (.tmp rfl) ?_ ?_
        · exact Sub.k
        · first | rfl | exact congrArg Value.bool pcve
      · -- guard 39 false
        have hij := of_decide_eq_false hgC
        refine JL.val rfl rfl rfl (.yes rfl rfl rfl) (Ev.move rfl) ?_
        refine JL.val rfl rfl rfl (.yes rfl rfl rfl) (Ev.move rfl) ?_
        refine JL.val rfl rfl rfl (.yes rfl rfl rfl) (Ev.lenS rfl Tryd.underlying23) ?_
        refine JL.val rfl rfl rfl (.yes rfl rfl rfl) (Ev.bin rfl rfl gtr_int) ?_
        refine JL.val rfl rfl rfl (.none rfl) (Ev.pickF rfl rfl) ?_
        refine JL.val rfl rfl rfl (.none rfl) (Ev.move rfl) ?_
        refine JL.split (d := 45) rfl (fun hgD => ?_) (fun hgD => ?_)
        · -- guard 45 true
          refine JL.skip rfl rfl (.noF rfl rfl rfl) ?_
          refine JL.skip rfl rfl (.noF rfl rfl rfl) ?_
          refine JL.val rfl rfl rfl (.none rfl) (Ev.pickT rfl rfl) ?_
          refine JL.nil ?_
          refine JQ.thenN ?_
          refine JC.condT rfl ?_
          refine JC.seq ?_
          -- region 3
          refine JC.region ?_
          refine JL.val rfl rfl rfl (.none rfl) (Ev.move rfl) ?_
          refine JL.val rfl rfl rfl (.none rfl) (Ev.assign rfl) ?_
          refine JL.nil ?_
          refine JQ.thenN ?_
          refine JC.ret ?_
          refine JQ.thenR ?_
          refine JQ.end1 (H' := []) (.inl rfl) rfl (.tmp rfl) ?_ ?_
          · exact Sub.k
          · first | rfl | exact congrArg Value.bool pcve
        · -- guard 45 false
          have hjl := of_decide_eq_false hgD
          obtain ⟨m, rfl⟩ : ∃ n : Nat, i = (n : Int) := ⟨i.toNat, by omega⟩
          obtain ⟨n, rfl⟩ : ∃ n : Nat, j = (n : Int) := ⟨j.toNat, by omega⟩
          have hm1 : 1 ≤ m := by omega
          have hmn : m ≤ n := by omega
          have hnl : n ≤ ds.length := by omega
          have hsm : ¬ 1024 < ds.length := by omega
          have htm : (ds.take m).length = m := by rw [List.length_take]; omega
          have htn : (ds.take n).length = n := by rw [List.length_take]; omega
          have htt : (ds.take n).take m = (ds.take m) := by rw [List.take_take, Nat.min_eq_left hmn]
          obtain ⟨a, rfl⟩ := Cs.get_some hd (by omega)
          obtain ⟨pa0, _, _, _, _, _, pave, pavee⟩ := accept_ok (ds := (ds.take n)) (N := n) htn hm1 (by omega) (by omega)
          rw [htt] at pave
          obtain ⟨pb0, _, _, _, _, _, pbve, pbvee⟩ := accept_ok (ds := ds) (n := n) (N := ds.length) rfl (by omega) hnl hsm
          obtain ⟨pc0, _, _, _, _, _, pcve, pcvee⟩ := accept_ok (ds := ds) (n := m) (N := ds.length) rfl hm1 (by omega) hsm
          refine JL.val rfl rfl rfl (.yes rfl rfl rfl) (Ev.move rfl) ?_
          refine JL.val rfl rfl rfl (.yes rfl rfl rfl) (Ev.not rfl) ?_
          refine JL.val rfl rfl rfl (.none rfl) (Ev.pickF rfl rfl) ?_
          refine JL.nil ?_
          refine JQ.thenN ?_
          refine JC.knowF rfl ?_ ?_
          · rfl
          refine JC.skip ?_
          refine JQ.thenN ?_
          refine JC.seq ?_
          -- region 4
          refine JC.region ?_
          refine JL.val rfl rfl rfl (.none rfl) (Ev.move rfl) ?_
          refine JL.val rfl rfl rfl (.none rfl) (Ev.move rfl) ?_
          refine JL.val rfl rfl rfl (.none rfl) (Ev.cast (v' := .slice (some a) (ds.take m).length cap) (by rw [sub3_0, htm]) (Ev.sliceHi rfl rfl Tryd.underlying23 Tryd.sizeOf22 (h := m) rfl (by have := hd.le; omega))) ?_
          refine JL.callV rfl (.none rfl) rfl Tryd.call29 (fun w1 hw1 => Root_any (some a) cap (ds.take m) w1 (Dl.take (hd.old hw1) (by omega)) (by omega) (hk.old hw1) (hf.old hw1)) ?_
          refine JL.val rfl rfl rfl (.none rfl) (Ev.move rfl) ?_
          refine JL.val rfl rfl rfl (.none rfl) (Ev.ex0 rfl) ?_
          refine JL.val rfl rfl rfl (.none rfl) (Ev.ex1 rfl) ?_
          refine JL.new rfl rfl rfl (.none rfl) (En.allocZ (cs := arr8 (List.replicate 32 0)) Tryd.zeroValue22 rfl) (fun b8 hb8 => ?_)
          refine JL.sto rfl rfl (.none rfl) (Es.sA Tryd.sizeOf22) ?_
          refine JL.val rfl rfl rfl (.none rfl) (Ev.assign rfl) ?_
          refine JL.nil ?_
          refine JQ.thenN ?_
          refine JC.seq ?_
          -- region 5
          refine JC.region ?_
          refine JL.val rfl rfl rfl (.none rfl) (Ev.move rfl) ?_
          refine JL.val rfl rfl rfl (.none rfl) (Ev.move rfl) ?_
          refine JL.val rfl rfl rfl (.none rfl) (Ev.cast (v' := .slice (some a) (ds.take n).length cap) (by rw [sub3_0, htn]) (Ev.sliceHi rfl rfl Tryd.underlying23 Tryd.sizeOf22 (h := n) rfl (by have := hd.le; omega))) ?_
          refine JL.callV rfl (.none rfl) rfl Tryd.call29 (fun w1 hw1 => Root_any (some a) cap (ds.take n) w1 (Dl.take (hd.old hw1) (by omega)) (by omega) (hk.old hw1) (hf.old hw1)) ?_
          refine JL.val rfl rfl rfl (.none rfl) (Ev.move rfl) ?_
          refine JL.val rfl rfl rfl (.none rfl) (Ev.ex0 rfl) ?_
          refine JL.val rfl rfl rfl (.none rfl) (Ev.ex1 rfl) ?_
          refine JL.new rfl rfl rfl (.none rfl) (En.allocZ (cs := arr8 (List.replicate 32 0)) Tryd.zeroValue22 rfl) (fun b10 hb10 => ?_)
          refine JL.sto rfl rfl (.none rfl) (Es.sA Tryd.sizeOf22) ?_
          refine JL.val rfl rfl rfl (.none rfl) (Ev.assign rfl) ?_
          refine JL.nil ?_
          refine JQ.thenN ?_
          refine JC.seq ?_
          -- region 6
          refine JC.region ?_
          refine JL.val rfl rfl rfl (.none rfl) (Ev.move rfl) ?_
          refine JL.callV rfl (.none rfl) rfl Tryd.call29 (fun w1 hw1 => Root_any (some a) cap ds w1 (hd.old hw1) (by omega) (hk.old hw1) (hf.old hw1)) ?_
          refine JL.val rfl rfl rfl (.none rfl) (Ev.move rfl) ?_
          refine JL.val rfl rfl rfl (.none rfl) (Ev.ex0 rfl) ?_
          refine JL.val rfl rfl rfl (.none rfl) (Ev.ex1 rfl) ?_
          refine JL.new rfl rfl rfl (.none rfl) (En.allocZ (cs := arr8 (List.replicate 32 0)) Tryd.zeroValue22 rfl) (fun b12 hb12 => ?_)
          refine JL.sto rfl rfl (.none rfl) (Es.sA Tryd.sizeOf22) ?_
          refine JL.val rfl rfl rfl (.none rfl) (Ev.assign rfl) ?_
          refine JL.nil ?_
          refine JQ.thenN ?_
          refine JC.seq ?_
          -- region 7
          refine JC.region ?_
          refine JL.val rfl rfl rfl (.none rfl) (Ev.move rfl) ?_
          refine JL.val rfl rfl rfl (.none rfl) (Ev.move rfl) ?_
          refine JL.val rfl rfl rfl (.none rfl) (Ev.cast (v' := .slice (some a) (ds.take n).length cap) (by rw [sub3_0, htn]) (Ev.sliceHi rfl rfl Tryd.underlying23 Tryd.sizeOf22 (h := n) rfl (by have := hd.le; omega))) ?_
          refine JL.val rfl rfl rfl (.none rfl) (Ev.move rfl) ?_
          refine JL.callN rfl (.none rfl) rfl Tryd.call17 (fun w1 hw1 => cProve_any (some a) cap (ds.take n) (m : Int) (by constructor <;> omega) w1 (Dl.take (hd.old hw1) (by omega)) (hk.old hw1) (hf.old hw1)) ?_
          rintro _ _ ⟨r1, rfl, rfl, hr1⟩
          refine JL.val rfl rfl rfl (.none rfl) (Ev.move rfl) ?_
          refine JL.val rfl rfl rfl (.none rfl) (Ev.ex0 rfl) ?_
          refine JL.val rfl rfl rfl (.none rfl) (Ev.ex1 rfl) ?_
          refine JL.val rfl rfl rfl (.none rfl) (Ev.assign rfl) ?_
          refine JL.val rfl rfl rfl (.none rfl) (Ev.assign rfl) ?_
          refine JL.nil ?_
          refine JQ.thenN ?_
          refine JC.seq ?_
          -- region 8
          refine JC.region ?_
          refine JL.val rfl rfl rfl (.none rfl) (Ev.move rfl) ?_
          refine JL.val rfl rfl rfl (.none rfl) (Ev.move rfl) ?_
          refine JL.callN rfl (.none rfl) rfl Tryd.call17 (fun w1 hw1 => cProve_any (some a) cap ds (n : Int) (by constructor <;> omega) w1 (hd.old hw1) (hk.old hw1) (hf.old hw1)) ?_
          rintro _ _ ⟨r2, rfl, rfl, hr2⟩
          refine JL.val rfl rfl rfl (.none rfl) (Ev.move rfl) ?_
          refine JL.val rfl rfl rfl (.none rfl) (Ev.ex0 rfl) ?_
          refine JL.val rfl rfl rfl (.none rfl) (Ev.ex1 rfl) ?_
          refine JL.val rfl rfl rfl (.none rfl) (Ev.assign rfl) ?_
          refine JL.val rfl rfl rfl (.none rfl) (Ev.assign rfl) ?_
          refine JL.nil ?_
          refine JQ.thenN ?_
          refine JC.seq ?_
          -- region 9
          refine JC.region ?_
          refine JL.val rfl rfl rfl (.none rfl) (Ev.move rfl) ?_
          refine JL.val rfl rfl rfl (.none rfl) (Ev.move rfl) ?_
          refine JL.callN rfl (.none rfl) rfl Tryd.call17 (fun w1 hw1 => cProve_any (some a) cap ds (m : Int) (by constructor <;> omega) w1 (hd.old hw1) (hk.old hw1) (hf.old hw1)) ?_
          rintro _ _ ⟨r3, rfl, rfl, hr3⟩
          refine JL.val rfl rfl rfl (.none rfl) (Ev.move rfl) ?_
          refine JL.val rfl rfl rfl (.none rfl) (Ev.ex0 rfl) ?_
          refine JL.val rfl rfl rfl (.none rfl) (Ev.ex1 rfl) ?_
          refine JL.val rfl rfl rfl (.none rfl) (Ev.assign rfl) ?_
          refine JL.val rfl rfl rfl (.none rfl) (Ev.assign rfl) ?_
          refine JL.nil ?_
          refine JQ.thenN ?_
          refine JC.seq ?_
          -- region 10
          refine JC.region ?_
          obtain ⟨o1, c1, e1, _, hC1⟩ := Row.vw (e := 22) hr1
          refine JL.re (d := 14) rfl e1 ?_
          obtain ⟨o2, c2, e2, _, hC2⟩ := Row.vw (e := 22) hr2
          refine JL.re (d := 16) rfl e2 ?_
          obtain ⟨o3, c3, e3, _, hC3⟩ := Row.vw (e := 22) hr3
          refine JL.re (d := 18) rfl e3 ?_
          refine JL.val rfl rfl rfl (.none rfl) (Ev.move rfl) ?_
          refine JL.val rfl rfl rfl (.none rfl) (Ev.move rfl) ?_
          refine JL.val rfl rfl rfl (.none rfl) (Ev.lB Tryd.underlying22 Tryd.sizeOf22) ?_
          refine JL.val rfl rfl rfl (.none rfl) (Ev.lB Tryd.underlying22 Tryd.sizeOf22) ?_
          refine JL.val rfl rfl rfl (.none rfl) (Ev.move rfl) ?_
          refine JL.callV rfl (.none rfl) rfl Tryd.call14 (fun w1 hw1 => cVerify_any (rootV (ds.take m)) (rootV (ds.take n)) (m : Int) (n : Int) (by constructor <;> omega) (by constructor <;> omega) o1 c1 (prV (ds.take n) (m : Int)) w1 (hC1 w1 hw1 (fun p hp => by simp [hp])) (hk.old hw1) (hf.old hw1)) ?_
          refine JL.val rfl rfl rfl (.none rfl) (Ev.move rfl) ?_
          refine JL.val rfl rfl rfl (.none rfl) (Ev.ex0 rfl) ?_
          refine JL.val rfl rfl rfl (.none rfl) (Ev.ex1 rfl) ?_
          refine JL.val rfl rfl rfl (.none rfl) (Ev.assign rfl) ?_
          refine JL.val rfl rfl rfl (.none rfl) (Ev.assign rfl) ?_
          refine JL.nil ?_
          refine JQ.thenN ?_
          refine JC.seq ?_
          -- region 11
          refine JC.region ?_
          refine JL.val rfl rfl rfl (.none rfl) (Ev.move rfl) ?_
          refine JL.val rfl rfl rfl (.none rfl) (Ev.move rfl) ?_
          refine JL.val rfl rfl rfl (.none rfl) (Ev.lenS rfl Tryd.underlying23) ?_
          refine JL.val rfl rfl rfl (.none rfl) (Ev.lB Tryd.underlying22 Tryd.sizeOf22) ?_
          refine JL.val rfl rfl rfl (.none rfl) (Ev.lB Tryd.underlying22 Tryd.sizeOf22) ?_
          refine JL.val rfl rfl rfl (.none rfl) (Ev.move rfl) ?_
          refine JL.callV rfl (.none rfl) rfl Tryd.call14 (fun w1 hw1 => cVerify_any (rootV (ds.take n)) (rootV ds) (n : Int) (ds.length : Int) (by constructor <;> omega) (by constructor <;> omega) o2 c2 (prV ds (n : Int)) w1 (hC2 w1 hw1 (fun p hp => by simp [hp])) (hk.old hw1) (hf.old hw1)) ?_
          refine JL.val rfl rfl rfl (.none rfl) (Ev.move rfl) ?_
          refine JL.val rfl rfl rfl (.none rfl) (Ev.ex0 rfl) ?_
          refine JL.val rfl rfl rfl (.none rfl) (Ev.ex1 rfl) ?_
          refine JL.val rfl rfl rfl (.none rfl) (Ev.assign rfl) ?_
          refine JL.val rfl rfl rfl (.none rfl) (Ev.assign rfl) ?_
          refine JL.nil ?_
          refine JQ.thenN ?_
          refine JC.seq ?_
          -- region 12
          refine JC.region ?_
          refine JL.val rfl rfl rfl (.none rfl) (Ev.move rfl) ?_
          refine JL.val rfl rfl rfl (.none rfl) (Ev.move rfl) ?_
          refine JL.val rfl rfl rfl (.none rfl) (Ev.lenS rfl Tryd.underlying23) ?_
          refine JL.val rfl rfl rfl (.none rfl) (Ev.lB Tryd.underlying22 Tryd.sizeOf22) ?_
          refine JL.val rfl rfl rfl (.none rfl) (Ev.lB Tryd.underlying22 Tryd.sizeOf22) ?_
          refine JL.val rfl rfl rfl (.none rfl) (Ev.move rfl) ?_
          refine JL.callV rfl (.none rfl) rfl Tryd.call14 (fun w1 hw1 => cVerify_any (rootV (ds.take m)) (rootV ds) (m : Int) (ds.length : Int) (by constructor <;> omega) (by constructor <;> omega) o3 c3 (prV ds (m : Int)) w1 (hC3 w1 hw1 (fun p hp => by simp [hp])) (hk.old hw1) (hf.old hw1)) ?_
          refine JL.val rfl rfl rfl (.none rfl) (Ev.move rfl) ?_
          refine JL.val rfl rfl rfl (.none rfl) (Ev.ex0 rfl) ?_
          refine JL.val rfl rfl rfl (.none rfl) (Ev.ex1 rfl) ?_
          refine JL.val rfl rfl rfl (.none rfl) (Ev.assign rfl) ?_
          refine JL.val rfl rfl rfl (.none rfl) (Ev.assign rfl) ?_
          refine JL.nil ?_
          refine JQ.thenN ?_
          refine JC.seq ?_
          -- region 13
          refine JC.region ?_
          refine JL.re (d := 9) (v' := .int .i64 0) rfl (congrArg (Value.int .i64) (rootE_ok (by omega))) ?_
          refine JL.re (d := 11) (v' := .int .i64 0) rfl (congrArg (Value.int .i64) (rootE_ok (by omega))) ?_
          refine JL.re (d := 13) (v' := .int .i64 0) rfl (congrArg (Value.int .i64) (rootE_ok hsm)) ?_
          refine JL.re (d := 15) (v' := .int .i64 0) rfl (congrArg (Value.int .i64) (pa0)) ?_
          refine JL.re (d := 17) (v' := .int .i64 0) rfl (congrArg (Value.int .i64) (pb0)) ?_
          refine JL.re (d := 19) (v' := .int .i64 0) rfl (congrArg (Value.int .i64) (pc0)) ?_
          refine JL.re (d := 21) (v' := .int .i64 0) rfl (congrArg (Value.int .i64) (pavee)) ?_
          refine JL.re (d := 23) (v' := .int .i64 0) rfl (congrArg (Value.int .i64) (pbvee)) ?_
          refine JL.re (d := 25) (v' := .int .i64 0) rfl (congrArg (Value.int .i64) (pcvee)) ?_
          refine JL.val rfl rfl rfl (.none rfl) (Ev.move rfl) ?_
          refine JL.val rfl rfl rfl (.none rfl) (Ev.bin rfl rfl eql_int) ?_
          refine JL.val rfl rfl rfl (.none rfl) (Ev.move rfl) ?_
          refine JL.know (d := 120) (b := true) rfl ?_ ?_
          · first | rfl | exact decide_eq_true rfl | exact pave | exact pbve | exact pcve
          refine JL.val rfl rfl rfl (.yes rfl rfl rfl) (Ev.move rfl) ?_
          refine JL.val rfl rfl rfl (.yes rfl rfl rfl) (Ev.bin rfl rfl eql_int) ?_
          refine JL.val rfl rfl rfl (.none rfl) (Ev.pickT rfl rfl) ?_
          refine JL.val rfl rfl rfl (.none rfl) (Ev.move rfl) ?_
          refine JL.know (d := 124) (b := true) rfl ?_ ?_
          · first | rfl | exact decide_eq_true rfl | exact pave | exact pbve | exact pcve
          refine JL.val rfl rfl rfl (.yes rfl rfl rfl) (Ev.move rfl) ?_
          refine JL.val rfl rfl rfl (.yes rfl rfl rfl) (Ev.bin rfl rfl eql_int) ?_
          refine JL.val rfl rfl rfl (.none rfl) (Ev.pickT rfl rfl) ?_
          refine JL.val rfl rfl rfl (.none rfl) (Ev.move rfl) ?_
          refine JL.know (d := 128) (b := true) rfl ?_ ?_
          · first | rfl | exact decide_eq_true rfl | exact pave | exact pbve | exact pcve
          refine JL.val rfl rfl rfl (.yes rfl rfl rfl) (Ev.move rfl) ?_
          refine JL.val rfl rfl rfl (.yes rfl rfl rfl) (Ev.bin rfl rfl eql_int) ?_
          refine JL.val rfl rfl rfl (.none rfl) (Ev.pickT rfl rfl) ?_
          refine JL.val rfl rfl rfl (.none rfl) (Ev.move rfl) ?_
          refine JL.know (d := 132) (b := true) rfl ?_ ?_
          · first | rfl | exact decide_eq_true rfl | exact pave | exact pbve | exact pcve
          refine JL.val rfl rfl rfl (.yes rfl rfl rfl) (Ev.move rfl) ?_
          refine JL.val rfl rfl rfl (.yes rfl rfl rfl) (Ev.bin rfl rfl eql_int) ?_
          refine JL.val rfl rfl rfl (.none rfl) (Ev.pickT rfl rfl) ?_
          refine JL.val rfl rfl rfl (.none rfl) (Ev.move rfl) ?_
          refine JL.know (d := 136) (b := true) rfl ?_ ?_
          · first | rfl | exact decide_eq_true rfl | exact pave | exact pbve | exact pcve
          refine JL.val rfl rfl rfl (.yes rfl rfl rfl) (Ev.move rfl) ?_
          refine JL.val rfl rfl rfl (.yes rfl rfl rfl) (Ev.bin rfl rfl eql_int) ?_
          refine JL.val rfl rfl rfl (.none rfl) (Ev.pickT rfl rfl) ?_
          refine JL.val rfl rfl rfl (.none rfl) (Ev.assign rfl) ?_
          refine JL.nil ?_
          refine JQ.thenN ?_
          refine JC.seq ?_
          -- region 14
          refine JC.region ?_
          refine JL.val rfl rfl rfl (.none rfl) (Ev.move rfl) ?_
          refine JL.val rfl rfl rfl (.none rfl) (Ev.move rfl) ?_
          refine JL.know (d := 141) (b := true) rfl ?_ ?_
          · first | rfl | exact decide_eq_true rfl | exact pave | exact pbve | exact pcve
          refine JL.val rfl rfl rfl (.yes rfl rfl rfl) (Ev.move rfl) ?_
          refine JL.val rfl rfl rfl (.none rfl) (Ev.pickT rfl rfl) ?_
          refine JL.val rfl rfl rfl (.none rfl) (Ev.move rfl) ?_
          refine JL.know (d := 144) (b := true) rfl ?_ ?_
          · first | rfl | exact decide_eq_true rfl | exact pave | exact pbve | exact pcve
          refine JL.val rfl rfl rfl (.yes rfl rfl rfl) (Ev.move rfl) ?_
          refine JL.val rfl rfl rfl (.yes rfl rfl rfl) (Ev.bin rfl rfl eql_int) ?_
          refine JL.val rfl rfl rfl (.none rfl) (Ev.pickT rfl rfl) ?_
          refine JL.val rfl rfl rfl (.none rfl) (Ev.move rfl) ?_
          refine JL.know (d := 148) (b := true) rfl ?_ ?_
          · first | rfl | exact decide_eq_true rfl | exact pave | exact pbve | exact pcve
          refine JL.val rfl rfl rfl (.yes rfl rfl rfl) (Ev.move rfl) ?_
          refine JL.val rfl rfl rfl (.yes rfl rfl rfl) (Ev.bin rfl rfl eql_int) ?_
          refine JL.val rfl rfl rfl (.none rfl) (Ev.pickT rfl rfl) ?_
          refine JL.val rfl rfl rfl (.none rfl) (Ev.move rfl) ?_
          refine JL.know (d := 152) (b := true) rfl ?_ ?_
          · first | rfl | exact decide_eq_true rfl | exact pave | exact pbve | exact pcve
          refine JL.val rfl rfl rfl (.yes rfl rfl rfl) (Ev.move rfl) ?_
          refine JL.val rfl rfl rfl (.yes rfl rfl rfl) (Ev.bin rfl rfl eql_int) ?_
          refine JL.val rfl rfl rfl (.none rfl) (Ev.pickT rfl rfl) ?_
          refine JL.val rfl rfl rfl (.none rfl) (Ev.move rfl) ?_
          refine JL.know (d := 156) (b := true) rfl ?_ ?_
          · first | rfl | exact decide_eq_true rfl | exact pave | exact pbve | exact pcve
          refine JL.val rfl rfl rfl (.yes rfl rfl rfl) (Ev.move rfl) ?_
          refine JL.val rfl rfl rfl (.none rfl) (Ev.pickT rfl rfl) ?_
          refine JL.val rfl rfl rfl (.none rfl) (Ev.move rfl) ?_
          refine JL.know (d := 159) (b := true) rfl ?_ ?_
          · first | rfl | exact decide_eq_true rfl | exact pave | exact pbve | exact pcve
          refine JL.val rfl rfl rfl (.yes rfl rfl rfl) (Ev.move rfl) ?_
          refine JL.val rfl rfl rfl (.none rfl) (Ev.pickT rfl rfl) ?_
          refine JL.val rfl rfl rfl (.none rfl) (Ev.move rfl) ?_
          refine JL.know (d := 162) (b := true) rfl ?_ ?_
          · first | rfl | exact decide_eq_true rfl | exact pave | exact pbve | exact pcve
          refine JL.val rfl rfl rfl (.yes rfl rfl rfl) (Ev.move rfl) ?_
          refine JL.val rfl rfl rfl (.none rfl) (Ev.pickT rfl rfl) ?_
          refine JL.val rfl rfl rfl (.none rfl) (Ev.assign rfl) ?_
          refine JL.nil ?_
          refine JQ.thenN ?_
          refine JC.ret ?_
          refine JQ.end1 (H' := []) (.inl rfl) rfl (.tmp rfl) ?_ ?_
          · exact Sub.k
          · first | rfl | exact congrArg Value.bool pcve

theorem lawAppends_any (oa : Option Addr) (cap : Nat) (ds : List Dig) (w : World) (hd : Dl w oa cap ds) (hk : KMem 1 w) (hf : FMem 0 w) :
    Calls Tryd.prog 9 #[.slice oa ds.length cap] w (Ret w (fun v _ => v = .bool true)) := by
  refine enter (vs := [.slice oa ds.length cap]) Tryd.func9 rfl Tryd.ntmps9 rfl ?_
  refine JC.seq ?_
  -- region 0
  refine JC.region ?_
  refine JL.val rfl rfl rfl (.none rfl) (Ev.assign rfl) ?_
  refine JL.nil ?_
  refine JQ.thenN ?_
  refine JC.seq ?_
  -- region 1
  refine JC.region ?_
  refine JL.callV rfl (.none rfl) rfl Tryd.call28 (fun w1 hw1 => calive_any w1 (hk.old hw1) (hf.old hw1)) ?_
  refine JL.val rfl rfl rfl (.none rfl) (Ev.assign rfl) ?_
  refine JL.nil ?_
  refine JQ.thenN ?_
  refine JC.seq ?_
  refine JC.seq ?_
  -- region 2
  refine JC.region ?_
  refine JL.val rfl rfl rfl (.none rfl) (Ev.move rfl) ?_
  refine JL.callV rfl (.none rfl) rfl Tryd.call11 (fun w1 hw1 => great_any oa ds.length cap w1) ?_
  refine JL.val rfl rfl rfl (.none rfl) (Ev.move rfl) ?_
  refine JL.split (d := 15) rfl (fun hgA => ?_) (fun hgA => ?_)
  · -- guard 15 true
    refine JL.skip rfl rfl (.noF rfl rfl rfl) ?_
    refine JL.skip rfl rfl (.noF rfl rfl rfl) ?_
    refine JL.val rfl rfl rfl (.none rfl) (Ev.pickT rfl rfl) ?_
    refine JL.nil ?_
    refine JQ.thenN ?_
    refine JC.condT rfl ?_
    refine JC.seq ?_
    -- region 3
    refine JC.region ?_
    refine JL.val rfl rfl rfl (.none rfl) (Ev.move rfl) ?_
    refine JL.val rfl rfl rfl (.none rfl) (Ev.assign rfl) ?_
    refine JL.nil ?_
    refine JQ.thenN ?_
    refine JC.ret ?_
    refine JQ.thenR ?_
    refine JQ.end1 (H' := []) (.inl rfl) rfl (.tmp rfl) ?_ ?_
    · exact Sub.k
    · first | rfl | exact congrArg Value.bool rfl
  · -- guard 15 false
    have hg130 : ¬ 130 < (ds.length : Int) := of_decide_eq_false hgA
    refine JL.val rfl rfl rfl (.yes rfl rfl rfl) (Ev.move rfl) ?_
    refine JL.val rfl rfl rfl (.yes rfl rfl rfl) (Ev.not rfl) ?_
    refine JL.val rfl rfl rfl (.none rfl) (Ev.pickF rfl rfl) ?_
    refine JL.nil ?_
    refine JQ.thenN ?_
    refine JC.knowF rfl ?_ ?_
    · rfl
    refine JC.skip ?_
    refine JQ.thenN ?_
    refine JC.seq ?_
    -- region 4
    refine JC.region ?_
    refine JL.val rfl rfl rfl (.none rfl) (Ev.assign rfl) ?_
    refine JL.nil ?_
    refine JQ.thenN ?_
    refine JC.seq ?_
    refine JC.seq ?_
    -- region 5
    refine JC.region ?_
    refine JL.val rfl rfl rfl (.none rfl) (Ev.assign rfl) ?_
    refine JL.nil ?_
    refine JQ.thenN ?_
    refine JC.block ?_
    refine JC.loop (X := Nat × List Dig × Option Row)
      (fun ⟨i, p, q⟩ => [(0, .slice oa ds.length cap), (3, .bool true), (4, Row.v p.length q), (5, .int .i64 (i : Int))])
      (fun ⟨i, p, q⟩ => Row.b 22 q)
      (fun ⟨i, p, q⟩ => i ≤ ds.length + 1 ∧ p = overR (ds.take i) ∧ Row.ok 32 p.length (fl p) q)
      (fun ⟨i, p, q⟩ => ds.length + 1 - i) (0, [], none) ?_ ?_ ?_ ?_
    · exact Keeps.k
    · exact Sub.nil
    · exact ⟨Nat.zero_le _, overR_nil.symm, Row.ok0⟩
    rintro ⟨i, p, q⟩ ⟨hi1, hpo, hq⟩
    refine JC.seq ?_
    refine JC.seq ?_
    -- region 6
    refine JC.region ?_
    refine JL.val rfl rfl rfl (.none rfl) (Ev.move rfl) ?_
    refine JL.val rfl rfl rfl (.none rfl) (Ev.move rfl) ?_
    refine JL.val rfl rfl rfl (.none rfl) (Ev.lenS rfl Tryd.underlying23) ?_
    refine JL.val rfl rfl rfl (.none rfl) (Ev.bin rfl rfl leq_int) ?_
    refine JL.nil ?_
    refine JQ.thenN ?_
    refine JC.cond rfl (fun hc1 => ?_) (fun hc1 => ?_)
    · -- t23 True
      replace hc1 := of_decide_eq_true hc1
      have hil : i ≤ ds.length := by omega
      have htl : (ds.take i).length = i := by rw [List.length_take]; omega
      have hpk : pkV (ds.take i) = p := by rw [hpo]; exact pkV_ok (by omega)
      have hpr : prootR p = rootV (ds.take i) := by rw [hpo, rootV_ok (by omega)]; exact proot_over _ (ds.take i) (Nat.le_refl _)
      have hpn : p.length = onesR i := by have h := over_ones _ (ds.take i) (Nat.le_refl _); rw [htl] at h; rw [hpo]; exact h
      refine JC.skip ?_
      refine JQ.thenN ?_
      refine JC.seq ?_
      refine JC.block ?_
      refine JC.seq ?_
      -- region 8
      refine JC.region ?_
      obtain ⟨o1, c1, e1, _, hC1⟩ := Row.vw (e := 22) hq
      refine JL.re (d := 4) rfl e1 ?_
      refine JL.val rfl rfl rfl (.none rfl) (Ev.move rfl) ?_
      refine JL.val rfl rfl rfl (.none rfl) (Ev.move rfl) ?_
      refine JL.val rfl rfl rfl (.none rfl) (Ev.cast (v' := .slice oa (ds.take i).length cap) (by rw [sub3_0, htl]) (Ev.sliceHi rfl rfl Tryd.underlying23 Tryd.sizeOf22 (h := i) rfl (by have := hd.le; omega))) ?_
      refine JL.callN rfl (.none rfl) rfl Tryd.call22 (fun w1 hw1 => cPeaks_any oa cap (ds.take i) w1 (Dl.take (hd.old hw1) hil) (hk.old hw1) (hf.old hw1)) ?_
      rintro _ _ ⟨r2, rfl, rfl, hr2⟩
      refine JL.val rfl rfl rfl (.none rfl) (Ev.move rfl) ?_
      refine JL.val rfl rfl rfl (.none rfl) (Ev.ex0 rfl) ?_
      refine JL.val rfl rfl rfl (.none rfl) (Ev.ex1 rfl) ?_
      refine JL.val rfl rfl rfl (.none rfl) (Ev.assign rfl) ?_
      refine JL.val rfl rfl rfl (.none rfl) (Ev.assign rfl) ?_
      refine JL.nil ?_
      refine JQ.thenN ?_
      refine JC.seq ?_
      -- region 9
      refine JC.region ?_
      refine JL.val rfl rfl rfl (.none rfl) (Ev.move rfl) ?_
      refine JL.val rfl rfl rfl (.none rfl) (Ev.move rfl) ?_
      refine JL.val rfl rfl rfl (.none rfl) (Ev.cast (v' := .slice oa (ds.take i).length cap) (by rw [sub3_0, htl]) (Ev.sliceHi rfl rfl Tryd.underlying23 Tryd.sizeOf22 (h := i) rfl (by have := hd.le; omega))) ?_
      refine JL.callV rfl (.none rfl) rfl Tryd.call29 (fun w1 hw1 => Root_any oa cap (ds.take i) w1 (Dl.take (hd.old hw1) hil) (by omega) (hk.old hw1) (hf.old hw1)) ?_
      refine JL.val rfl rfl rfl (.none rfl) (Ev.move rfl) ?_
      refine JL.val rfl rfl rfl (.none rfl) (Ev.ex0 rfl) ?_
      refine JL.val rfl rfl rfl (.none rfl) (Ev.ex1 rfl) ?_
      refine JL.new rfl rfl rfl (.none rfl) (En.allocZ (cs := arr8 (List.replicate 32 0)) Tryd.zeroValue22 rfl) (fun b8 hb8 => ?_)
      refine JL.sto rfl rfl (.none rfl) (Es.sA Tryd.sizeOf22) ?_
      refine JL.val rfl rfl rfl (.none rfl) (Ev.assign rfl) ?_
      refine JL.nil ?_
      refine JQ.thenN ?_
      refine JC.seq ?_
      refine JC.seq ?_
      obtain ⟨o2, c2, e2, _, hC2⟩ := Row.vw (e := 22) hr2
      refine JC.re (d := 6) rfl e2 ?_
      refine JC.re (d := 7) (v' := .int .i64 0) rfl (congrArg (Value.int .i64) (pkE_ok (by omega))) ?_
      refine JC.re (d := 9) (v' := .int .i64 0) rfl (congrArg (Value.int .i64) (rootE_ok (by omega))) ?_
      -- region 10
      refine JC.regionA (by kernel_rfl) ?_
      refine JA.takeR 0 (by kernel_rfl) rfl rfl rfl (by kernel_rfl) (by kernel_rfl) (by kernel_rfl) (fun _ _ _ h => h) (fun _ _ => rfl) (.none rfl) (fun _ => (Ev.move rfl)) ?_
      refine JA.takeR 1 (by kernel_rfl) rfl rfl rfl (by kernel_rfl) (by kernel_rfl) (by kernel_rfl) (fun _ _ _ h => h) (fun _ _ => rfl) (.none rfl) (fun _ => (Ev.bin rfl rfl neq_int)) ?_
      refine JA.takeR 2 (by kernel_rfl) rfl rfl rfl (by kernel_rfl) (by kernel_rfl) (by kernel_rfl) (fun _ _ _ h => h) (fun _ _ => rfl) (.none rfl) (fun _ => (Ev.move rfl)) ?_
      refine JA.know (d := 42) (b := false) rfl ?_ ?_
      · first | rfl | exact decide_eq_false (by simp) | (rw [decide_eq_true hpk.symm]; rfl)
      refine JA.takeR 3 (by kernel_rfl) rfl rfl rfl (by kernel_rfl) (by kernel_rfl) (by kernel_rfl) (fun _ _ _ h => h) (fun _ _ => rfl) (.yes rfl rfl rfl) (fun _ => (Ev.move rfl)) ?_
      refine JA.takeR 4 (by kernel_rfl) rfl rfl rfl (by kernel_rfl) (by kernel_rfl) (by kernel_rfl) (fun _ _ _ h => h) (fun _ _ => rfl) (.yes rfl rfl rfl) (fun _ => (Ev.bin rfl rfl neq_int)) ?_
      refine JA.takeR 5 (by kernel_rfl) rfl rfl rfl (by kernel_rfl) (by kernel_rfl) (by kernel_rfl) (fun _ _ _ h => h) (fun _ _ => rfl) (.none rfl) (fun _ => (Ev.pickF rfl rfl)) ?_
      refine JA.takeR 6 (by kernel_rfl) rfl rfl rfl (by kernel_rfl) (by kernel_rfl) (by kernel_rfl) (fun _ _ _ h => h) (fun _ _ => rfl) (.none rfl) (fun _ => (Ev.move rfl)) ?_
      refine JA.know (d := 46) (b := false) rfl ?_ ?_
      · first | rfl | exact decide_eq_false (by simp) | (rw [decide_eq_true hpk.symm]; rfl)
      refine JA.takeR 7 (by kernel_rfl) rfl rfl rfl (by kernel_rfl) (by kernel_rfl) (by kernel_rfl) (fun _ _ _ h => h) (fun _ _ => rfl) (.yes rfl rfl rfl) (fun _ => (Ev.move rfl)) ?_
      refine JA.takeR 8 (by kernel_rfl) rfl rfl rfl (by kernel_rfl) (by kernel_rfl) (by kernel_rfl) (fun _ _ _ h => h) (fun _ _ => rfl) (.yes rfl rfl rfl) (fun _ => (Ev.move rfl)) ?_
      refine JA.branch [9] (by kernel_rfl) rfl ?_
      refine JAll.cons rfl ?_ JAll.nil
      refine JO.callV rfl (.yes rfl rfl rfl) rfl Tryd.call21 (fun w1 hw1 => dSame_any o1 o2 c1 c2 p (pkV (ds.take i)) w1 (hC1 w1 hw1 (fun p hp => by simp [hp])) (hC2 w1 hw1 (fun p hp => by simp [hp])) (by rw [hpo]; have := over_le (ds.take i); omega)) ?_
      refine JA.takeR 10 (by kernel_rfl) rfl rfl rfl (by kernel_rfl) (by kernel_rfl) (by kernel_rfl) (fun _ _ _ h => h) (fun _ _ => rfl) (.yes rfl rfl rfl) (fun _ => (Ev.not rfl)) ?_
      refine JA.takeR 11 (by kernel_rfl) rfl rfl rfl (by kernel_rfl) (by kernel_rfl) (by kernel_rfl) (fun _ _ _ h => h) (fun _ _ => rfl) (.none rfl) (fun _ => (Ev.pickF rfl rfl)) ?_
      refine JA.takeR 12 (by kernel_rfl) rfl rfl rfl (by kernel_rfl) (by kernel_rfl) (by kernel_rfl) (fun _ _ _ h => h) (fun _ _ => rfl) (.none rfl) (fun _ => (Ev.move rfl)) ?_
      refine JA.know (d := 52) (b := false) rfl ?_ ?_
      · first | rfl | exact decide_eq_false (by simp) | (rw [decide_eq_true hpk.symm]; rfl)
      refine JA.takeR 13 (by kernel_rfl) rfl rfl rfl (by kernel_rfl) (by kernel_rfl) (by kernel_rfl) (fun _ _ _ h => h) (fun _ _ => rfl) (.yes rfl rfl rfl) (fun _ => (Ev.move rfl)) ?_
      refine JA.branch [14, 15] (by kernel_rfl) rfl ?_
      refine JAll.cons rfl ?_ ?_
      · -- 14
        refine JO.callV rfl (.yes rfl rfl rfl) rfl Tryd.call26 (fun w1 hw1 => cPeaksRoot_any o1 c1 p w1 (hC1 w1 hw1 (fun p hp => by simp [hp])) (by rw [hpo]; have := over_le (ds.take i); omega) (hk.old hw1) (hf.old hw1)) ?_
        refine JA.branch [15] (by kernel_rfl) rfl ?_
        refine JAll.cons rfl ?_ JAll.nil
        refine JO.val rfl rfl rfl (.yes rfl rfl rfl) (Ev.lB Tryd.underlying22 Tryd.sizeOf22) ?_
        refine JA.takeR 16 (by kernel_rfl) rfl rfl rfl (by kernel_rfl) (by kernel_rfl) (by kernel_rfl) (fun _ _ _ h => h) (fun _ _ => rfl) (.yes rfl rfl rfl) (fun _ => (Ev.bin rfl rfl (neq_arr8 (n := 32) Tryd.underlying22 Tryd.underlying5 (by kernel_rfl) (by kernel_rfl) (by first | rfl | exact dig_len _ | assumption | exact sha_length _ | exact shaO_length _) (by first | rfl | exact dig_len _ | assumption | exact sha_length _ | exact shaO_length _)))) ?_
        refine JA.takeR 17 (by kernel_rfl) rfl rfl rfl (by kernel_rfl) (by kernel_rfl) (by kernel_rfl) (fun _ _ _ h => h) (fun _ _ => rfl) (.none rfl) (fun _ => (Ev.pickF rfl rfl)) ?_
        refine JA.done (by kernel_rfl) ?_
        refine JQ.thenN ?_
        refine JC.knowF rfl ?_ ?_
        · rw [decide_eq_true (congrArg Subtype.val hpr)]; rfl
        refine JC.skip ?_
        refine JQ.thenN ?_
        refine JC.seq ?_
        -- region 12
        refine JC.region ?_
        refine JL.val rfl rfl rfl (.none rfl) (Ev.move rfl) ?_
        refine JL.val rfl rfl rfl (.none rfl) (Ev.move rfl) ?_
        refine JL.val rfl rfl rfl (.none rfl) (Ev.lenS rfl Tryd.underlying23) ?_
        refine JL.val rfl rfl rfl (.none rfl) (Ev.bin rfl rfl lss_int) ?_
        refine JL.nil ?_
        refine JQ.thenN ?_
        refine JC.cond rfl (fun hc2 => ?_) (fun hc2 => ?_)
        · -- t61 True
          replace hc2 := of_decide_eq_true hc2
          have hlt : i < ds.length := by omega
          obtain ⟨d, hdi⟩ := get_some hlt
          obtain ⟨a, rfl⟩ := Cs.get_some hd (by omega)
          have hoka : ¬ badA p (i : Int) := by unfold badA; rw [Int.toNat_natCast]; omega
          have hap : apV p (i : Int) d = overR (ds.take (i + 1)) := by rw [apV_ok hoka, Int.toNat_natCast, hpo, List.take_add_one, hdi]; have h := over_with _ (ds.take i) d (Nat.le_refl _); rw [htl] at h; exact h
          refine JC.seq ?_
          -- region 13
          refine JC.region ?_
          refine JL.val rfl rfl rfl (.none rfl) (Ev.move rfl) ?_
          refine JL.val rfl rfl rfl (.none rfl) (Ev.move rfl) ?_
          refine JL.val rfl rfl rfl (.none rfl) (Ev.move rfl) ?_
          refine JL.val rfl rfl rfl (.none rfl) (Ev.move rfl) ?_
          refine JL.val rfl rfl rfl (.none rfl) (Ev.idxS rfl rfl Tryd.underlying23 Tryd.sizeOf22 (k := i) rfl (by omega)) ?_
          refine JL.val rfl rfl rfl (.none rfl) (Ev.loadD rfl Tryd.underlying22 rfl Tryd.sizeOf22 (Rds.old ((hd.mem a rfl).atD hdi))) ?_
          refine JL.callN rfl (.none rfl) rfl Tryd.call24 (fun w1 hw1 => cAppend_any o1 c1 p (i : Int) (by constructor <;> omega) d w1 (hC1 w1 hw1 (fun p hp => by simp [hp])) (hk.old hw1) (hf.old hw1)) ?_
          rintro _ _ ⟨r3, rfl, rfl, hr3⟩
          refine JL.val rfl rfl rfl (.none rfl) (Ev.move rfl) ?_
          refine JL.val rfl rfl rfl (.none rfl) (Ev.ex0 rfl) ?_
          refine JL.val rfl rfl rfl (.none rfl) (Ev.ex1 rfl) ?_
          refine JL.val rfl rfl rfl (.none rfl) (Ev.assign rfl) ?_
          refine JL.val rfl rfl rfl (.none rfl) (Ev.assign rfl) ?_
          refine JL.nil ?_
          refine JQ.thenN ?_
          refine JC.seq ?_
          refine JC.seq ?_
          -- region 14
          refine JC.region ?_
          refine JL.re (d := 11) (v' := .int .i64 0) rfl (congrArg (Value.int .i64) (apE_ok hoka)) ?_
          refine JL.val rfl rfl rfl (.none rfl) (Ev.move rfl) ?_
          refine JL.val rfl rfl rfl (.none rfl) (Ev.bin rfl rfl neq_int) ?_
          refine JL.nil ?_
          refine JQ.thenN ?_
          refine JC.knowF rfl ?_ ?_
          · exact decide_eq_false (by simp)
          refine JC.skip ?_
          refine JQ.thenN ?_
          -- region 16
          refine JC.region ?_
          refine JL.val rfl rfl rfl (.none rfl) (Ev.move rfl) ?_
          refine JL.val rfl rfl rfl (.none rfl) (Ev.assign rfl) ?_
          refine JL.nil ?_
          refine JQ.blockN ?_
          refine JQ.thenN ?_
          -- region 7
          refine JC.region ?_
          refine JL.val rfl rfl rfl (.none rfl) (Ev.move rfl) ?_
          refine JL.val rfl rfl rfl (.none rfl) (Ev.bin rfl rfl (add_i64 (by omega))) ?_
          refine JL.val rfl rfl rfl (.none rfl) (Ev.assign rfl) ?_
          refine JL.nil ?_
          refine JQ.loopN (i + 1, apV p (i : Int) d, r3) ?_ ?_ ?_ ?_
          · exact Keeps.k
          · exact Sub.of_cnt (fun a => by (try dsimp only); simp only [cntA]; omega)
          · exact ⟨by omega, hap, hr3⟩
          · show ds.length + 1 - (i + 1) < ds.length + 1 - i; omega
        · -- t61 False
          replace hc2 := of_decide_eq_false hc2
          have hie : i = ds.length := by omega
          refine JC.skip ?_
          refine JQ.blockN ?_
          refine JQ.thenN ?_
          -- region 7
          refine JC.region ?_
          refine JL.val rfl rfl rfl (.none rfl) (Ev.move rfl) ?_
          refine JL.val rfl rfl rfl (.none rfl) (Ev.bin rfl rfl (add_i64 (by omega))) ?_
          refine JL.val rfl rfl rfl (.none rfl) (Ev.assign rfl) ?_
          refine JL.nil ?_
          refine JQ.re (d := 4) (v' := Row.v p.length q) rfl e1.symm ?_
          refine JQ.loopN (i + 1, p, q) ?_ ?_ ?_ ?_
          · exact Keeps.k
          · exact Sub.of_cnt (fun a => by (try dsimp only); simp only [cntA]; omega)
          · exact ⟨by omega, by rw [hpo, List.take_of_length_le (by omega), List.take_of_length_le (by omega)], hq⟩
          · show ds.length + 1 - (i + 1) < ds.length + 1 - i; omega
      refine JAll.cons rfl ?_ JAll.nil
      refine JO.val rfl rfl rfl (.yes rfl rfl rfl) (Ev.lB Tryd.underlying22 Tryd.sizeOf22) ?_
      refine JA.branch [14] (by kernel_rfl) rfl ?_
      refine JAll.cons rfl ?_ JAll.nil
      refine JO.callV rfl (.yes rfl rfl rfl) rfl Tryd.call26 (fun w1 hw1 => cPeaksRoot_any o1 c1 p w1 (hC1 w1 hw1 (fun p hp => by simp [hp])) (by rw [hpo]; have := over_le (ds.take i); omega) (hk.old hw1) (hf.old hw1)) ?_
      refine JA.takeR 16 (by kernel_rfl) rfl rfl rfl (by kernel_rfl) (by kernel_rfl) (by kernel_rfl) (fun _ _ _ h => h) (fun _ _ => rfl) (.yes rfl rfl rfl) (fun _ => (Ev.bin rfl rfl (neq_arr8 (n := 32) Tryd.underlying22 Tryd.underlying5 (by kernel_rfl) (by kernel_rfl) (by first | rfl | exact dig_len _ | assumption | exact sha_length _ | exact shaO_length _) (by first | rfl | exact dig_len _ | assumption | exact sha_length _ | exact shaO_length _)))) ?_
      refine JA.takeR 17 (by kernel_rfl) rfl rfl rfl (by kernel_rfl) (by kernel_rfl) (by kernel_rfl) (fun _ _ _ h => h) (fun _ _ => rfl) (.none rfl) (fun _ => (Ev.pickF rfl rfl)) ?_
      refine JA.done (by kernel_rfl) ?_
      refine JQ.thenN ?_
      refine JC.knowF rfl ?_ ?_
      · rw [decide_eq_true (congrArg Subtype.val hpr)]; rfl
      refine JC.skip ?_
      refine JQ.thenN ?_
      refine JC.seq ?_
      -- region 12
      refine JC.region ?_
      refine JL.val rfl rfl rfl (.none rfl) (Ev.move rfl) ?_
      refine JL.val rfl rfl rfl (.none rfl) (Ev.move rfl) ?_
      refine JL.val rfl rfl rfl (.none rfl) (Ev.lenS rfl Tryd.underlying23) ?_
      refine JL.val rfl rfl rfl (.none rfl) (Ev.bin rfl rfl lss_int) ?_
      refine JL.nil ?_
      refine JQ.thenN ?_
      refine JC.cond rfl (fun hc3 => ?_) (fun hc3 => ?_)
      · -- t61 True
        replace hc3 := of_decide_eq_true hc3
        have hlt : i < ds.length := by omega
        obtain ⟨d, hdi⟩ := get_some hlt
        obtain ⟨a, rfl⟩ := Cs.get_some hd (by omega)
        have hoka : ¬ badA p (i : Int) := by unfold badA; rw [Int.toNat_natCast]; omega
        have hap : apV p (i : Int) d = overR (ds.take (i + 1)) := by rw [apV_ok hoka, Int.toNat_natCast, hpo, List.take_add_one, hdi]; have h := over_with _ (ds.take i) d (Nat.le_refl _); rw [htl] at h; exact h
        refine JC.seq ?_
        -- region 13
        refine JC.region ?_
        refine JL.val rfl rfl rfl (.none rfl) (Ev.move rfl) ?_
        refine JL.val rfl rfl rfl (.none rfl) (Ev.move rfl) ?_
        refine JL.val rfl rfl rfl (.none rfl) (Ev.move rfl) ?_
        refine JL.val rfl rfl rfl (.none rfl) (Ev.move rfl) ?_
        refine JL.val rfl rfl rfl (.none rfl) (Ev.idxS rfl rfl Tryd.underlying23 Tryd.sizeOf22 (k := i) rfl (by omega)) ?_
        refine JL.val rfl rfl rfl (.none rfl) (Ev.loadD rfl Tryd.underlying22 rfl Tryd.sizeOf22 (Rds.old ((hd.mem a rfl).atD hdi))) ?_
        refine JL.callN rfl (.none rfl) rfl Tryd.call24 (fun w1 hw1 => cAppend_any o1 c1 p (i : Int) (by constructor <;> omega) d w1 (hC1 w1 hw1 (fun p hp => by simp [hp])) (hk.old hw1) (hf.old hw1)) ?_
        rintro _ _ ⟨r3, rfl, rfl, hr3⟩
        refine JL.val rfl rfl rfl (.none rfl) (Ev.move rfl) ?_
        refine JL.val rfl rfl rfl (.none rfl) (Ev.ex0 rfl) ?_
        refine JL.val rfl rfl rfl (.none rfl) (Ev.ex1 rfl) ?_
        refine JL.val rfl rfl rfl (.none rfl) (Ev.assign rfl) ?_
        refine JL.val rfl rfl rfl (.none rfl) (Ev.assign rfl) ?_
        refine JL.nil ?_
        refine JQ.thenN ?_
        refine JC.seq ?_
        refine JC.seq ?_
        -- region 14
        refine JC.region ?_
        refine JL.re (d := 11) (v' := .int .i64 0) rfl (congrArg (Value.int .i64) (apE_ok hoka)) ?_
        refine JL.val rfl rfl rfl (.none rfl) (Ev.move rfl) ?_
        refine JL.val rfl rfl rfl (.none rfl) (Ev.bin rfl rfl neq_int) ?_
        refine JL.nil ?_
        refine JQ.thenN ?_
        refine JC.knowF rfl ?_ ?_
        · exact decide_eq_false (by simp)
        refine JC.skip ?_
        refine JQ.thenN ?_
        -- region 16
        refine JC.region ?_
        refine JL.val rfl rfl rfl (.none rfl) (Ev.move rfl) ?_
        refine JL.val rfl rfl rfl (.none rfl) (Ev.assign rfl) ?_
        refine JL.nil ?_
        refine JQ.blockN ?_
        refine JQ.thenN ?_
        -- region 7
        refine JC.region ?_
        refine JL.val rfl rfl rfl (.none rfl) (Ev.move rfl) ?_
        refine JL.val rfl rfl rfl (.none rfl) (Ev.bin rfl rfl (add_i64 (by omega))) ?_
        refine JL.val rfl rfl rfl (.none rfl) (Ev.assign rfl) ?_
        refine JL.nil ?_
        refine JQ.loopN (i + 1, apV p (i : Int) d, r3) ?_ ?_ ?_ ?_
        · exact Keeps.k
        · exact Sub.of_cnt (fun a => by (try dsimp only); simp only [cntA]; omega)
        · exact ⟨by omega, hap, hr3⟩
        · show ds.length + 1 - (i + 1) < ds.length + 1 - i; omega
      · -- t61 False
        replace hc3 := of_decide_eq_false hc3
        have hie : i = ds.length := by omega
        refine JC.skip ?_
        refine JQ.blockN ?_
        refine JQ.thenN ?_
        -- region 7
        refine JC.region ?_
        refine JL.val rfl rfl rfl (.none rfl) (Ev.move rfl) ?_
        refine JL.val rfl rfl rfl (.none rfl) (Ev.bin rfl rfl (add_i64 (by omega))) ?_
        refine JL.val rfl rfl rfl (.none rfl) (Ev.assign rfl) ?_
        refine JL.nil ?_
        refine JQ.re (d := 4) (v' := Row.v p.length q) rfl e1.symm ?_
        refine JQ.loopN (i + 1, p, q) ?_ ?_ ?_ ?_
        · exact Keeps.k
        · exact Sub.of_cnt (fun a => by (try dsimp only); simp only [cntA]; omega)
        · exact ⟨by omega, by rw [hpo, List.take_of_length_le (by omega), List.take_of_length_le (by omega)], hq⟩
        · show ds.length + 1 - (i + 1) < ds.length + 1 - i; omega
    · -- t23 False
      replace hc1 := of_decide_eq_false hc1
      refine JC.exit ?_
      refine JQ.thenE ?_
      refine JQ.thenE ?_
      refine JQ.blockE ?_
      refine JQ.thenN ?_
      refine JC.seq ?_
      -- region 17
      refine JC.region ?_
      refine JL.val rfl rfl rfl (.none rfl) (Ev.move rfl) ?_
      refine JL.val rfl rfl rfl (.none rfl) (Ev.assign rfl) ?_
      refine JL.nil ?_
      refine JQ.thenN ?_
      refine JC.ret ?_
      refine JQ.end1 (H' := []) (.inl rfl) rfl (.tmp rfl) ?_ ?_
      · exact Sub.k
      · first | rfl | exact congrArg Value.bool rfl

end Go.Proofs.YtimegpilihfghaaDoor
