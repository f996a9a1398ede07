/-
  The chapter's examples of trees; following a path, replacing a leaf, the root of two parts.
-/
import Derived.Test.YtebinlinhmohbaaDoorMer4
namespace Go.Proofs.YtebinlinhmohbaaDoor
open Go Go.RowKit
set_option maxRecDepth 100000

def oneD (c : UInt8) : Dig := ⟨List.replicate 32 c, List.length_replicate⟩
def fillC (c : UInt8) (i : Nat) : List UInt8 := List.replicate i c ++ List.replicate (32 - i) 0
theorem fillC_length (c : UInt8) {i : Nat} (h : i ≤ 32) : (fillC c i).length = 32 := by simp [fillC]; omega
theorem fillC_set (c : UInt8) {i : Nat} (h : i < 32) : (arr8 (fillC c i)).setIfInBounds i (u8 c) = arr8 (fillC c (i + 1)) := by
  rw [arr8_set]
  congr 1
  unfold fillC
  rw [show 32 - i = 32 - (i + 1) + 1 by omega, List.replicate_succ (n := 32 - (i + 1)), List.set_append_right _ _ (by simp), List.length_replicate, Nat.sub_self, List.set_cons_zero, List.replicate_succ']
  simp
theorem bel_three : bel 3 = 2 := by decide
theorem root2 (a b : Dig) : rootR [a, b] = nodeD a b := by
  rw [rootR_split (show 2 ≤ [a, b].length from Nat.le_refl _)]
  show nodeD (rootR (List.take (bel 2) [a, b])) (rootR (List.drop (bel 2) [a, b])) = _
  rw [bel_two]; rfl
theorem root3' (a b c : Dig) : rootR [a, b, c] = nodeD (nodeD a b) c := by
  rw [rootR_split (show 2 ≤ [a, b, c].length from by simp)]
  show nodeD (rootR (List.take (bel 3) [a, b, c])) (rootR (List.drop (bel 3) [a, b, c])) = _
  rw [bel_three]
  show nodeD (rootR [a, b]) (rootR [c]) = _
  rw [root2, rootR_one]
theorem root3 (a b c : Dig) : rootV [a, b, c] = nodeD (nodeD a b) c := (rootV_ok (by simp)).trans (root3' a b c)
theorem path2 (a b : Dig) : pathR [a, b] 1 = [a] := by
  rw [pathR_right (show 2 ≤ [a, b].length from Nat.le_refl _) (by show ¬ 1 < bel 2; rw [bel_two]; decide)]
  show pathR (List.drop (bel 2) [a, b]) (1 - bel 2) ++ [rootR (List.take (bel 2) [a, b])] = _
  rw [bel_two, pathR_small (by simp)]; rfl
theorem path31 (a b c : Dig) : pathV [a, b, c] 1 = [a, c] := by
  rw [pathV_ok (by simp) (by simp)]
  show pathR [a, b, c] 1 = _
  rw [pathR_left (show 2 ≤ [a, b, c].length from by simp) (by show 1 < bel 3; rw [bel_three]; decide)]
  show pathR (List.take (bel 3) [a, b, c]) 1 ++ [rootR (List.drop (bel 3) [a, b, c])] = _
  rw [bel_three]
  show pathR [a, b] 1 ++ [rootR [c]] = _
  rw [path2, rootR_one]; rfl
theorem path32 (a b c : Dig) : pathV [a, b, c] 2 = [nodeD a b] := by
  rw [pathV_ok (by simp) (by simp)]
  show pathR [a, b, c] 2 = _
  rw [pathR_right (show 2 ≤ [a, b, c].length from by simp) (by show ¬ 2 < bel 3; rw [bel_three]; decide)]
  show pathR (List.drop (bel 3) [a, b, c]) (2 - bel 3) ++ [rootR (List.take (bel 3) [a, b, c])] = _
  rw [bel_three, pathR_small (by simp)]
  show [] ++ [rootR [a, b]] = _
  rw [root2]; rfl
theorem pathV_le (ds : List Dig) (i : Int) : (pathV ds i).length ≤ ds.length := by
  unfold pathV
  split
  · exact Nat.zero_le _
  · split
    · exact Nat.zero_le _
    · exact path_le' _ _
theorem fl_over {ds : List Dig} {n : Nat} {c : Dig} (h : n < ds.length) : (fl ds).take (n * 32) ++ c.1.map u8 ++ (fl ds).drop (n * 32 + 32) = fl (ds.set n c) := by
  rw [List.set_eq_take_append_cons_drop, if_pos h, fl_take, show n * 32 + 32 = (n + 1) * 32 by omega, fl_drop, fl_append, fl_cons, List.append_assoc]
theorem Row.setD {ds : List Dig} {n : Nat} {q : Row} (c : Dig) (h : Row.ok 32 ds.length (fl ds) (some q)) (hn : n < ds.length) : Row.ok 32 (ds.set n c).length (fl (ds.set n c)) (some { q with cs := over q.cs (n * 32) (Value.agg (arr8 c.1)).cells.toList }) := by
  obtain ⟨h1, h2, h3, h4, h5⟩ := h
  have hc : (Value.agg (arr8 c.1)).cells.toList = c.1.map u8 := by simp [Value.cells, arr8]
  have hcl : (c.1.map u8).length = 32 := by rw [List.length_map, c.2]
  rw [hc]
  have hsz : (over q.cs (n * 32) (c.1.map u8)).size = q.cs.size := by
    simp only [over, List.size_toArray, List.length_append, List.length_take, List.length_drop, Array.length_toList, hcl]
    omega
  refine ⟨by rw [fl_length], by rw [List.length_set]; exact h2, h3, hsz.trans h4, ?_⟩
  rw [List.length_set, ← fl_over hn, ← h5]
  simp only [over, hcl]
  have e1 : ds.length * 32 = n * 32 + 32 + (ds.length * 32 - (n * 32 + 32)) := by omega
  rw [List.take_append, List.take_of_length_le (by simp [hcl]; omega), List.take_take, Nat.min_eq_left (by omega), List.drop_take]
  congr 2
  simp only [List.length_append, List.length_take, Array.length_toList, hcl]
  omega
section
variable {c : Cx} {σ : Slots} {H : Blocks} {ty : TypeId} {pos : String} {af : Array Edge} {gd : Option (Nat × Bool)} {dst : Option Nat}
theorem Ev.idxS0n {T e : TypeId} {x y : Operand} {ik : IntKind} {g len cap k s : Nat} {i : Int} (hx : ev σ x = some (.slice (some ⟨g, 0, none⟩) len cap)) (hy : ev σ y = some (.int ik i)) (hu : c.P.underlying T = some (.slice e)) (hs : ∀ w, (sizeOf e).run c.P w = .ok s w)
    (hi : i = (k : Int)) (hk : k < len) : Ev c σ H ⟨dst, .indexAddr T x y, ty, pos, af, gd⟩ (.pointer (some ⟨g, k * s, none⟩)) := by
  have h := Ev.idxS (c := c) (σ := σ) (H := H) (ty := ty) (pos := pos) (af := af) (gd := gd) (dst := dst) hx hy hu hs hi hk
  rwa [add_lit, Nat.zero_add] at h
end

theorem one_any (c : UInt8) (w : World) :
    Calls Tryd.prog 26 #[u8 c] w (Ret w (fun v _ => v = .agg (arr8 (oneD c).1))) := by
  refine enter (vs := [u8 c]) Tryd.func26 rfl Tryd.ntmps26 rfl ?_
  refine JC.seq ?_
  refine JC.region ?_
  refine JL.new rfl rfl rfl (.none rfl) (En.allocZ (cs := arr8 (List.replicate 32 0)) Tryd.zeroValue22 rfl) (fun b2 hb2 => ?_)
  refine JL.nil ?_
  refine JQ.thenN ?_
  refine JC.seq ?_
  refine JC.region ?_
  refine JL.new rfl rfl rfl (.none rfl) (En.allocZ (cs := arr8 (List.replicate 32 0)) Tryd.zeroValue22 rfl) (fun b3 hb3 => ?_)
  refine JL.nil ?_
  refine JQ.thenN ?_
  refine JC.seq ?_
  refine JC.seq ?_
  refine JC.region ?_
  refine JL.asg ?_
  refine JL.nil ?_
  refine JQ.thenN ?_
  refine JC.block ?_
  refine JC.loop (X := Nat)
    (fun i => [(0, u8 c), (2, .pointer (some ⟨b2, 0, none⟩)), (3, .pointer (some ⟨b3, 0, none⟩)), (4, .int .i64 (i : Int))])
    (fun i => [(b3, Obj.cells (arr8 (fillC c i)) 22 (0, 0)), (b2, Obj.cells (arr8 (List.replicate 32 0)) 22 (0, 0))])
    (fun i => i ≤ 32)
    (fun i => 32 - i) 0 ?_ ?_ ?_ ?_
  · exact Keeps.k
  · exact Sub.k
  · exact Nat.zero_le _
  rintro i hi
  refine JC.seq ?_
  refine JC.seq ?_
  refine JC.region ?_
  refine JL.mv ?_
  refine JL.val rfl rfl rfl (.none rfl) (Ev.bin rfl rfl lss_int) ?_
  refine JL.nil ?_
  refine JQ.thenN ?_
  refine JC.cond rfl (fun hc1 => ?_) (fun hc1 => ?_)
  · -- t6 True
    replace hc1 := of_decide_eq_true hc1
    refine JC.skip ?_
    refine JQ.thenN ?_
    refine JC.seq ?_
    refine JC.block ?_
    refine JC.region ?_
    refine JL.mv ?_
    refine JL.mv ?_
    refine JL.val rfl rfl rfl (.none rfl) (Ev.idxB1 rfl rfl Tryd.underlying22 Tryd.sizeOf5 (k := i) rfl (by omega)) ?_
    refine JL.sto rfl rfl (.none rfl) (Es.store1 rfl rfl Tryd.sizeOf5 rfl rfl Upd.k (by rw [arr8_size, fillC_length _ (by omega)]; omega)) ?_
    refine JL.reH .here (congrArg (fun x => Obj.cells x 22 (0, 0)) (fillC_set c (i := i) (by omega))) ?_
    refine JL.nil ?_
    refine JQ.blockN ?_
    refine JQ.thenN ?_
    refine JC.region ?_
    refine JL.mv ?_
    refine JL.val rfl rfl rfl (.none rfl) (Ev.bin rfl rfl (add_i64 (by omega))) ?_
    refine JL.asg ?_
    refine JL.nil ?_
    refine JQ.loopN (i + 1) ?_ ?_ ?_ ?_
    · exact Keeps.k
    · exact Sub.k
    · omega
    · omega
  · -- t6 False
    replace hc1 := of_decide_eq_false hc1
    refine JC.exit ?_
    refine JQ.thenE ?_
    refine JQ.thenE ?_
    refine JQ.blockE ?_
    refine JQ.thenN ?_
    refine JC.seq ?_
    refine JC.region ?_
    obtain rfl : i = 32 := by omega
    refine JL.val rfl rfl rfl (.none rfl) (Ev.lB Tryd.underlying22 Tryd.sizeOf22) ?_
    refine JL.sto rfl rfl (.none rfl) (Es.sA Tryd.sizeOf22) ?_
    refine JL.nil ?_
    refine JQ.thenN ?_
    refine JC.ret ?_
    refine JQ.end1 (H' := []) (.inl rfl) rfl (.agg rfl memK Tryd.underlying22 rfl Tryd.sizeOf22 (by rw [arr8_size]; rfl)) ?_ ?_
    · exact Sub.k
    · rfl

theorem three_any (w : World) :
    Calls Tryd.prog 27 #[] w (Ret w (fun v H => ∃ b, v = .slice (some ⟨b, 0, none⟩) 3 3 ∧ H = [(b, Obj.cells (fl [oneD 1, oneD 2, oneD 3]).toArray 22 (0, 0))])) := by
  refine enter (vs := []) Tryd.func27 rfl Tryd.ntmps27 rfl ?_
  refine JC.seq ?_
  refine JC.region ?_
  refine JL.asg ?_
  refine JL.nil ?_
  refine JQ.thenN ?_
  refine JC.seq ?_
  refine JC.region ?_
  refine JL.callV rfl (.none rfl) rfl Tryd.call26 (fun w1 hw1 => one_any 1 w1) ?_
  refine JL.callV rfl (.none rfl) rfl Tryd.call26 (fun w1 hw1 => one_any 2 w1) ?_
  refine JL.callV rfl (.none rfl) rfl Tryd.call26 (fun w1 hw1 => one_any 3 w1) ?_
  refine JL.new rfl rfl rfl (.none rfl) (En.bsD (e := 22) (ds := [oneD 1, oneD 2, oneD 3]) rfl rfl Tryd.underlying23 Tryd.sizeOf22 Tryd.zeroValue22 (by decide) (by decide)) (fun b4 hb4 => ?_)
  refine JL.asg ?_
  refine JL.nil ?_
  refine JQ.thenN ?_
  refine JC.ret ?_
  refine JQ.end1 (H' := [(b4, Obj.cells (fl [oneD 1, oneD 2, oneD 3]).toArray 22 (0, 0))]) (.inl rfl) rfl (.tmp rfl) ?_ ?_
  · exact Sub.k
  · exact ⟨b4, rfl, rfl⟩

theorem alive_any (w : World) (hk : KMem 1 w) (hf : FMem 0 w) :
    Calls Tryd.prog 22 #[] w (Ret w (fun v _ => v = .bool true)) := by
  refine enter (vs := []) Tryd.func22 rfl Tryd.ntmps22 rfl ?_
  refine JC.seq ?_
  refine JC.region ?_
  refine JL.asg ?_
  refine JL.nil ?_
  refine JQ.thenN ?_
  refine JC.seq ?_
  refine JC.region ?_
  refine JL.callN rfl (.none rfl) rfl Tryd.call27 (fun w1 hw1 => three_any w1) ?_
  rintro _ _ ⟨bt1, rfl, rfl⟩
  refine JL.callV rfl (.none rfl) rfl Tryd.call17 (fun w1 hw1 => Root_any (some ⟨bt1, 0, none⟩) 3 [oneD 1, oneD 2, oneD 3] w1 (cs_block (xs := fl ([oneD 1, oneD 2, oneD 3])) hw1 (by repeat (first | exact List.Mem.head _ | refine List.Mem.tail _ ?_ | refine List.mem_append_right _ ?_)) (by decide)) (by decide) (hk.old hw1) (hf.old hw1)) ?_
  refine JL.mv ?_
  refine JL.val rfl rfl rfl (.none rfl) (Ev.ex0 rfl) ?_
  refine JL.val rfl rfl rfl (.none rfl) (Ev.ex1 rfl) ?_
  refine JL.new rfl rfl rfl (.none rfl) (En.allocZ (cs := arr8 (List.replicate 32 0)) Tryd.zeroValue22 rfl) (fun b1 hb1 => ?_)
  refine JL.sto rfl rfl (.none rfl) (Es.sA Tryd.sizeOf22) ?_
  refine JL.asg ?_
  refine JL.nil ?_
  refine JQ.thenN ?_
  refine JC.seq ?_
  refine JC.region ?_
  refine JL.callN rfl (.none rfl) rfl Tryd.call27 (fun w1 hw1 => three_any w1) ?_
  rintro _ _ ⟨bt2, rfl, rfl⟩
  refine JL.callN rfl (.none rfl) rfl Tryd.call19 (fun w1 hw1 => Path_any (some ⟨bt2, 0, none⟩) 3 [oneD 1, oneD 2, oneD 3] 1 (by decide) w1 (cs_block (xs := fl ([oneD 1, oneD 2, oneD 3])) hw1 (by repeat (first | exact List.Mem.head _ | refine List.Mem.tail _ ?_ | refine List.mem_append_right _ ?_)) (by decide)) (by decide) (hk.old hw1) (hf.old hw1)) ?_
  rintro _ _ ⟨r2, rfl, rfl, hr2⟩
  refine JL.mv ?_
  refine JL.val rfl rfl rfl (.none rfl) (Ev.ex0 rfl) ?_
  refine JL.val rfl rfl rfl (.none rfl) (Ev.ex1 rfl) ?_
  refine JL.asg ?_
  refine JL.asg ?_
  refine JL.nil ?_
  refine JQ.thenN ?_
  refine JC.seq ?_
  refine JC.region ?_
  refine JL.callN rfl (.none rfl) rfl Tryd.call27 (fun w1 hw1 => three_any w1) ?_
  rintro _ _ ⟨bt3, rfl, rfl⟩
  refine JL.callN rfl (.none rfl) rfl Tryd.call19 (fun w1 hw1 => Path_any (some ⟨bt3, 0, none⟩) 3 [oneD 1, oneD 2, oneD 3] 2 (by decide) w1 (cs_block (xs := fl ([oneD 1, oneD 2, oneD 3])) hw1 (by repeat (first | exact List.Mem.head _ | refine List.Mem.tail _ ?_ | refine List.mem_append_right _ ?_)) (by decide)) (by decide) (hk.old hw1) (hf.old hw1)) ?_
  rintro _ _ ⟨r3, rfl, rfl, hr3⟩
  refine JL.mv ?_
  refine JL.val rfl rfl rfl (.none rfl) (Ev.ex0 rfl) ?_
  refine JL.val rfl rfl rfl (.none rfl) (Ev.ex1 rfl) ?_
  refine JL.asg ?_
  refine JL.asg ?_
  refine JL.nil ?_
  refine JQ.thenN ?_
  refine JC.seq ?_
  refine JC.region ?_
  refine JL.callV rfl (.none rfl) rfl Tryd.call26 (fun w1 hw1 => one_any 1 w1) ?_
  refine JL.callV rfl (.none rfl) rfl Tryd.call26 (fun w1 hw1 => one_any 2 w1) ?_
  refine JL.callV rfl (.none rfl) rfl Tryd.call23 (fun w1 hw1 => nodeG_any _ _ w1 (hk.old hw1) (hf.old hw1)) ?_
  refine JL.new rfl rfl rfl (.none rfl) (En.allocZ (cs := arr8 (List.replicate 32 0)) Tryd.zeroValue22 rfl) (fun b7 hb7 => ?_)
  refine JL.sto rfl rfl (.none rfl) (Es.sA Tryd.sizeOf22) ?_
  refine JL.nil ?_
  refine JQ.thenN ?_
  refine JC.seq ?_
  obtain ⟨o2, c2, e2, _, hC2⟩ := Row.vw (e := 22) hr2
  refine JC.re (d := 3) rfl e2 ?_
  obtain ⟨o3, c3, e3, _, hC3⟩ := Row.vw (e := 22) hr3
  refine JC.re (d := 5) rfl e3 ?_
  refine JC.re (d := 2) (v' := .int .i64 0) rfl (congrArg (Value.int .i64) (rfl)) ?_
  refine JC.re (d := 4) (v' := .int .i64 0) rfl (congrArg (Value.int .i64) (rfl)) ?_
  refine JC.re (d := 6) (v' := .int .i64 0) rfl (congrArg (Value.int .i64) (rfl)) ?_
  refine JC.reH (b := b1) (o' := Obj.cells (arr8 (nodeD (nodeD (oneD 1) (oneD 2)) (oneD 3)).1) 22 (0, 0)) Upd.k (congrArg (fun x : Dig => Obj.cells (arr8 x.1) 22 (0, 0)) (root3 _ _ _)) ?_
  refine JC.regionA (by kernel_rfl) ?_
  refine JA.tk 0 rfl (.none rfl) (fun _ => (Ev.move rfl)) ?_
  refine JA.tk 1 rfl (.none rfl) (fun _ => (Ev.bin rfl rfl eql_int)) ?_
  refine JA.tk 2 rfl (.none rfl) (fun _ => (Ev.move rfl)) ?_
  refine JA.know (d := 28) (b := true) rfl ?_ ?_
  · rfl
  refine JA.branch [3, 4, 5] (by kernel_rfl) rfl ?_
  refine JAll.cons rfl ?_ ?_
  · -- 3
    refine JO.val rfl rfl rfl (.yes rfl rfl rfl) (Ev.lB Tryd.underlying22 Tryd.sizeOf22) ?_
    refine JA.branch [4, 5] (by kernel_rfl) rfl ?_
    refine JAll.cons rfl ?_ ?_
    · -- 4
      refine JO.val rfl rfl rfl (.yes rfl rfl rfl) (Ev.lB Tryd.underlying22 Tryd.sizeOf22) ?_
      refine JA.one 5 ?_
      refine JO.callV rfl (.yes rfl rfl rfl) rfl Tryd.call26 (fun w1 hw1 => one_any 3 w1) ?_
      refine JA.one 6 ?_
      refine JO.callV rfl (.yes rfl rfl rfl) rfl Tryd.call23 (fun w1 hw1 => nodeG_any _ _ w1 (hk.old hw1) (hf.old hw1)) ?_
      refine JA.tk 7 rfl (.yes rfl rfl rfl) (fun _ => (Ev.bin rfl rfl (eql_arr8 (n := 32) Tryd.underlying22 Tryd.underlying5 (by kernel_rfl) (by kernel_rfl) (by first | rfl | exact dig_len _ | assumption | exact sha_length _ | exact shaO_length _) (by first | rfl | exact dig_len _ | assumption | exact sha_length _ | exact shaO_length _)))) ?_
      refine JA.tk 8 rfl (.none rfl) (fun _ => (Ev.pickT rfl rfl)) ?_
      refine JA.tk 9 rfl (.none rfl) (fun _ => (Ev.move rfl)) ?_
      refine JA.know (d := 35) (b := true) rfl ?_ ?_
      · exact decide_eq_true rfl
      refine JA.tk 10 rfl (.yes rfl rfl rfl) (fun _ => (Ev.move rfl)) ?_
      refine JA.tk 11 rfl (.yes rfl rfl rfl) (fun _ => (Ev.bin rfl rfl eql_int)) ?_
      refine JA.tk 12 rfl (.none rfl) (fun _ => (Ev.pickT rfl rfl)) ?_
      refine JA.tk 13 rfl (.none rfl) (fun _ => (Ev.move rfl)) ?_
      refine JA.know (d := 39) (b := true) rfl ?_ ?_
      · rfl
      refine JA.tk 14 rfl (.yes rfl rfl rfl) (fun _ => (Ev.move rfl)) ?_
      refine JA.one 15 ?_
      refine JO.callV rfl (.yes rfl rfl rfl) rfl Tryd.call26 (fun w1 hw1 => one_any 1 w1) ?_
      refine JA.one 16 ?_
      refine JO.callV rfl (.yes rfl rfl rfl) rfl Tryd.call26 (fun w1 hw1 => one_any 3 w1) ?_
      refine JA.one 17 ?_
      refine JO.new rfl rfl rfl (.yes rfl rfl rfl) (En.bsD (e := 22) (ds := [oneD 1, oneD 3]) rfl rfl Tryd.underlying23 Tryd.sizeOf22 Tryd.zeroValue22 (by decide) (by decide)) (fun b43 hb43 => ?_)
      refine JA.one 18 ?_
      refine JO.callV rfl (.yes rfl rfl rfl) rfl Tryd.call21 (fun w1 hw1 => dSame_any o2 (some ⟨b43, 0, none⟩) c2 2 (pathV [oneD 1, oneD 2, oneD 3] 1) [oneD 1, oneD 3] w1 (hC2 w1 hw1 (fun p hp => by simp [hp])) (cs_block (xs := fl ([oneD 1, oneD 3])) hw1 (by repeat (first | exact List.Mem.head _ | refine List.Mem.tail _ ?_ | refine List.mem_append_right _ ?_)) (by decide)) (Nat.le_trans (pathV_le _ _) (by decide))) ?_
      refine JA.tk 19 rfl (.none rfl) (fun _ => (Ev.pickT rfl rfl)) ?_
      refine JA.tk 20 rfl (.none rfl) (fun _ => (Ev.move rfl)) ?_
      refine JA.know (d := 46) (b := true) rfl ?_ ?_
      · exact decide_eq_true (path31 _ _ _)
      refine JA.tk 21 rfl (.yes rfl rfl rfl) (fun _ => (Ev.move rfl)) ?_
      refine JA.tk 22 rfl (.yes rfl rfl rfl) (fun _ => (Ev.bin rfl rfl eql_int)) ?_
      refine JA.tk 23 rfl (.none rfl) (fun _ => (Ev.pickT rfl rfl)) ?_
      refine JA.tk 24 rfl (.none rfl) (fun _ => (Ev.move rfl)) ?_
      refine JA.know (d := 50) (b := true) rfl ?_ ?_
      · rfl
      refine JA.tk 25 rfl (.yes rfl rfl rfl) (fun _ => (Ev.move rfl)) ?_
      refine JA.one 26 ?_
      refine JO.val rfl rfl rfl (.yes rfl rfl rfl) (Ev.lB Tryd.underlying22 Tryd.sizeOf22) ?_
      refine JA.one 27 ?_
      refine JO.new rfl rfl rfl (.yes rfl rfl rfl) (En.bs1D (e := 22) rfl Tryd.underlying23 Tryd.sizeOf22 Tryd.zeroValue22) (fun b53 hb53 => ?_)
      refine JA.one 28 ?_
      refine JO.callV rfl (.yes rfl rfl rfl) rfl Tryd.call21 (fun w1 hw1 => dSame_any o3 (some ⟨b53, 0, none⟩) c3 1 (pathV [oneD 1, oneD 2, oneD 3] 2) [(nodeD (oneD 1) (oneD 2))] w1 (hC3 w1 hw1 (fun p hp => by simp [hp])) (cs_block (xs := fl ([(nodeD (oneD 1) (oneD 2))])) hw1 (by repeat (first | exact List.Mem.head _ | refine List.Mem.tail _ ?_ | refine List.mem_append_right _ ?_)) (by decide)) (Nat.le_trans (pathV_le _ _) (by decide))) ?_
      refine JA.tk 29 rfl (.none rfl) (fun _ => (Ev.pickT rfl rfl)) ?_
      refine JA.tk 30 rfl (.none rfl) (fun _ => (Ev.assign rfl)) ?_
      refine JA.done (by kernel_rfl) ?_
      refine JQ.thenN ?_
      refine JC.ret ?_
      refine JQ.end1 (H' := []) (.inl rfl) rfl (.tmp rfl) ?_ ?_
      · exact Sub.k
      · exact congrArg Value.bool (decide_eq_true (path32 _ _ _))
    refine JAll.cons rfl ?_ JAll.nil
    refine JO.callV rfl (.yes rfl rfl rfl) rfl Tryd.call26 (fun w1 hw1 => one_any 3 w1) ?_
    refine JA.one 4 ?_
    refine JO.val rfl rfl rfl (.yes rfl rfl rfl) (Ev.lB Tryd.underlying22 Tryd.sizeOf22) ?_
    refine JA.one 6 ?_
    refine JO.callV rfl (.yes rfl rfl rfl) rfl Tryd.call23 (fun w1 hw1 => nodeG_any _ _ w1 (hk.old hw1) (hf.old hw1)) ?_
    refine JA.tk 7 rfl (.yes rfl rfl rfl) (fun _ => (Ev.bin rfl rfl (eql_arr8 (n := 32) Tryd.underlying22 Tryd.underlying5 (by kernel_rfl) (by kernel_rfl) (by first | rfl | exact dig_len _ | assumption | exact sha_length _ | exact shaO_length _) (by first | rfl | exact dig_len _ | assumption | exact sha_length _ | exact shaO_length _)))) ?_
    refine JA.tk 8 rfl (.none rfl) (fun _ => (Ev.pickT rfl rfl)) ?_
    refine JA.tk 9 rfl (.none rfl) (fun _ => (Ev.move rfl)) ?_
    refine JA.know (d := 35) (b := true) rfl ?_ ?_
    · exact decide_eq_true rfl
    refine JA.tk 10 rfl (.yes rfl rfl rfl) (fun _ => (Ev.move rfl)) ?_
    refine JA.tk 11 rfl (.yes rfl rfl rfl) (fun _ => (Ev.bin rfl rfl eql_int)) ?_
    refine JA.tk 12 rfl (.none rfl) (fun _ => (Ev.pickT rfl rfl)) ?_
    refine JA.tk 13 rfl (.none rfl) (fun _ => (Ev.move rfl)) ?_
    refine JA.know (d := 39) (b := true) rfl ?_ ?_
    · rfl
    refine JA.tk 14 rfl (.yes rfl rfl rfl) (fun _ => (Ev.move rfl)) ?_
    refine JA.one 15 ?_
    refine JO.callV rfl (.yes rfl rfl rfl) rfl Tryd.call26 (fun w1 hw1 => one_any 1 w1) ?_
    refine JA.one 16 ?_
    refine JO.callV rfl (.yes rfl rfl rfl) rfl Tryd.call26 (fun w1 hw1 => one_any 3 w1) ?_
    refine JA.one 17 ?_
    refine JO.new rfl rfl rfl (.yes rfl rfl rfl) (En.bsD (e := 22) (ds := [oneD 1, oneD 3]) rfl rfl Tryd.underlying23 Tryd.sizeOf22 Tryd.zeroValue22 (by decide) (by decide)) (fun b43 hb43 => ?_)
    refine JA.one 18 ?_
    refine JO.callV rfl (.yes rfl rfl rfl) rfl Tryd.call21 (fun w1 hw1 => dSame_any o2 (some ⟨b43, 0, none⟩) c2 2 (pathV [oneD 1, oneD 2, oneD 3] 1) [oneD 1, oneD 3] w1 (hC2 w1 hw1 (fun p hp => by simp [hp])) (cs_block (xs := fl ([oneD 1, oneD 3])) hw1 (by repeat (first | exact List.Mem.head _ | refine List.Mem.tail _ ?_ | refine List.mem_append_right _ ?_)) (by decide)) (Nat.le_trans (pathV_le _ _) (by decide))) ?_
    refine JA.tk 19 rfl (.none rfl) (fun _ => (Ev.pickT rfl rfl)) ?_
    refine JA.tk 20 rfl (.none rfl) (fun _ => (Ev.move rfl)) ?_
    refine JA.know (d := 46) (b := true) rfl ?_ ?_
    · exact decide_eq_true (path31 _ _ _)
    refine JA.tk 21 rfl (.yes rfl rfl rfl) (fun _ => (Ev.move rfl)) ?_
    refine JA.tk 22 rfl (.yes rfl rfl rfl) (fun _ => (Ev.bin rfl rfl eql_int)) ?_
    refine JA.tk 23 rfl (.none rfl) (fun _ => (Ev.pickT rfl rfl)) ?_
    refine JA.tk 24 rfl (.none rfl) (fun _ => (Ev.move rfl)) ?_
    refine JA.know (d := 50) (b := true) rfl ?_ ?_
    · rfl
    refine JA.tk 25 rfl (.yes rfl rfl rfl) (fun _ => (Ev.move rfl)) ?_
    refine JA.one 26 ?_
    refine JO.val rfl rfl rfl (.yes rfl rfl rfl) (Ev.lB Tryd.underlying22 Tryd.sizeOf22) ?_
    refine JA.one 27 ?_
    refine JO.new rfl rfl rfl (.yes rfl rfl rfl) (En.bs1D (e := 22) rfl Tryd.underlying23 Tryd.sizeOf22 Tryd.zeroValue22) (fun b53 hb53 => ?_)
    refine JA.one 28 ?_
    refine JO.callV rfl (.yes rfl rfl rfl) rfl Tryd.call21 (fun w1 hw1 => dSame_any o3 (some ⟨b53, 0, none⟩) c3 1 (pathV [oneD 1, oneD 2, oneD 3] 2) [(nodeD (oneD 1) (oneD 2))] w1 (hC3 w1 hw1 (fun p hp => by simp [hp])) (cs_block (xs := fl ([(nodeD (oneD 1) (oneD 2))])) hw1 (by repeat (first | exact List.Mem.head _ | refine List.Mem.tail _ ?_ | refine List.mem_append_right _ ?_)) (by decide)) (Nat.le_trans (pathV_le _ _) (by decide))) ?_
    refine JA.tk 29 rfl (.none rfl) (fun _ => (Ev.pickT rfl rfl)) ?_
    refine JA.tk 30 rfl (.none rfl) (fun _ => (Ev.assign rfl)) ?_
    refine JA.done (by kernel_rfl) ?_
    refine JQ.thenN ?_
    refine JC.ret ?_
    refine JQ.end1 (H' := []) (.inl rfl) rfl (.tmp rfl) ?_ ?_
    · exact Sub.k
    · exact congrArg Value.bool (decide_eq_true (path32 _ _ _))
  refine JAll.cons rfl ?_ ?_
  · -- 4
    refine JO.val rfl rfl rfl (.yes rfl rfl rfl) (Ev.lB Tryd.underlying22 Tryd.sizeOf22) ?_
    refine JA.branch [3, 5] (by kernel_rfl) rfl ?_
    refine JAll.cons rfl ?_ ?_
    · -- 3
      refine JO.val rfl rfl rfl (.yes rfl rfl rfl) (Ev.lB Tryd.underlying22 Tryd.sizeOf22) ?_
      refine JA.one 5 ?_
      refine JO.callV rfl (.yes rfl rfl rfl) rfl Tryd.call26 (fun w1 hw1 => one_any 3 w1) ?_
      refine JA.one 6 ?_
      refine JO.callV rfl (.yes rfl rfl rfl) rfl Tryd.call23 (fun w1 hw1 => nodeG_any _ _ w1 (hk.old hw1) (hf.old hw1)) ?_
      refine JA.tk 7 rfl (.yes rfl rfl rfl) (fun _ => (Ev.bin rfl rfl (eql_arr8 (n := 32) Tryd.underlying22 Tryd.underlying5 (by kernel_rfl) (by kernel_rfl) (by first | rfl | exact dig_len _ | assumption | exact sha_length _ | exact shaO_length _) (by first | rfl | exact dig_len _ | assumption | exact sha_length _ | exact shaO_length _)))) ?_
      refine JA.tk 8 rfl (.none rfl) (fun _ => (Ev.pickT rfl rfl)) ?_
      refine JA.tk 9 rfl (.none rfl) (fun _ => (Ev.move rfl)) ?_
      refine JA.know (d := 35) (b := true) rfl ?_ ?_
      · exact decide_eq_true rfl
      refine JA.tk 10 rfl (.yes rfl rfl rfl) (fun _ => (Ev.move rfl)) ?_
      refine JA.tk 11 rfl (.yes rfl rfl rfl) (fun _ => (Ev.bin rfl rfl eql_int)) ?_
      refine JA.tk 12 rfl (.none rfl) (fun _ => (Ev.pickT rfl rfl)) ?_
      refine JA.tk 13 rfl (.none rfl) (fun _ => (Ev.move rfl)) ?_
      refine JA.know (d := 39) (b := true) rfl ?_ ?_
      · rfl
      refine JA.tk 14 rfl (.yes rfl rfl rfl) (fun _ => (Ev.move rfl)) ?_
      refine JA.one 15 ?_
      refine JO.callV rfl (.yes rfl rfl rfl) rfl Tryd.call26 (fun w1 hw1 => one_any 1 w1) ?_
      refine JA.one 16 ?_
      refine JO.callV rfl (.yes rfl rfl rfl) rfl Tryd.call26 (fun w1 hw1 => one_any 3 w1) ?_
      refine JA.one 17 ?_
      refine JO.new rfl rfl rfl (.yes rfl rfl rfl) (En.bsD (e := 22) (ds := [oneD 1, oneD 3]) rfl rfl Tryd.underlying23 Tryd.sizeOf22 Tryd.zeroValue22 (by decide) (by decide)) (fun b43 hb43 => ?_)
      refine JA.one 18 ?_
      refine JO.callV rfl (.yes rfl rfl rfl) rfl Tryd.call21 (fun w1 hw1 => dSame_any o2 (some ⟨b43, 0, none⟩) c2 2 (pathV [oneD 1, oneD 2, oneD 3] 1) [oneD 1, oneD 3] w1 (hC2 w1 hw1 (fun p hp => by simp [hp])) (cs_block (xs := fl ([oneD 1, oneD 3])) hw1 (by repeat (first | exact List.Mem.head _ | refine List.Mem.tail _ ?_ | refine List.mem_append_right _ ?_)) (by decide)) (Nat.le_trans (pathV_le _ _) (by decide))) ?_
      refine JA.tk 19 rfl (.none rfl) (fun _ => (Ev.pickT rfl rfl)) ?_
      refine JA.tk 20 rfl (.none rfl) (fun _ => (Ev.move rfl)) ?_
      refine JA.know (d := 46) (b := true) rfl ?_ ?_
      · exact decide_eq_true (path31 _ _ _)
      refine JA.tk 21 rfl (.yes rfl rfl rfl) (fun _ => (Ev.move rfl)) ?_
      refine JA.tk 22 rfl (.yes rfl rfl rfl) (fun _ => (Ev.bin rfl rfl eql_int)) ?_
      refine JA.tk 23 rfl (.none rfl) (fun _ => (Ev.pickT rfl rfl)) ?_
      refine JA.tk 24 rfl (.none rfl) (fun _ => (Ev.move rfl)) ?_
      refine JA.know (d := 50) (b := true) rfl ?_ ?_
      · rfl
      refine JA.tk 25 rfl (.yes rfl rfl rfl) (fun _ => (Ev.move rfl)) ?_
      refine JA.one 26 ?_
      refine JO.val rfl rfl rfl (.yes rfl rfl rfl) (Ev.lB Tryd.underlying22 Tryd.sizeOf22) ?_
      refine JA.one 27 ?_
      refine JO.new rfl rfl rfl (.yes rfl rfl rfl) (En.bs1D (e := 22) rfl Tryd.underlying23 Tryd.sizeOf22 Tryd.zeroValue22) (fun b53 hb53 => ?_)
      refine JA.one 28 ?_
      refine JO.callV rfl (.yes rfl rfl rfl) rfl Tryd.call21 (fun w1 hw1 => dSame_any o3 (some ⟨b53, 0, none⟩) c3 1 (pathV [oneD 1, oneD 2, oneD 3] 2) [(nodeD (oneD 1) (oneD 2))] w1 (hC3 w1 hw1 (fun p hp => by simp [hp])) (cs_block (xs := fl ([(nodeD (oneD 1) (oneD 2))])) hw1 (by repeat (first | exact List.Mem.head _ | refine List.Mem.tail _ ?_ | refine List.mem_append_right _ ?_)) (by decide)) (Nat.le_trans (pathV_le _ _) (by decide))) ?_
      refine JA.tk 29 rfl (.none rfl) (fun _ => (Ev.pickT rfl rfl)) ?_
      refine JA.tk 30 rfl (.none rfl) (fun _ => (Ev.assign rfl)) ?_
      refine JA.done (by kernel_rfl) ?_
      refine JQ.thenN ?_
      refine JC.ret ?_
      refine JQ.end1 (H' := []) (.inl rfl) rfl (.tmp rfl) ?_ ?_
      · exact Sub.k
      · exact congrArg Value.bool (decide_eq_true (path32 _ _ _))
    refine JAll.cons rfl ?_ JAll.nil
    refine JO.callV rfl (.yes rfl rfl rfl) rfl Tryd.call26 (fun w1 hw1 => one_any 3 w1) ?_
    refine JA.branch [3, 6] (by kernel_rfl) rfl ?_
    refine JAll.cons rfl ?_ ?_
    · -- 3
      refine JO.val rfl rfl rfl (.yes rfl rfl rfl) (Ev.lB Tryd.underlying22 Tryd.sizeOf22) ?_
      refine JA.one 6 ?_
      refine JO.callV rfl (.yes rfl rfl rfl) rfl Tryd.call23 (fun w1 hw1 => nodeG_any _ _ w1 (hk.old hw1) (hf.old hw1)) ?_
      refine JA.tk 7 rfl (.yes rfl rfl rfl) (fun _ => (Ev.bin rfl rfl (eql_arr8 (n := 32) Tryd.underlying22 Tryd.underlying5 (by kernel_rfl) (by kernel_rfl) (by first | rfl | exact dig_len _ | assumption | exact sha_length _ | exact shaO_length _) (by first | rfl | exact dig_len _ | assumption | exact sha_length _ | exact shaO_length _)))) ?_
      refine JA.tk 8 rfl (.none rfl) (fun _ => (Ev.pickT rfl rfl)) ?_
      refine JA.tk 9 rfl (.none rfl) (fun _ => (Ev.move rfl)) ?_
      refine JA.know (d := 35) (b := true) rfl ?_ ?_
      · exact decide_eq_true rfl
      refine JA.tk 10 rfl (.yes rfl rfl rfl) (fun _ => (Ev.move rfl)) ?_
      refine JA.tk 11 rfl (.yes rfl rfl rfl) (fun _ => (Ev.bin rfl rfl eql_int)) ?_
      refine JA.tk 12 rfl (.none rfl) (fun _ => (Ev.pickT rfl rfl)) ?_
      refine JA.tk 13 rfl (.none rfl) (fun _ => (Ev.move rfl)) ?_
      refine JA.know (d := 39) (b := true) rfl ?_ ?_
      · rfl
      refine JA.tk 14 rfl (.yes rfl rfl rfl) (fun _ => (Ev.move rfl)) ?_
      refine JA.one 15 ?_
      refine JO.callV rfl (.yes rfl rfl rfl) rfl Tryd.call26 (fun w1 hw1 => one_any 1 w1) ?_
      refine JA.one 16 ?_
      refine JO.callV rfl (.yes rfl rfl rfl) rfl Tryd.call26 (fun w1 hw1 => one_any 3 w1) ?_
      refine JA.one 17 ?_
      refine JO.new rfl rfl rfl (.yes rfl rfl rfl) (En.bsD (e := 22) (ds := [oneD 1, oneD 3]) rfl rfl Tryd.underlying23 Tryd.sizeOf22 Tryd.zeroValue22 (by decide) (by decide)) (fun b43 hb43 => ?_)
      refine JA.one 18 ?_
      refine JO.callV rfl (.yes rfl rfl rfl) rfl Tryd.call21 (fun w1 hw1 => dSame_any o2 (some ⟨b43, 0, none⟩) c2 2 (pathV [oneD 1, oneD 2, oneD 3] 1) [oneD 1, oneD 3] w1 (hC2 w1 hw1 (fun p hp => by simp [hp])) (cs_block (xs := fl ([oneD 1, oneD 3])) hw1 (by repeat (first | exact List.Mem.head _ | refine List.Mem.tail _ ?_ | refine List.mem_append_right _ ?_)) (by decide)) (Nat.le_trans (pathV_le _ _) (by decide))) ?_
      refine JA.tk 19 rfl (.none rfl) (fun _ => (Ev.pickT rfl rfl)) ?_
      refine JA.tk 20 rfl (.none rfl) (fun _ => (Ev.move rfl)) ?_
      refine JA.know (d := 46) (b := true) rfl ?_ ?_
      · exact decide_eq_true (path31 _ _ _)
      refine JA.tk 21 rfl (.yes rfl rfl rfl) (fun _ => (Ev.move rfl)) ?_
      refine JA.tk 22 rfl (.yes rfl rfl rfl) (fun _ => (Ev.bin rfl rfl eql_int)) ?_
      refine JA.tk 23 rfl (.none rfl) (fun _ => (Ev.pickT rfl rfl)) ?_
      refine JA.tk 24 rfl (.none rfl) (fun _ => (Ev.move rfl)) ?_
      refine JA.know (d := 50) (b := true) rfl ?_ ?_
      · rfl
      refine JA.tk 25 rfl (.yes rfl rfl rfl) (fun _ => (Ev.move rfl)) ?_
      refine JA.one 26 ?_
      refine JO.val rfl rfl rfl (.yes rfl rfl rfl) (Ev.lB Tryd.underlying22 Tryd.sizeOf22) ?_
      refine JA.one 27 ?_
      refine JO.new rfl rfl rfl (.yes rfl rfl rfl) (En.bs1D (e := 22) rfl Tryd.underlying23 Tryd.sizeOf22 Tryd.zeroValue22) (fun b53 hb53 => ?_)
      refine JA.one 28 ?_
      refine JO.callV rfl (.yes rfl rfl rfl) rfl Tryd.call21 (fun w1 hw1 => dSame_any o3 (some ⟨b53, 0, none⟩) c3 1 (pathV [oneD 1, oneD 2, oneD 3] 2) [(nodeD (oneD 1) (oneD 2))] w1 (hC3 w1 hw1 (fun p hp => by simp [hp])) (cs_block (xs := fl ([(nodeD (oneD 1) (oneD 2))])) hw1 (by repeat (first | exact List.Mem.head _ | refine List.Mem.tail _ ?_ | refine List.mem_append_right _ ?_)) (by decide)) (Nat.le_trans (pathV_le _ _) (by decide))) ?_
      refine JA.tk 29 rfl (.none rfl) (fun _ => (Ev.pickT rfl rfl)) ?_
      refine JA.tk 30 rfl (.none rfl) (fun _ => (Ev.assign rfl)) ?_
      refine JA.done (by kernel_rfl) ?_
      refine JQ.thenN ?_
      refine JC.ret ?_
      refine JQ.end1 (H' := []) (.inl rfl) rfl (.tmp rfl) ?_ ?_
      · exact Sub.k
      · exact congrArg Value.bool (decide_eq_true (path32 _ _ _))
    refine JAll.cons rfl ?_ JAll.nil
    refine JO.callV rfl (.yes rfl rfl rfl) rfl Tryd.call23 (fun w1 hw1 => nodeG_any _ _ w1 (hk.old hw1) (hf.old hw1)) ?_
    refine JA.one 3 ?_
    refine JO.val rfl rfl rfl (.yes rfl rfl rfl) (Ev.lB Tryd.underlying22 Tryd.sizeOf22) ?_
    refine JA.tk 7 rfl (.yes rfl rfl rfl) (fun _ => (Ev.bin rfl rfl (eql_arr8 (n := 32) Tryd.underlying22 Tryd.underlying5 (by kernel_rfl) (by kernel_rfl) (by first | rfl | exact dig_len _ | assumption | exact sha_length _ | exact shaO_length _) (by first | rfl | exact dig_len _ | assumption | exact sha_length _ | exact shaO_length _)))) ?_
    refine JA.tk 8 rfl (.none rfl) (fun _ => (Ev.pickT rfl rfl)) ?_
    refine JA.tk 9 rfl (.none rfl) (fun _ => (Ev.move rfl)) ?_
    refine JA.know (d := 35) (b := true) rfl ?_ ?_
    · exact decide_eq_true rfl
    refine JA.tk 10 rfl (.yes rfl rfl rfl) (fun _ => (Ev.move rfl)) ?_
    refine JA.tk 11 rfl (.yes rfl rfl rfl) (fun _ => (Ev.bin rfl rfl eql_int)) ?_
    refine JA.tk 12 rfl (.none rfl) (fun _ => (Ev.pickT rfl rfl)) ?_
    refine JA.tk 13 rfl (.none rfl) (fun _ => (Ev.move rfl)) ?_
    refine JA.know (d := 39) (b := true) rfl ?_ ?_
    · rfl
    refine JA.tk 14 rfl (.yes rfl rfl rfl) (fun _ => (Ev.move rfl)) ?_
    refine JA.one 15 ?_
    refine JO.callV rfl (.yes rfl rfl rfl) rfl Tryd.call26 (fun w1 hw1 => one_any 1 w1) ?_
    refine JA.one 16 ?_
    refine JO.callV rfl (.yes rfl rfl rfl) rfl Tryd.call26 (fun w1 hw1 => one_any 3 w1) ?_
    refine JA.one 17 ?_
    refine JO.new rfl rfl rfl (.yes rfl rfl rfl) (En.bsD (e := 22) (ds := [oneD 1, oneD 3]) rfl rfl Tryd.underlying23 Tryd.sizeOf22 Tryd.zeroValue22 (by decide) (by decide)) (fun b43 hb43 => ?_)
    refine JA.one 18 ?_
    refine JO.callV rfl (.yes rfl rfl rfl) rfl Tryd.call21 (fun w1 hw1 => dSame_any o2 (some ⟨b43, 0, none⟩) c2 2 (pathV [oneD 1, oneD 2, oneD 3] 1) [oneD 1, oneD 3] w1 (hC2 w1 hw1 (fun p hp => by simp [hp])) (cs_block (xs := fl ([oneD 1, oneD 3])) hw1 (by repeat (first | exact List.Mem.head _ | refine List.Mem.tail _ ?_ | refine List.mem_append_right _ ?_)) (by decide)) (Nat.le_trans (pathV_le _ _) (by decide))) ?_
    refine JA.tk 19 rfl (.none rfl) (fun _ => (Ev.pickT rfl rfl)) ?_
    refine JA.tk 20 rfl (.none rfl) (fun _ => (Ev.move rfl)) ?_
    refine JA.know (d := 46) (b := true) rfl ?_ ?_
    · exact decide_eq_true (path31 _ _ _)
    refine JA.tk 21 rfl (.yes rfl rfl rfl) (fun _ => (Ev.move rfl)) ?_
    refine JA.tk 22 rfl (.yes rfl rfl rfl) (fun _ => (Ev.bin rfl rfl eql_int)) ?_
    refine JA.tk 23 rfl (.none rfl) (fun _ => (Ev.pickT rfl rfl)) ?_
    refine JA.tk 24 rfl (.none rfl) (fun _ => (Ev.move rfl)) ?_
    refine JA.know (d := 50) (b := true) rfl ?_ ?_
    · rfl
    refine JA.tk 25 rfl (.yes rfl rfl rfl) (fun _ => (Ev.move rfl)) ?_
    refine JA.one 26 ?_
    refine JO.val rfl rfl rfl (.yes rfl rfl rfl) (Ev.lB Tryd.underlying22 Tryd.sizeOf22) ?_
    refine JA.one 27 ?_
    refine JO.new rfl rfl rfl (.yes rfl rfl rfl) (En.bs1D (e := 22) rfl Tryd.underlying23 Tryd.sizeOf22 Tryd.zeroValue22) (fun b53 hb53 => ?_)
    refine JA.one 28 ?_
    refine JO.callV rfl (.yes rfl rfl rfl) rfl Tryd.call21 (fun w1 hw1 => dSame_any o3 (some ⟨b53, 0, none⟩) c3 1 (pathV [oneD 1, oneD 2, oneD 3] 2) [(nodeD (oneD 1) (oneD 2))] w1 (hC3 w1 hw1 (fun p hp => by simp [hp])) (cs_block (xs := fl ([(nodeD (oneD 1) (oneD 2))])) hw1 (by repeat (first | exact List.Mem.head _ | refine List.Mem.tail _ ?_ | refine List.mem_append_right _ ?_)) (by decide)) (Nat.le_trans (pathV_le _ _) (by decide))) ?_
    refine JA.tk 29 rfl (.none rfl) (fun _ => (Ev.pickT rfl rfl)) ?_
    refine JA.tk 30 rfl (.none rfl) (fun _ => (Ev.assign rfl)) ?_
    refine JA.done (by kernel_rfl) ?_
    refine JQ.thenN ?_
    refine JC.ret ?_
    refine JQ.end1 (H' := []) (.inl rfl) rfl (.tmp rfl) ?_ ?_
    · exact Sub.k
    · exact congrArg Value.bool (decide_eq_true (path32 _ _ _))
  refine JAll.cons rfl ?_ JAll.nil
  refine JO.callV rfl (.yes rfl rfl rfl) rfl Tryd.call26 (fun w1 hw1 => one_any 3 w1) ?_
  refine JA.branch [3, 4] (by kernel_rfl) rfl ?_
  refine JAll.cons rfl ?_ ?_
  · -- 3
    refine JO.val rfl rfl rfl (.yes rfl rfl rfl) (Ev.lB Tryd.underlying22 Tryd.sizeOf22) ?_
    refine JA.one 4 ?_
    refine JO.val rfl rfl rfl (.yes rfl rfl rfl) (Ev.lB Tryd.underlying22 Tryd.sizeOf22) ?_
    refine JA.one 6 ?_
    refine JO.callV rfl (.yes rfl rfl rfl) rfl Tryd.call23 (fun w1 hw1 => nodeG_any _ _ w1 (hk.old hw1) (hf.old hw1)) ?_
    refine JA.tk 7 rfl (.yes rfl rfl rfl) (fun _ => (Ev.bin rfl rfl (eql_arr8 (n := 32) Tryd.underlying22 Tryd.underlying5 (by kernel_rfl) (by kernel_rfl) (by first | rfl | exact dig_len _ | assumption | exact sha_length _ | exact shaO_length _) (by first | rfl | exact dig_len _ | assumption | exact sha_length _ | exact shaO_length _)))) ?_
    refine JA.tk 8 rfl (.none rfl) (fun _ => (Ev.pickT rfl rfl)) ?_
    refine JA.tk 9 rfl (.none rfl) (fun _ => (Ev.move rfl)) ?_
    refine JA.know (d := 35) (b := true) rfl ?_ ?_
    · exact decide_eq_true rfl
    refine JA.tk 10 rfl (.yes rfl rfl rfl) (fun _ => (Ev.move rfl)) ?_
    refine JA.tk 11 rfl (.yes rfl rfl rfl) (fun _ => (Ev.bin rfl rfl eql_int)) ?_
    refine JA.tk 12 rfl (.none rfl) (fun _ => (Ev.pickT rfl rfl)) ?_
    refine JA.tk 13 rfl (.none rfl) (fun _ => (Ev.move rfl)) ?_
    refine JA.know (d := 39) (b := true) rfl ?_ ?_
    · rfl
    refine JA.tk 14 rfl (.yes rfl rfl rfl) (fun _ => (Ev.move rfl)) ?_
    refine JA.one 15 ?_
    refine JO.callV rfl (.yes rfl rfl rfl) rfl Tryd.call26 (fun w1 hw1 => one_any 1 w1) ?_
    refine JA.one 16 ?_
    refine JO.callV rfl (.yes rfl rfl rfl) rfl Tryd.call26 (fun w1 hw1 => one_any 3 w1) ?_
    refine JA.one 17 ?_
    refine JO.new rfl rfl rfl (.yes rfl rfl rfl) (En.bsD (e := 22) (ds := [oneD 1, oneD 3]) rfl rfl Tryd.underlying23 Tryd.sizeOf22 Tryd.zeroValue22 (by decide) (by decide)) (fun b43 hb43 => ?_)
    refine JA.one 18 ?_
    refine JO.callV rfl (.yes rfl rfl rfl) rfl Tryd.call21 (fun w1 hw1 => dSame_any o2 (some ⟨b43, 0, none⟩) c2 2 (pathV [oneD 1, oneD 2, oneD 3] 1) [oneD 1, oneD 3] w1 (hC2 w1 hw1 (fun p hp => by simp [hp])) (cs_block (xs := fl ([oneD 1, oneD 3])) hw1 (by repeat (first | exact List.Mem.head _ | refine List.Mem.tail _ ?_ | refine List.mem_append_right _ ?_)) (by decide)) (Nat.le_trans (pathV_le _ _) (by decide))) ?_
    refine JA.tk 19 rfl (.none rfl) (fun _ => (Ev.pickT rfl rfl)) ?_
    refine JA.tk 20 rfl (.none rfl) (fun _ => (Ev.move rfl)) ?_
    refine JA.know (d := 46) (b := true) rfl ?_ ?_
    · exact decide_eq_true (path31 _ _ _)
    refine JA.tk 21 rfl (.yes rfl rfl rfl) (fun _ => (Ev.move rfl)) ?_
    refine JA.tk 22 rfl (.yes rfl rfl rfl) (fun _ => (Ev.bin rfl rfl eql_int)) ?_
    refine JA.tk 23 rfl (.none rfl) (fun _ => (Ev.pickT rfl rfl)) ?_
    refine JA.tk 24 rfl (.none rfl) (fun _ => (Ev.move rfl)) ?_
    refine JA.know (d := 50) (b := true) rfl ?_ ?_
    · rfl
    refine JA.tk 25 rfl (.yes rfl rfl rfl) (fun _ => (Ev.move rfl)) ?_
    refine JA.one 26 ?_
    refine JO.val rfl rfl rfl (.yes rfl rfl rfl) (Ev.lB Tryd.underlying22 Tryd.sizeOf22) ?_
    refine JA.one 27 ?_
    refine JO.new rfl rfl rfl (.yes rfl rfl rfl) (En.bs1D (e := 22) rfl Tryd.underlying23 Tryd.sizeOf22 Tryd.zeroValue22) (fun b53 hb53 => ?_)
    refine JA.one 28 ?_
    refine JO.callV rfl (.yes rfl rfl rfl) rfl Tryd.call21 (fun w1 hw1 => dSame_any o3 (some ⟨b53, 0, none⟩) c3 1 (pathV [oneD 1, oneD 2, oneD 3] 2) [(nodeD (oneD 1) (oneD 2))] w1 (hC3 w1 hw1 (fun p hp => by simp [hp])) (cs_block (xs := fl ([(nodeD (oneD 1) (oneD 2))])) hw1 (by repeat (first | exact List.Mem.head _ | refine List.Mem.tail _ ?_ | refine List.mem_append_right _ ?_)) (by decide)) (Nat.le_trans (pathV_le _ _) (by decide))) ?_
    refine JA.tk 29 rfl (.none rfl) (fun _ => (Ev.pickT rfl rfl)) ?_
    refine JA.tk 30 rfl (.none rfl) (fun _ => (Ev.assign rfl)) ?_
    refine JA.done (by kernel_rfl) ?_
    refine JQ.thenN ?_
    refine JC.ret ?_
    refine JQ.end1 (H' := []) (.inl rfl) rfl (.tmp rfl) ?_ ?_
    · exact Sub.k
    · exact congrArg Value.bool (decide_eq_true (path32 _ _ _))
  refine JAll.cons rfl ?_ JAll.nil
  refine JO.val rfl rfl rfl (.yes rfl rfl rfl) (Ev.lB Tryd.underlying22 Tryd.sizeOf22) ?_
  refine JA.branch [3, 6] (by kernel_rfl) rfl ?_
  refine JAll.cons rfl ?_ ?_
  · -- 3
    refine JO.val rfl rfl rfl (.yes rfl rfl rfl) (Ev.lB Tryd.underlying22 Tryd.sizeOf22) ?_
    refine JA.one 6 ?_
    refine JO.callV rfl (.yes rfl rfl rfl) rfl Tryd.call23 (fun w1 hw1 => nodeG_any _ _ w1 (hk.old hw1) (hf.old hw1)) ?_
    refine JA.tk 7 rfl (.yes rfl rfl rfl) (fun _ => (Ev.bin rfl rfl (eql_arr8 (n := 32) Tryd.underlying22 Tryd.underlying5 (by kernel_rfl) (by kernel_rfl) (by first | rfl | exact dig_len _ | assumption | exact sha_length _ | exact shaO_length _) (by first | rfl | exact dig_len _ | assumption | exact sha_length _ | exact shaO_length _)))) ?_
    refine JA.tk 8 rfl (.none rfl) (fun _ => (Ev.pickT rfl rfl)) ?_
    refine JA.tk 9 rfl (.none rfl) (fun _ => (Ev.move rfl)) ?_
    refine JA.know (d := 35) (b := true) rfl ?_ ?_
    · exact decide_eq_true rfl
    refine JA.tk 10 rfl (.yes rfl rfl rfl) (fun _ => (Ev.move rfl)) ?_
    refine JA.tk 11 rfl (.yes rfl rfl rfl) (fun _ => (Ev.bin rfl rfl eql_int)) ?_
    refine JA.tk 12 rfl (.none rfl) (fun _ => (Ev.pickT rfl rfl)) ?_
    refine JA.tk 13 rfl (.none rfl) (fun _ => (Ev.move rfl)) ?_
    refine JA.know (d := 39) (b := true) rfl ?_ ?_
    · rfl
    refine JA.tk 14 rfl (.yes rfl rfl rfl) (fun _ => (Ev.move rfl)) ?_
    refine JA.one 15 ?_
    refine JO.callV rfl (.yes rfl rfl rfl) rfl Tryd.call26 (fun w1 hw1 => one_any 1 w1) ?_
    refine JA.one 16 ?_
    refine JO.callV rfl (.yes rfl rfl rfl) rfl Tryd.call26 (fun w1 hw1 => one_any 3 w1) ?_
    refine JA.one 17 ?_
    refine JO.new rfl rfl rfl (.yes rfl rfl rfl) (En.bsD (e := 22) (ds := [oneD 1, oneD 3]) rfl rfl Tryd.underlying23 Tryd.sizeOf22 Tryd.zeroValue22 (by decide) (by decide)) (fun b43 hb43 => ?_)
    refine JA.one 18 ?_
    refine JO.callV rfl (.yes rfl rfl rfl) rfl Tryd.call21 (fun w1 hw1 => dSame_any o2 (some ⟨b43, 0, none⟩) c2 2 (pathV [oneD 1, oneD 2, oneD 3] 1) [oneD 1, oneD 3] w1 (hC2 w1 hw1 (fun p hp => by simp [hp])) (cs_block (xs := fl ([oneD 1, oneD 3])) hw1 (by repeat (first | exact List.Mem.head _ | refine List.Mem.tail _ ?_ | refine List.mem_append_right _ ?_)) (by decide)) (Nat.le_trans (pathV_le _ _) (by decide))) ?_
    refine JA.tk 19 rfl (.none rfl) (fun _ => (Ev.pickT rfl rfl)) ?_
    refine JA.tk 20 rfl (.none rfl) (fun _ => (Ev.move rfl)) ?_
    refine JA.know (d := 46) (b := true) rfl ?_ ?_
    · exact decide_eq_true (path31 _ _ _)
    refine JA.tk 21 rfl (.yes rfl rfl rfl) (fun _ => (Ev.move rfl)) ?_
    refine JA.tk 22 rfl (.yes rfl rfl rfl) (fun _ => (Ev.bin rfl rfl eql_int)) ?_
    refine JA.tk 23 rfl (.none rfl) (fun _ => (Ev.pickT rfl rfl)) ?_
    refine JA.tk 24 rfl (.none rfl) (fun _ => (Ev.move rfl)) ?_
    refine JA.know (d := 50) (b := true) rfl ?_ ?_
    · rfl
    refine JA.tk 25 rfl (.yes rfl rfl rfl) (fun _ => (Ev.move rfl)) ?_
    refine JA.one 26 ?_
    refine JO.val rfl rfl rfl (.yes rfl rfl rfl) (Ev.lB Tryd.underlying22 Tryd.sizeOf22) ?_
    refine JA.one 27 ?_
    refine JO.new rfl rfl rfl (.yes rfl rfl rfl) (En.bs1D (e := 22) rfl Tryd.underlying23 Tryd.sizeOf22 Tryd.zeroValue22) (fun b53 hb53 => ?_)
    refine JA.one 28 ?_
    refine JO.callV rfl (.yes rfl rfl rfl) rfl Tryd.call21 (fun w1 hw1 => dSame_any o3 (some ⟨b53, 0, none⟩) c3 1 (pathV [oneD 1, oneD 2, oneD 3] 2) [(nodeD (oneD 1) (oneD 2))] w1 (hC3 w1 hw1 (fun p hp => by simp [hp])) (cs_block (xs := fl ([(nodeD (oneD 1) (oneD 2))])) hw1 (by repeat (first | exact List.Mem.head _ | refine List.Mem.tail _ ?_ | refine List.mem_append_right _ ?_)) (by decide)) (Nat.le_trans (pathV_le _ _) (by decide))) ?_
    refine JA.tk 29 rfl (.none rfl) (fun _ => (Ev.pickT rfl rfl)) ?_
    refine JA.tk 30 rfl (.none rfl) (fun _ => (Ev.assign rfl)) ?_
    refine JA.done (by kernel_rfl) ?_
    refine JQ.thenN ?_
    refine JC.ret ?_
    refine JQ.end1 (H' := []) (.inl rfl) rfl (.tmp rfl) ?_ ?_
    · exact Sub.k
    · exact congrArg Value.bool (decide_eq_true (path32 _ _ _))
  refine JAll.cons rfl ?_ JAll.nil
  refine JO.callV rfl (.yes rfl rfl rfl) rfl Tryd.call23 (fun w1 hw1 => nodeG_any _ _ w1 (hk.old hw1) (hf.old hw1)) ?_
  refine JA.one 3 ?_
  refine JO.val rfl rfl rfl (.yes rfl rfl rfl) (Ev.lB Tryd.underlying22 Tryd.sizeOf22) ?_
  refine JA.tk 7 rfl (.yes rfl rfl rfl) (fun _ => (Ev.bin rfl rfl (eql_arr8 (n := 32) Tryd.underlying22 Tryd.underlying5 (by kernel_rfl) (by kernel_rfl) (by first | rfl | exact dig_len _ | assumption | exact sha_length _ | exact shaO_length _) (by first | rfl | exact dig_len _ | assumption | exact sha_length _ | exact shaO_length _)))) ?_
  refine JA.tk 8 rfl (.none rfl) (fun _ => (Ev.pickT rfl rfl)) ?_
  refine JA.tk 9 rfl (.none rfl) (fun _ => (Ev.move rfl)) ?_
  refine JA.know (d := 35) (b := true) rfl ?_ ?_
  · exact decide_eq_true rfl
  refine JA.tk 10 rfl (.yes rfl rfl rfl) (fun _ => (Ev.move rfl)) ?_
  refine JA.tk 11 rfl (.yes rfl rfl rfl) (fun _ => (Ev.bin rfl rfl eql_int)) ?_
  refine JA.tk 12 rfl (.none rfl) (fun _ => (Ev.pickT rfl rfl)) ?_
  refine JA.tk 13 rfl (.none rfl) (fun _ => (Ev.move rfl)) ?_
  refine JA.know (d := 39) (b := true) rfl ?_ ?_
  · rfl
  refine JA.tk 14 rfl (.yes rfl rfl rfl) (fun _ => (Ev.move rfl)) ?_
  refine JA.one 15 ?_
  refine JO.callV rfl (.yes rfl rfl rfl) rfl Tryd.call26 (fun w1 hw1 => one_any 1 w1) ?_
  refine JA.one 16 ?_
  refine JO.callV rfl (.yes rfl rfl rfl) rfl Tryd.call26 (fun w1 hw1 => one_any 3 w1) ?_
  refine JA.one 17 ?_
  refine JO.new rfl rfl rfl (.yes rfl rfl rfl) (En.bsD (e := 22) (ds := [oneD 1, oneD 3]) rfl rfl Tryd.underlying23 Tryd.sizeOf22 Tryd.zeroValue22 (by decide) (by decide)) (fun b43 hb43 => ?_)
  refine JA.one 18 ?_
  refine JO.callV rfl (.yes rfl rfl rfl) rfl Tryd.call21 (fun w1 hw1 => dSame_any o2 (some ⟨b43, 0, none⟩) c2 2 (pathV [oneD 1, oneD 2, oneD 3] 1) [oneD 1, oneD 3] w1 (hC2 w1 hw1 (fun p hp => by simp [hp])) (cs_block (xs := fl ([oneD 1, oneD 3])) hw1 (by repeat (first | exact List.Mem.head _ | refine List.Mem.tail _ ?_ | refine List.mem_append_right _ ?_)) (by decide)) (Nat.le_trans (pathV_le _ _) (by decide))) ?_
  refine JA.tk 19 rfl (.none rfl) (fun _ => (Ev.pickT rfl rfl)) ?_
  refine JA.tk 20 rfl (.none rfl) (fun _ => (Ev.move rfl)) ?_
  refine JA.know (d := 46) (b := true) rfl ?_ ?_
  · exact decide_eq_true (path31 _ _ _)
  refine JA.tk 21 rfl (.yes rfl rfl rfl) (fun _ => (Ev.move rfl)) ?_
  refine JA.tk 22 rfl (.yes rfl rfl rfl) (fun _ => (Ev.bin rfl rfl eql_int)) ?_
  refine JA.tk 23 rfl (.none rfl) (fun _ => (Ev.pickT rfl rfl)) ?_
  refine JA.tk 24 rfl (.none rfl) (fun _ => (Ev.move rfl)) ?_
  refine JA.know (d := 50) (b := true) rfl ?_ ?_
  · rfl
  refine JA.tk 25 rfl (.yes rfl rfl rfl) (fun _ => (Ev.move rfl)) ?_
  refine JA.one 26 ?_
  refine JO.val rfl rfl rfl (.yes rfl rfl rfl) (Ev.lB Tryd.underlying22 Tryd.sizeOf22) ?_
  refine JA.one 27 ?_
  refine JO.new rfl rfl rfl (.yes rfl rfl rfl) (En.bs1D (e := 22) rfl Tryd.underlying23 Tryd.sizeOf22 Tryd.zeroValue22) (fun b53 hb53 => ?_)
  refine JA.one 28 ?_
  refine JO.callV rfl (.yes rfl rfl rfl) rfl Tryd.call21 (fun w1 hw1 => dSame_any o3 (some ⟨b53, 0, none⟩) c3 1 (pathV [oneD 1, oneD 2, oneD 3] 2) [(nodeD (oneD 1) (oneD 2))] w1 (hC3 w1 hw1 (fun p hp => by simp [hp])) (cs_block (xs := fl ([(nodeD (oneD 1) (oneD 2))])) hw1 (by repeat (first | exact List.Mem.head _ | refine List.Mem.tail _ ?_ | refine List.mem_append_right _ ?_)) (by decide)) (Nat.le_trans (pathV_le _ _) (by decide))) ?_
  refine JA.tk 29 rfl (.none rfl) (fun _ => (Ev.pickT rfl rfl)) ?_
  refine JA.tk 30 rfl (.none rfl) (fun _ => (Ev.assign rfl)) ?_
  refine JA.done (by kernel_rfl) ?_
  refine JQ.thenN ?_
  refine JC.ret ?_
  refine JQ.end1 (H' := []) (.inl rfl) rfl (.tmp rfl) ?_ ?_
  · exact Sub.k
  · exact congrArg Value.bool (decide_eq_true (path32 _ _ _))

theorem lawFollows_any (oa : Option Addr) (cap : Nat) (ds : List Dig) (i : Int) (hib : -9223372036854775808 ≤ i ∧ i ≤ 9223372036854775807) (w : World) (hd : Dl w oa cap ds) (hk : KMem 1 w) (hf : FMem 0 w) :
    Calls Tryd.prog 8 #[.slice oa ds.length cap, .int .i64 i] w (Ret w (fun v _ => v = .bool true)) := by
  refine enter (vs := [.slice oa ds.length cap, .int .i64 i]) Tryd.func8 rfl Tryd.ntmps8 rfl ?_
  refine JC.seq ?_
  refine JC.region ?_
  refine JL.asg ?_
  refine JL.nil ?_
  refine JQ.thenN ?_
  refine JC.seq ?_
  refine JC.region ?_
  refine JL.callV rfl (.none rfl) rfl Tryd.call22 (fun w1 hw1 => alive_any w1 (hk.old hw1) (hf.old hw1)) ?_
  refine JL.asg ?_
  refine JL.nil ?_
  refine JQ.thenN ?_
  refine JC.seq ?_
  refine JC.seq ?_
  refine JC.region ?_
  refine JL.mv ?_
  refine JL.callV rfl (.none rfl) rfl Tryd.call11 (fun w1 hw1 => great_any oa ds.length cap w1) ?_
  refine JL.mv ?_
  refine JL.split (d := 17) rfl (fun hgA => ?_) (fun hgA => ?_)
  · -- guard 17 true
    refine JL.skip rfl rfl (.noF rfl rfl rfl) ?_
    refine JL.skip rfl rfl (.noF rfl rfl rfl) ?_
    refine JL.val rfl rfl rfl (.none rfl) (Ev.pickT rfl rfl) ?_
    refine JL.mv ?_
    refine JL.skip rfl rfl (.noF rfl rfl rfl) ?_
    refine JL.skip rfl rfl (.noF rfl rfl rfl) ?_
    refine JL.skip rfl rfl (.noF rfl rfl rfl) ?_
    refine JL.skip rfl rfl (.noF rfl rfl rfl) ?_
    refine JL.val rfl rfl rfl (.none rfl) (Ev.pickT rfl rfl) ?_
    refine JL.mv ?_
    refine JL.skip rfl rfl (.noF rfl rfl rfl) ?_
    refine JL.skip rfl rfl (.noF rfl rfl rfl) ?_
    refine JL.val rfl rfl rfl (.none rfl) (Ev.pickT rfl rfl) ?_
    refine JL.nil ?_
    refine JQ.thenN ?_
    refine JC.condT rfl ?_
    refine JC.seq ?_
    refine JC.region ?_
    refine JL.mv ?_
    refine JL.asg ?_
    refine JL.nil ?_
    refine JQ.thenN ?_
    refine JC.ret ?_
    refine JQ.thenR ?_
    refine JQ.end1 (H' := []) (.inl rfl) rfl (.tmp rfl) ?_ ?_
    · exact Sub.k
    · first | rfl | exact congrArg Value.bool (decide_eq_true (congrArg Subtype.val (by rw [rootV_ok hsm, foV_ok hokt hpl, hpe, Int.toNat_natCast, led_of_path hdn])))
  · -- guard 17 false
    have hg130 : ¬ 130 < (ds.length : Int) := of_decide_eq_false hgA
    refine JL.val rfl rfl rfl (.yes rfl rfl rfl) (Ev.move rfl) ?_
    refine JL.val rfl rfl rfl (.yes rfl rfl rfl) (Ev.bin rfl rfl lss_int) ?_
    refine JL.val rfl rfl rfl (.none rfl) (Ev.pickF rfl rfl) ?_
    refine JL.mv ?_
    refine JL.split (d := 21) rfl (fun hgB => ?_) (fun hgB => ?_)
    · -- guard 21 true
      refine JL.skip rfl rfl (.noF rfl rfl rfl) ?_
      refine JL.skip rfl rfl (.noF rfl rfl rfl) ?_
      refine JL.skip rfl rfl (.noF rfl rfl rfl) ?_
      refine JL.skip rfl rfl (.noF rfl rfl rfl) ?_
      refine JL.val rfl rfl rfl (.none rfl) (Ev.pickT rfl rfl) ?_
      refine JL.mv ?_
      refine JL.skip rfl rfl (.noF rfl rfl rfl) ?_
      refine JL.skip rfl rfl (.noF rfl rfl rfl) ?_
      refine JL.val rfl rfl rfl (.none rfl) (Ev.pickT rfl rfl) ?_
      refine JL.nil ?_
      refine JQ.thenN ?_
      refine JC.condT rfl ?_
      refine JC.seq ?_
      refine JC.region ?_
      refine JL.mv ?_
      refine JL.asg ?_
      refine JL.nil ?_
      refine JQ.thenN ?_
      refine JC.ret ?_
      refine JQ.thenR ?_
      refine JQ.end1 (H' := []) (.inl rfl) rfl (.tmp rfl) ?_ ?_
      · exact Sub.k
      · first | rfl | exact congrArg Value.bool (decide_eq_true (congrArg Subtype.val (by rw [rootV_ok hsm, foV_ok hokt hpl, hpe, Int.toNat_natCast, led_of_path hdn])))
    · -- guard 21 false
      have hi0 := of_decide_eq_false hgB
      refine JL.val rfl rfl rfl (.yes rfl rfl rfl) (Ev.move rfl) ?_
      refine JL.val rfl rfl rfl (.yes rfl rfl rfl) (Ev.move rfl) ?_
      refine JL.val rfl rfl rfl (.yes rfl rfl rfl) (Ev.lenS rfl Tryd.underlying23) ?_
      refine JL.val rfl rfl rfl (.yes rfl rfl rfl) (Ev.bin rfl rfl geq_int) ?_
      refine JL.val rfl rfl rfl (.none rfl) (Ev.pickF rfl rfl) ?_
      refine JL.mv ?_
      refine JL.split (d := 27) rfl (fun hgC => ?_) (fun hgC => ?_)
      · -- guard 27 true
        refine JL.skip rfl rfl (.noF rfl rfl rfl) ?_
        refine JL.skip rfl rfl (.noF rfl rfl rfl) ?_
        refine JL.val rfl rfl rfl (.none rfl) (Ev.pickT rfl rfl) ?_
        refine JL.nil ?_
        refine JQ.thenN ?_
        refine JC.condT rfl ?_
        refine JC.seq ?_
        refine JC.region ?_
        refine JL.mv ?_
        refine JL.asg ?_
        refine JL.nil ?_
        refine JQ.thenN ?_
        refine JC.ret ?_
        refine JQ.thenR ?_
        refine JQ.end1 (H' := []) (.inl rfl) rfl (.tmp rfl) ?_ ?_
        · exact Sub.k
        · first | rfl | exact congrArg Value.bool (decide_eq_true (congrArg Subtype.val (by rw [rootV_ok hsm, foV_ok hokt hpl, hpe, Int.toNat_natCast, led_of_path hdn])))
      · -- guard 27 false
        have hil := of_decide_eq_false hgC
        obtain ⟨n, rfl⟩ : ∃ n : Nat, i = (n : Int) := ⟨i.toNat, by omega⟩
        have hin : n < ds.length := by omega
        have hsm : ¬ 1024 < ds.length := by omega
        have hokp : ¬ ((n : Int) < 0 ∨ (ds.length : Int) ≤ n) := by omega
        obtain ⟨d, hdn⟩ := get_some hin
        obtain ⟨a, rfl⟩ := Cs.get_some hd (by omega)
        have hokt : ¬ badT (n : Int) (ds.length : Int) := by unfold badT; omega
        refine JL.val rfl rfl rfl (.yes rfl rfl rfl) (Ev.move rfl) ?_
        refine JL.val rfl rfl rfl (.yes rfl rfl rfl) (Ev.not rfl) ?_
        refine JL.val rfl rfl rfl (.none rfl) (Ev.pickF rfl rfl) ?_
        refine JL.nil ?_
        refine JQ.thenN ?_
        refine JC.knowF rfl ?_ ?_
        · rfl
        refine JC.skip ?_
        refine JQ.thenN ?_
        refine JC.seq ?_
        refine JC.region ?_
        refine JL.mv ?_
        refine JL.callV rfl (.none rfl) rfl Tryd.call17 (fun w1 hw1 => Root_any (some a) cap ds w1 (hd.old hw1) (by omega) (hk.old hw1) (hf.old hw1)) ?_
        refine JL.mv ?_
        refine JL.val rfl rfl rfl (.none rfl) (Ev.ex0 rfl) ?_
        refine JL.val rfl rfl rfl (.none rfl) (Ev.ex1 rfl) ?_
        refine JL.new rfl rfl rfl (.none rfl) (En.allocZ (cs := arr8 (List.replicate 32 0)) Tryd.zeroValue22 rfl) (fun b6 hb6 => ?_)
        refine JL.sto rfl rfl (.none rfl) (Es.sA Tryd.sizeOf22) ?_
        refine JL.asg ?_
        refine JL.nil ?_
        refine JQ.thenN ?_
        refine JC.seq ?_
        refine JC.region ?_
        refine JL.mv ?_
        refine JL.mv ?_
        refine JL.callN rfl (.none rfl) rfl Tryd.call19 (fun w1 hw1 => Path_any (some a) cap ds (n : Int) hib w1 (hd.old hw1) (by omega) (hk.old hw1) (hf.old hw1)) ?_
        rintro _ _ ⟨r1, rfl, rfl, hr1⟩
        refine JL.mv ?_
        refine JL.val rfl rfl rfl (.none rfl) (Ev.ex0 rfl) ?_
        refine JL.val rfl rfl rfl (.none rfl) (Ev.ex1 rfl) ?_
        refine JL.asg ?_
        refine JL.asg ?_
        refine JL.nil ?_
        refine JQ.thenN ?_
        refine JC.seq ?_
        refine JC.region ?_
        refine JL.mv ?_
        refine JL.mv ?_
        refine JL.val rfl rfl rfl (.none rfl) (Ev.lenS rfl Tryd.underlying23) ?_
        refine JL.callV rfl (.none rfl) rfl Tryd.call12 (fun w1 hw1 => PathLen_any (n : Int) (ds.length : Int) hib (by constructor <;> omega) w1) ?_
        refine JL.mv ?_
        refine JL.val rfl rfl rfl (.none rfl) (Ev.ex0 rfl) ?_
        refine JL.val rfl rfl rfl (.none rfl) (Ev.ex1 rfl) ?_
        refine JL.asg ?_
        refine JL.asg ?_
        refine JL.nil ?_
        refine JQ.thenN ?_
        refine JC.seq ?_
        refine JC.region ?_
        obtain ⟨o1, c1, e1, _, hC1⟩ := Row.vw (e := 22) hr1
        refine JL.re (d := 8) rfl e1 ?_
        refine JL.mv ?_
        refine JL.mv ?_
        refine JL.val rfl rfl rfl (.none rfl) (Ev.idxS rfl rfl Tryd.underlying23 Tryd.sizeOf22 (k := n) rfl (by omega)) ?_
        refine JL.val rfl rfl rfl (.none rfl) (Ev.loadD rfl Tryd.underlying22 rfl Tryd.sizeOf22 (Rds.old ((hd.mem a rfl).atD hdn))) ?_
        refine JL.mv ?_
        refine JL.mv ?_
        refine JL.val rfl rfl rfl (.none rfl) (Ev.lenS rfl Tryd.underlying23) ?_
        refine JL.mv ?_
        refine JL.callV rfl (.none rfl) rfl Tryd.call14 (fun w1 hw1 => Follow_any d (n : Int) (ds.length : Int) hib (by constructor <;> omega) o1 c1 (pathV ds (n : Int)) w1 (hC1 w1 hw1 (fun p hp => by simp [hp])) (hk.old hw1) (hf.old hw1)) ?_
        refine JL.mv ?_
        refine JL.val rfl rfl rfl (.none rfl) (Ev.ex0 rfl) ?_
        refine JL.val rfl rfl rfl (.none rfl) (Ev.ex1 rfl) ?_
        refine JL.new rfl rfl rfl (.none rfl) (En.allocZ (cs := arr8 (List.replicate 32 0)) Tryd.zeroValue22 rfl) (fun b12 hb12 => ?_)
        refine JL.sto rfl rfl (.none rfl) (Es.sA Tryd.sizeOf22) ?_
        refine JL.asg ?_
        refine JL.nil ?_
        refine JQ.thenN ?_
        refine JC.seq ?_
        refine JC.region ?_
        have hpe := pathV_ok hsm hokp
        have hpl : (pathV ds (n : Int)).length = stepsR n ds.length := by rw [hpe, Int.toNat_natCast, path_length]
        refine JL.re (d := 7) (v' := .int .i64 0) rfl (congrArg (Value.int .i64) (rootE_ok hsm)) ?_
        refine JL.re (d := 9) (v' := .int .i64 0) rfl (congrArg (Value.int .i64) (pathE_ok hsm hokp)) ?_
        refine JL.re (d := 11) (v' := .int .i64 0) rfl (congrArg (Value.int .i64) (plE_ok hokt)) ?_
        refine JL.re (d := 13) (v' := .int .i64 0) rfl (congrArg (Value.int .i64) (foE_ok hokt hpl)) ?_
        refine JL.mv ?_
        refine JL.mv ?_
        refine JL.know (d := 63) (b := true) rfl ?_ ?_
        · rfl
        refine JL.val rfl rfl rfl (.yes rfl rfl rfl) (Ev.move rfl) ?_
        refine JL.val rfl rfl rfl (.yes rfl rfl rfl) (Ev.bin rfl rfl eql_int) ?_
        refine JL.val rfl rfl rfl (.none rfl) (Ev.pickT rfl rfl) ?_
        refine JL.mv ?_
        refine JL.know (d := 67) (b := true) rfl ?_ ?_
        · rfl
        refine JL.val rfl rfl rfl (.yes rfl rfl rfl) (Ev.move rfl) ?_
        refine JL.val rfl rfl rfl (.yes rfl rfl rfl) (Ev.bin rfl rfl eql_int) ?_
        refine JL.val rfl rfl rfl (.none rfl) (Ev.pickT rfl rfl) ?_
        refine JL.mv ?_
        refine JL.know (d := 71) (b := true) rfl ?_ ?_
        · rfl
        refine JL.val rfl rfl rfl (.yes rfl rfl rfl) (Ev.move rfl) ?_
        refine JL.val rfl rfl rfl (.yes rfl rfl rfl) (Ev.bin rfl rfl eql_int) ?_
        refine JL.val rfl rfl rfl (.none rfl) (Ev.pickT rfl rfl) ?_
        refine JL.mv ?_
        refine JL.know (d := 75) (b := true) rfl ?_ ?_
        · rfl
        refine JL.val rfl rfl rfl (.yes rfl rfl rfl) (Ev.move rfl) ?_
        refine JL.val rfl rfl rfl (.yes rfl rfl rfl) (Ev.bin rfl rfl eql_int) ?_
        refine JL.val rfl rfl rfl (.none rfl) (Ev.pickT rfl rfl) ?_
        refine JL.mv ?_
        refine JL.know (d := 79) (b := true) rfl ?_ ?_
        · rfl
        refine JL.val rfl rfl rfl (.yes rfl rfl rfl) (Ev.move rfl) ?_
        refine JL.val rfl rfl rfl (.yes rfl rfl rfl) (Ev.lenS rfl Tryd.underlying23) ?_
        refine JL.val rfl rfl rfl (.yes rfl rfl rfl) (Ev.move rfl) ?_
        refine JL.val rfl rfl rfl (.yes rfl rfl rfl) (Ev.bin rfl rfl eql_int) ?_
        refine JL.val rfl rfl rfl (.none rfl) (Ev.pickT rfl rfl) ?_
        refine JL.mv ?_
        refine JL.know (d := 85) (b := true) rfl ?_ ?_
        · exact decide_eq_true (congrArg Int.ofNat (by rw [hpl, plV_ok hokt]))
        refine JL.val rfl rfl rfl (.yes rfl rfl rfl) (Ev.lB Tryd.underlying22 Tryd.sizeOf22) ?_
        refine JL.val rfl rfl rfl (.yes rfl rfl rfl) (Ev.lB Tryd.underlying22 Tryd.sizeOf22) ?_
        refine JL.val rfl rfl rfl (.yes rfl rfl rfl) (Ev.bin rfl rfl (eql_arr8 (n := 32) Tryd.underlying22 Tryd.underlying5 (by kernel_rfl) (by kernel_rfl) (by first | rfl | exact dig_len _ | assumption | exact sha_length _ | exact shaO_length _) (by first | rfl | exact dig_len _ | assumption | exact sha_length _ | exact shaO_length _))) ?_
        refine JL.val rfl rfl rfl (.none rfl) (Ev.pickT rfl rfl) ?_
        refine JL.asg ?_
        refine JL.nil ?_
        refine JQ.thenN ?_
        refine JC.ret ?_
        refine JQ.end1 (H' := []) (.inl rfl) rfl (.tmp rfl) ?_ ?_
        · exact Sub.k
        · first | rfl | exact congrArg Value.bool (decide_eq_true (congrArg Subtype.val (by rw [rootV_ok hsm, foV_ok hokt hpl, hpe, Int.toNat_natCast, led_of_path hdn])))

theorem lawReplaces_any (oa : Option Addr) (cap : Nat) (ds : List Dig) (i : Int) (hib : -9223372036854775808 ≤ i ∧ i ≤ 9223372036854775807) (c : Dig) (w : World) (hd : Dl w oa cap ds) (hk : KMem 1 w) (hf : FMem 0 w) :
    Calls Tryd.prog 9 #[.slice oa ds.length cap, .int .i64 i, .agg (arr8 c.1)] w (Ret w (fun v _ => v = .bool true)) := by
  refine enter (vs := [.slice oa ds.length cap, .int .i64 i, .agg (arr8 c.1)]) Tryd.func9 rfl Tryd.ntmps9 rfl ?_
  refine JC.seq ?_
  refine JC.region ?_
  refine JL.new rfl rfl rfl (.none rfl) (En.boxA rfl) (fun b5 hb5 => ?_)
  refine JL.asg ?_
  refine JL.nil ?_
  refine JQ.thenN ?_
  refine JC.seq ?_
  refine JC.region ?_
  refine JL.callV rfl (.none rfl) rfl Tryd.call22 (fun w1 hw1 => alive_any w1 (hk.old hw1) (hf.old hw1)) ?_
  refine JL.asg ?_
  refine JL.nil ?_
  refine JQ.thenN ?_
  refine JC.seq ?_
  refine JC.seq ?_
  refine JC.region ?_
  refine JL.mv ?_
  refine JL.callV rfl (.none rfl) rfl Tryd.call11 (fun w1 hw1 => great_any oa ds.length cap w1) ?_
  refine JL.mv ?_
  refine JL.split (d := 20) rfl (fun hgA => ?_) (fun hgA => ?_)
  · -- guard 20 true
    refine JL.skip rfl rfl (.noF rfl rfl rfl) ?_
    refine JL.skip rfl rfl (.noF rfl rfl rfl) ?_
    refine JL.val rfl rfl rfl (.none rfl) (Ev.pickT rfl rfl) ?_
    refine JL.mv ?_
    refine JL.skip rfl rfl (.noF rfl rfl rfl) ?_
    refine JL.skip rfl rfl (.noF rfl rfl rfl) ?_
    refine JL.skip rfl rfl (.noF rfl rfl rfl) ?_
    refine JL.skip rfl rfl (.noF rfl rfl rfl) ?_
    refine JL.val rfl rfl rfl (.none rfl) (Ev.pickT rfl rfl) ?_
    refine JL.mv ?_
    refine JL.skip rfl rfl (.noF rfl rfl rfl) ?_
    refine JL.skip rfl rfl (.noF rfl rfl rfl) ?_
    refine JL.val rfl rfl rfl (.none rfl) (Ev.pickT rfl rfl) ?_
    refine JL.nil ?_
    refine JQ.thenN ?_
    refine JC.condT rfl ?_
    refine JC.seq ?_
    refine JC.region ?_
    refine JL.mv ?_
    refine JL.asg ?_
    refine JL.nil ?_
    refine JQ.thenN ?_
    refine JC.ret ?_
    refine JQ.thenR ?_
    refine JQ.end1 (H' := []) (.inl rfl) rfl (.tmp rfl) ?_ ?_
    · exact Sub.k
    · first | rfl | exact congrArg Value.bool (decide_eq_true (congrArg Subtype.val (by rw [rootV_ok hsm2, foV_ok hokt hpl, hpq, hqe, Int.toNat_natCast, ← led_of_path (l := ds.set n c) (i := n) (x := c) (by simp [hin]), List.length_set])))
  · -- guard 20 false
    have hg130 : ¬ 130 < (ds.length : Int) := of_decide_eq_false hgA
    refine JL.val rfl rfl rfl (.yes rfl rfl rfl) (Ev.move rfl) ?_
    refine JL.val rfl rfl rfl (.yes rfl rfl rfl) (Ev.bin rfl rfl lss_int) ?_
    refine JL.val rfl rfl rfl (.none rfl) (Ev.pickF rfl rfl) ?_
    refine JL.mv ?_
    refine JL.split (d := 24) rfl (fun hgB => ?_) (fun hgB => ?_)
    · -- guard 24 true
      refine JL.skip rfl rfl (.noF rfl rfl rfl) ?_
      refine JL.skip rfl rfl (.noF rfl rfl rfl) ?_
      refine JL.skip rfl rfl (.noF rfl rfl rfl) ?_
      refine JL.skip rfl rfl (.noF rfl rfl rfl) ?_
      refine JL.val rfl rfl rfl (.none rfl) (Ev.pickT rfl rfl) ?_
      refine JL.mv ?_
      refine JL.skip rfl rfl (.noF rfl rfl rfl) ?_
      refine JL.skip rfl rfl (.noF rfl rfl rfl) ?_
      refine JL.val rfl rfl rfl (.none rfl) (Ev.pickT rfl rfl) ?_
      refine JL.nil ?_
      refine JQ.thenN ?_
      refine JC.condT rfl ?_
      refine JC.seq ?_
      refine JC.region ?_
      refine JL.mv ?_
      refine JL.asg ?_
      refine JL.nil ?_
      refine JQ.thenN ?_
      refine JC.ret ?_
      refine JQ.thenR ?_
      refine JQ.end1 (H' := []) (.inl rfl) rfl (.tmp rfl) ?_ ?_
      · exact Sub.k
      · first | rfl | exact congrArg Value.bool (decide_eq_true (congrArg Subtype.val (by rw [rootV_ok hsm2, foV_ok hokt hpl, hpq, hqe, Int.toNat_natCast, ← led_of_path (l := ds.set n c) (i := n) (x := c) (by simp [hin]), List.length_set])))
    · -- guard 24 false
      have hi0 := of_decide_eq_false hgB
      refine JL.val rfl rfl rfl (.yes rfl rfl rfl) (Ev.move rfl) ?_
      refine JL.val rfl rfl rfl (.yes rfl rfl rfl) (Ev.move rfl) ?_
      refine JL.val rfl rfl rfl (.yes rfl rfl rfl) (Ev.lenS rfl Tryd.underlying23) ?_
      refine JL.val rfl rfl rfl (.yes rfl rfl rfl) (Ev.bin rfl rfl geq_int) ?_
      refine JL.val rfl rfl rfl (.none rfl) (Ev.pickF rfl rfl) ?_
      refine JL.mv ?_
      refine JL.split (d := 30) rfl (fun hgC => ?_) (fun hgC => ?_)
      · -- guard 30 true
        refine JL.skip rfl rfl (.noF rfl rfl rfl) ?_
        refine JL.skip rfl rfl (.noF rfl rfl rfl) ?_
        refine JL.val rfl rfl rfl (.none rfl) (Ev.pickT rfl rfl) ?_
        refine JL.nil ?_
        refine JQ.thenN ?_
        refine JC.condT rfl ?_
        refine JC.seq ?_
        refine JC.region ?_
        refine JL.mv ?_
        refine JL.asg ?_
        refine JL.nil ?_
        refine JQ.thenN ?_
        refine JC.ret ?_
        refine JQ.thenR ?_
        refine JQ.end1 (H' := []) (.inl rfl) rfl (.tmp rfl) ?_ ?_
        · exact Sub.k
        · first | rfl | exact congrArg Value.bool (decide_eq_true (congrArg Subtype.val (by rw [rootV_ok hsm2, foV_ok hokt hpl, hpq, hqe, Int.toNat_natCast, ← led_of_path (l := ds.set n c) (i := n) (x := c) (by simp [hin]), List.length_set])))
      · -- guard 30 false
        have hil := of_decide_eq_false hgC
        obtain ⟨n, rfl⟩ : ∃ n : Nat, i = (n : Int) := ⟨i.toNat, by omega⟩
        have hin : n < ds.length := by omega
        have hsm : ¬ 1024 < ds.length := by omega
        have hokp : ¬ ((n : Int) < 0 ∨ (ds.length : Int) ≤ n) := by omega
        obtain ⟨d, hdn⟩ := get_some hin
        obtain ⟨a, rfl⟩ := Cs.get_some hd (by omega)
        have hokt : ¬ badT (n : Int) (ds.length : Int) := by unfold badT; omega
        refine JL.val rfl rfl rfl (.yes rfl rfl rfl) (Ev.move rfl) ?_
        refine JL.val rfl rfl rfl (.yes rfl rfl rfl) (Ev.not rfl) ?_
        refine JL.val rfl rfl rfl (.none rfl) (Ev.pickF rfl rfl) ?_
        refine JL.nil ?_
        refine JQ.thenN ?_
        refine JC.knowF rfl ?_ ?_
        · rfl
        refine JC.skip ?_
        refine JQ.thenN ?_
        refine JC.seq ?_
        refine JC.region ?_
        refine JL.mv ?_
        refine JL.mv ?_
        refine JL.callN rfl (.none rfl) rfl Tryd.call19 (fun w1 hw1 => Path_any (some a) cap ds (n : Int) hib w1 (hd.old hw1) (by omega) (hk.old hw1) (hf.old hw1)) ?_
        rintro _ _ ⟨r1, rfl, rfl, hr1⟩
        refine JL.mv ?_
        refine JL.val rfl rfl rfl (.none rfl) (Ev.ex0 rfl) ?_
        refine JL.val rfl rfl rfl (.none rfl) (Ev.ex1 rfl) ?_
        refine JL.asg ?_
        refine JL.asg ?_
        refine JL.nil ?_
        refine JQ.thenN ?_
        refine JC.seq ?_
        refine JC.region ?_
        refine JL.mv ?_
        refine JL.callN rfl (.none rfl) rfl Tryd.call16 (fun w1 hw1 => dTwin_any (some a) cap ds w1 (hd.old hw1) (by omega)) ?_
        rintro _ _ ⟨r2, rfl, rfl, hr2⟩
        refine JL.asg ?_
        refine JL.nil ?_
        refine JQ.thenN ?_
        refine JC.seq ?_
        refine JC.region ?_
        obtain ⟨q, rfl⟩ : ∃ q, r2 = some q := by cases r2 with | none => (have := hr2.1; omega) | some q => exact ⟨q, rfl⟩
        have hqs : q.cs.size = q.cap * 32 := hr2.2.2.2.1
        have hqc : ds.length ≤ q.cap := hr2.2.1
        refine JL.mv ?_
        refine JL.mv ?_
        refine JL.val rfl rfl rfl (.none rfl) (Ev.lB Tryd.underlying22 Tryd.sizeOf22) ?_
        refine JL.val rfl rfl rfl (.none rfl) (Ev.idxS0n (s := 32) rfl rfl Tryd.underlying23 Tryd.sizeOf22 (k := n) rfl (by omega)) ?_
        refine JL.sto rfl rfl (.none rfl) (Es.store (cs := q.cs) rfl rfl Tryd.sizeOf22 Upd.k (dig_size c) (by omega) (arr8_one _)) ?_
        have hrs := Row.setD c hr2 hin
        refine JL.nil ?_
        refine JQ.thenN ?_
        refine JC.seq ?_
        refine JC.region ?_
        refine JL.re (d := 10) (v' := .slice (some ⟨q.g, 0, none⟩) (ds.set n c).length q.cap) rfl (by rw [List.length_set]; rfl) ?_
        refine JL.mv ?_
        refine JL.mv ?_
        refine JL.callN rfl (.none rfl) rfl Tryd.call19 (fun w1 hw1 => Path_any (some ⟨q.g, 0, none⟩) q.cap (ds.set n c) (n : Int) hib w1 ((Lv.row (w0 := w) hrs).cs hw1 (fun p hp => by cases List.mem_singleton.mp hp; repeat (first | exact List.Mem.head _ | refine List.Mem.tail _ ?_ | refine List.mem_append_right _ ?_))) (by rw [List.length_set]; omega) (hk.old hw1) (hf.old hw1)) ?_
        rintro _ _ ⟨r3, rfl, rfl, hr3⟩
        refine JL.mv ?_
        refine JL.val rfl rfl rfl (.none rfl) (Ev.ex0 rfl) ?_
        refine JL.val rfl rfl rfl (.none rfl) (Ev.ex1 rfl) ?_
        refine JL.asg ?_
        refine JL.asg ?_
        refine JL.nil ?_
        refine JQ.thenN ?_
        refine JC.seq ?_
        refine JC.region ?_
        refine JL.mv ?_
        refine JL.callV rfl (.none rfl) rfl Tryd.call17 (fun w1 hw1 => Root_any (some ⟨q.g, 0, none⟩) q.cap (ds.set n c) w1 ((Lv.row (w0 := w) hrs).cs hw1 (fun p hp => by cases List.mem_singleton.mp hp; repeat (first | exact List.Mem.head _ | refine List.Mem.tail _ ?_ | refine List.mem_append_right _ ?_))) (by rw [List.length_set]; omega) (hk.old hw1) (hf.old hw1)) ?_
        refine JL.mv ?_
        refine JL.val rfl rfl rfl (.none rfl) (Ev.ex0 rfl) ?_
        refine JL.val rfl rfl rfl (.none rfl) (Ev.ex1 rfl) ?_
        refine JL.new rfl rfl rfl (.none rfl) (En.allocZ (cs := arr8 (List.replicate 32 0)) Tryd.zeroValue22 rfl) (fun b13 hb13 => ?_)
        refine JL.sto rfl rfl (.none rfl) (Es.sA Tryd.sizeOf22) ?_
        refine JL.asg ?_
        refine JL.nil ?_
        refine JQ.thenN ?_
        refine JC.seq ?_
        refine JC.region ?_
        obtain ⟨o1, c1, e1, _, hC1⟩ := Row.vw (e := 22) hr1
        refine JL.re (d := 8) rfl e1 ?_
        obtain ⟨o3, c3, e3, _, hC3⟩ := Row.vw (e := 22) hr3
        refine JL.re (d := 11) rfl e3 ?_
        refine JL.val rfl rfl rfl (.none rfl) (Ev.lB Tryd.underlying22 Tryd.sizeOf22) ?_
        refine JL.mv ?_
        refine JL.mv ?_
        refine JL.val rfl rfl rfl (.none rfl) (Ev.lenS rfl Tryd.underlying23) ?_
        refine JL.mv ?_
        refine JL.callV rfl (.none rfl) rfl Tryd.call14 (fun w1 hw1 => Follow_any c (n : Int) (ds.length : Int) hib (by constructor <;> omega) o1 c1 (pathV ds (n : Int)) w1 (hC1 w1 hw1 (fun p hp => by simp [hp])) (hk.old hw1) (hf.old hw1)) ?_
        refine JL.mv ?_
        refine JL.val rfl rfl rfl (.none rfl) (Ev.ex0 rfl) ?_
        refine JL.val rfl rfl rfl (.none rfl) (Ev.ex1 rfl) ?_
        refine JL.new rfl rfl rfl (.none rfl) (En.allocZ (cs := arr8 (List.replicate 32 0)) Tryd.zeroValue22 rfl) (fun b15 hb15 => ?_)
        refine JL.sto rfl rfl (.none rfl) (Es.sA Tryd.sizeOf22) ?_
        refine JL.asg ?_
        refine JL.nil ?_
        refine JQ.thenN ?_
        refine JC.seq ?_
        refine JC.region ?_
        have hsm2 : ¬ 1024 < (ds.set n c).length := by rw [List.length_set]; omega
        have hokp2 : ¬ ((n : Int) < 0 ∨ ((ds.set n c).length : Int) ≤ n) := by rw [List.length_set]; omega
        have hpe := pathV_ok hsm hokp
        have hqe := pathV_ok hsm2 hokp2
        have hpl : (pathV ds (n : Int)).length = stepsR n ds.length := by rw [hpe, Int.toNat_natCast, path_length]
        have hpq : (pathV ds (n : Int)) = (pathV (ds.set n c) (n : Int)) := by rw [hpe, hqe, Int.toNat_natCast, path_of_set]
        refine JL.re (d := 9) (v' := .int .i64 0) rfl (congrArg (Value.int .i64) (pathE_ok hsm hokp)) ?_
        refine JL.re (d := 12) (v' := .int .i64 0) rfl (congrArg (Value.int .i64) (pathE_ok hsm2 hokp2)) ?_
        refine JL.re (d := 14) (v' := .int .i64 0) rfl (congrArg (Value.int .i64) (rootE_ok hsm2)) ?_
        refine JL.re (d := 16) (v' := .int .i64 0) rfl (congrArg (Value.int .i64) (foE_ok hokt hpl)) ?_
        refine JL.mv ?_
        refine JL.mv ?_
        refine JL.know (d := 68) (b := true) rfl ?_ ?_
        · rfl
        refine JL.val rfl rfl rfl (.yes rfl rfl rfl) (Ev.move rfl) ?_
        refine JL.val rfl rfl rfl (.yes rfl rfl rfl) (Ev.bin rfl rfl eql_int) ?_
        refine JL.val rfl rfl rfl (.none rfl) (Ev.pickT rfl rfl) ?_
        refine JL.mv ?_
        refine JL.know (d := 72) (b := true) rfl ?_ ?_
        · rfl
        refine JL.val rfl rfl rfl (.yes rfl rfl rfl) (Ev.move rfl) ?_
        refine JL.val rfl rfl rfl (.yes rfl rfl rfl) (Ev.bin rfl rfl eql_int) ?_
        refine JL.val rfl rfl rfl (.none rfl) (Ev.pickT rfl rfl) ?_
        refine JL.mv ?_
        refine JL.know (d := 76) (b := true) rfl ?_ ?_
        · rfl
        refine JL.val rfl rfl rfl (.yes rfl rfl rfl) (Ev.move rfl) ?_
        refine JL.val rfl rfl rfl (.yes rfl rfl rfl) (Ev.bin rfl rfl eql_int) ?_
        refine JL.val rfl rfl rfl (.none rfl) (Ev.pickT rfl rfl) ?_
        refine JL.mv ?_
        refine JL.know (d := 80) (b := true) rfl ?_ ?_
        · rfl
        refine JL.val rfl rfl rfl (.yes rfl rfl rfl) (Ev.move rfl) ?_
        refine JL.val rfl rfl rfl (.yes rfl rfl rfl) (Ev.bin rfl rfl eql_int) ?_
        refine JL.val rfl rfl rfl (.none rfl) (Ev.pickT rfl rfl) ?_
        refine JL.mv ?_
        refine JL.know (d := 84) (b := true) rfl ?_ ?_
        · rfl
        refine JL.val rfl rfl rfl (.yes rfl rfl rfl) (Ev.move rfl) ?_
        refine JL.val rfl rfl rfl (.yes rfl rfl rfl) (Ev.move rfl) ?_
        refine JL.callV rfl (.yes rfl rfl rfl) rfl Tryd.call21 (fun w1 hw1 => dSame_any o1 o3 c1 c3 (pathV ds (n : Int)) (pathV (ds.set n c) (n : Int)) w1 (hC1 w1 hw1 (fun p hp => by simp [hp])) (hC3 w1 hw1 (fun p hp => by simp [hp])) (Nat.le_trans (pathV_le _ _) (by omega))) ?_
        refine JL.val rfl rfl rfl (.none rfl) (Ev.pickT rfl rfl) ?_
        refine JL.mv ?_
        refine JL.know (d := 89) (b := true) rfl ?_ ?_
        · exact decide_eq_true hpq
        refine JL.val rfl rfl rfl (.yes rfl rfl rfl) (Ev.lB Tryd.underlying22 Tryd.sizeOf22) ?_
        refine JL.val rfl rfl rfl (.yes rfl rfl rfl) (Ev.lB Tryd.underlying22 Tryd.sizeOf22) ?_
        refine JL.val rfl rfl rfl (.yes rfl rfl rfl) (Ev.bin rfl rfl (eql_arr8 (n := 32) Tryd.underlying22 Tryd.underlying5 (by kernel_rfl) (by kernel_rfl) (by first | rfl | exact dig_len _ | assumption | exact sha_length _ | exact shaO_length _) (by first | rfl | exact dig_len _ | assumption | exact sha_length _ | exact shaO_length _))) ?_
        refine JL.val rfl rfl rfl (.none rfl) (Ev.pickT rfl rfl) ?_
        refine JL.asg ?_
        refine JL.nil ?_
        refine JQ.thenN ?_
        refine JC.ret ?_
        refine JQ.end1 (H' := []) (.inl rfl) rfl (.tmp rfl) ?_ ?_
        · exact Sub.k
        · first | rfl | exact congrArg Value.bool (decide_eq_true (congrArg Subtype.val (by rw [rootV_ok hsm2, foV_ok hokt hpl, hpq, hqe, Int.toNat_natCast, ← led_of_path (l := ds.set n c) (i := n) (x := c) (by simp [hin]), List.length_set])))

theorem lawParts_any (oa : Option Addr) (cap : Nat) (ds : List Dig) (w : World) (hd : Dl w oa cap ds) (hk : KMem 1 w) (hf : FMem 0 w) :
    Calls Tryd.prog 5 #[.slice oa ds.length cap] w (Ret w (fun v _ => v = .bool true)) := by
  refine enter (vs := [.slice oa ds.length cap]) Tryd.func5 rfl Tryd.ntmps5 rfl ?_
  refine JC.seq ?_
  refine JC.region ?_
  refine JL.asg ?_
  refine JL.nil ?_
  refine JQ.thenN ?_
  refine JC.seq ?_
  refine JC.region ?_
  refine JL.callV rfl (.none rfl) rfl Tryd.call22 (fun w1 hw1 => alive_any w1 (hk.old hw1) (hf.old hw1)) ?_
  refine JL.asg ?_
  refine JL.nil ?_
  refine JQ.thenN ?_
  refine JC.seq ?_
  refine JC.seq ?_
  refine JC.region ?_
  refine JL.mv ?_
  refine JL.callV rfl (.none rfl) rfl Tryd.call11 (fun w1 hw1 => great_any oa ds.length cap w1) ?_
  refine JL.mv ?_
  refine JL.split (d := 14) rfl (fun hgA => ?_) (fun hgA => ?_)
  · -- guard 14 true
    refine JL.skip rfl rfl (.noF rfl rfl rfl) ?_
    refine JL.skip rfl rfl (.noF rfl rfl rfl) ?_
    refine JL.val rfl rfl rfl (.none rfl) (Ev.pickT rfl rfl) ?_
    refine JL.nil ?_
    refine JQ.thenN ?_
    refine JC.condT rfl ?_
    refine JC.seq ?_
    refine JC.region ?_
    refine JL.mv ?_
    refine JL.asg ?_
    refine JL.nil ?_
    refine JQ.thenN ?_
    refine JC.ret ?_
    refine JQ.thenR ?_
    refine JQ.end1 (H' := []) (.inl rfl) rfl (.tmp rfl) ?_ ?_
    · exact Sub.k
    · first | rfl | exact congrArg Value.bool (decide_eq_true (congrArg Subtype.val (by rw [rootV_ok hsm, rootV_ok (show ¬ 1024 < (ds.take (bel ds.length)).length by omega), rootV_ok (show ¬ 1024 < (ds.drop (bel ds.length)).length by omega), ← rootR_split h2])))
  · -- guard 14 false
    have hg130 : ¬ 130 < (ds.length : Int) := of_decide_eq_false hgA
    have hsm : ¬ 1024 < ds.length := by omega
    refine JL.val rfl rfl rfl (.yes rfl rfl rfl) (Ev.move rfl) ?_
    refine JL.val rfl rfl rfl (.yes rfl rfl rfl) (Ev.not rfl) ?_
    refine JL.val rfl rfl rfl (.none rfl) (Ev.pickF rfl rfl) ?_
    refine JL.nil ?_
    refine JQ.thenN ?_
    refine JC.knowF rfl ?_ ?_
    · rfl
    refine JC.skip ?_
    refine JQ.thenN ?_
    refine JC.seq ?_
    refine JC.region ?_
    refine JL.mv ?_
    refine JL.callV rfl (.none rfl) rfl Tryd.call17 (fun w1 hw1 => Root_any oa cap ds w1 (hd.old hw1) (by omega) (hk.old hw1) (hf.old hw1)) ?_
    refine JL.mv ?_
    refine JL.val rfl rfl rfl (.none rfl) (Ev.ex0 rfl) ?_
    refine JL.val rfl rfl rfl (.none rfl) (Ev.ex1 rfl) ?_
    refine JL.new rfl rfl rfl (.none rfl) (En.allocZ (cs := arr8 (List.replicate 32 0)) Tryd.zeroValue22 rfl) (fun b4 hb4 => ?_)
    refine JL.sto rfl rfl (.none rfl) (Es.sA Tryd.sizeOf22) ?_
    refine JL.asg ?_
    refine JL.nil ?_
    refine JQ.thenN ?_
    refine JC.seq ?_
    refine JC.seq ?_
    refine JC.regionQ (by kernel_rfl) (by kernel_rfl) ?_
    refine JW.re (d := 5) (v' := .int .i64 0) rfl (congrArg (Value.int .i64) (rootE_ok hsm)) ?_
    refine JW.val rfl rfl (.none rfl) (Ev.move rfl) ?_
    refine JW.val rfl rfl (.none rfl) (Ev.bin rfl rfl neq_int) ?_
    refine JW.val rfl rfl (.none rfl) (Ev.move rfl) ?_
    refine JW.know (d := 26) (b := false) rfl ?_ ?_
    · rfl
    refine JW.val rfl rfl (.yes rfl rfl rfl) (Ev.move rfl) ?_
    refine JW.val rfl rfl (.yes rfl rfl rfl) (Ev.lenS rfl Tryd.underlying23) ?_
    refine JW.val rfl rfl (.yes rfl rfl rfl) (Ev.bin rfl rfl eql_int) ?_
    refine JW.val rfl rfl (.yes rfl rfl rfl) (Ev.move rfl) ?_
    refine JW.split (d := 30) rfl (fun hgB => ?_) (fun hgB => ?_)
    · -- guard 30 true
      have h1 : ds.length = 1 := by have := of_decide_eq_true hgB; omega
      obtain ⟨a, rfl⟩ := Cs.get_some hd (by omega)
      obtain ⟨d, hd0⟩ := get_some (l := ds) (k := 0) (by omega)
      refine JW.val rfl rfl (.yes rfl rfl rfl) (Ev.lB Tryd.underlying22 Tryd.sizeOf22) ?_
      refine JW.val rfl rfl (.yes rfl rfl rfl) (Ev.move rfl) ?_
      refine JW.val rfl rfl (.yes rfl rfl rfl) (Ev.idxS (k := 0) rfl rfl Tryd.underlying23 Tryd.sizeOf22 rfl (by omega)) ?_
      refine JW.val rfl rfl (.yes rfl rfl rfl) (Ev.loadD rfl Tryd.underlying22 rfl Tryd.sizeOf22 (Rds.old ((hd.mem a rfl).atD hd0))) ?_
      refine JW.val rfl rfl (.yes rfl rfl rfl) (Ev.bin rfl rfl (neq_arr8 (n := 32) Tryd.underlying22 Tryd.underlying5 (by kernel_rfl) (by kernel_rfl) (by first | rfl | exact dig_len _ | assumption | exact sha_length _ | exact shaO_length _) (by first | rfl | exact dig_len _ | assumption | exact sha_length _ | exact shaO_length _))) ?_
      refine JW.val rfl rfl (.yes rfl rfl rfl) (Ev.pickT rfl rfl) ?_
      refine JW.val rfl rfl (.none rfl) (Ev.pickF rfl rfl) ?_
      refine JW.nilQ ?_
      refine JQ.thenN ?_
      refine JC.knowF rfl ?_ ?_
      · first | rfl | (rw [rootV_ok hsm, rootR_len1 h1 hd0]; simp)
      refine JC.skip ?_
      refine JQ.thenN ?_
      refine JC.seq ?_
      refine JC.seq ?_
      refine JC.region ?_
      refine JL.mv ?_
      refine JL.val rfl rfl rfl (.none rfl) (Ev.lenS rfl Tryd.underlying23) ?_
      refine JL.val rfl rfl rfl (.none rfl) (Ev.bin rfl rfl lss_int) ?_
      refine JL.nil ?_
      refine JQ.thenN ?_
      refine JC.knowT rfl ?_ ?_
      · exact decide_eq_true (by omega)
      refine JC.seq ?_
      refine JC.region ?_
      refine JL.mv ?_
      refine JL.asg ?_
      refine JL.nil ?_
      refine JQ.thenN ?_
      refine JC.ret ?_
      refine JQ.thenR ?_
      refine JQ.end1 (H' := []) (.inl rfl) rfl (.tmp rfl) ?_ ?_
      · exact Sub.k
      · first | rfl | exact congrArg Value.bool (decide_eq_true (congrArg Subtype.val (by rw [rootV_ok hsm, rootV_ok (show ¬ 1024 < (ds.take (bel ds.length)).length by omega), rootV_ok (show ¬ 1024 < (ds.drop (bel ds.length)).length by omega), ← rootR_split h2])))
    · -- guard 30 false
      refine JW.skip rfl rfl (.noT rfl rfl rfl) ?_
      refine JW.skip rfl rfl (.noT rfl rfl rfl) ?_
      refine JW.skip rfl rfl (.noT rfl rfl rfl) ?_
      refine JW.skip rfl rfl (.noT rfl rfl rfl) ?_
      refine JW.skip rfl rfl (.noT rfl rfl rfl) ?_
      refine JW.val rfl rfl (.yes rfl rfl rfl) (Ev.pickF rfl rfl) ?_
      refine JW.val rfl rfl (.none rfl) (Ev.pickF rfl rfl) ?_
      refine JW.nilQ ?_
      refine JQ.thenN ?_
      refine JC.condF rfl ?_
      refine JC.skip ?_
      refine JQ.thenN ?_
      refine JC.seq ?_
      refine JC.seq ?_
      refine JC.region ?_
      refine JL.mv ?_
      refine JL.val rfl rfl rfl (.none rfl) (Ev.lenS rfl Tryd.underlying23) ?_
      refine JL.val rfl rfl rfl (.none rfl) (Ev.bin rfl rfl lss_int) ?_
      refine JL.nil ?_
      refine JQ.thenN ?_
      refine JC.cond rfl (fun hc1 => ?_) (fun hc1 => ?_)
      · -- t40 True
        replace hc1 := of_decide_eq_true hc1
        refine JC.seq ?_
        refine JC.region ?_
        refine JL.mv ?_
        refine JL.asg ?_
        refine JL.nil ?_
        refine JQ.thenN ?_
        refine JC.ret ?_
        refine JQ.thenR ?_
        refine JQ.end1 (H' := []) (.inl rfl) rfl (.tmp rfl) ?_ ?_
        · exact Sub.k
        · first | rfl | exact congrArg Value.bool (decide_eq_true (congrArg Subtype.val (by rw [rootV_ok hsm, rootV_ok (show ¬ 1024 < (ds.take (bel ds.length)).length by omega), rootV_ok (show ¬ 1024 < (ds.drop (bel ds.length)).length by omega), ← rootR_split h2])))
      · -- t40 False
        replace hc1 := of_decide_eq_false hc1
        have hl2 : 2 ≤ ds.length := by omega
        refine JC.skip ?_
        refine JQ.thenN ?_
        refine JC.seq ?_
        refine JC.region ?_
        refine JL.asg ?_
        refine JL.nil ?_
        refine JQ.thenN ?_
        refine JC.seq ?_
        refine JC.block ?_
        refine JC.loop (X := Nat × Nat)
          (fun ⟨j, p⟩ => [(0, .slice oa ds.length cap), (3, .bool true), (6, .int .i64 (p : Int)), (4, .pointer (some ⟨b4, 0, none⟩))])
          (fun ⟨j, p⟩ => [(b4, Obj.cells (arr8 (rootV ds).1) 22 (0, 0))])
          (fun ⟨j, p⟩ => p = 2 ^ j ∧ p < ds.length)
          (fun ⟨j, p⟩ => ds.length - p) (0, 1) ?_ ?_ ?_ ?_
        · exact Keeps.k
        · exact Sub.k
        · exact ⟨rfl, by omega⟩
        rintro ⟨j, p⟩ ⟨hp, hpn⟩
        have hp1 : 1 ≤ p := by rw [hp]; exact Nat.one_le_two_pow
        refine JC.seq ?_
        refine JC.seq ?_
        refine JC.region ?_
        refine JL.mv ?_
        refine JL.val rfl rfl rfl (.none rfl) (Ev.bin rfl rfl (mul_i64 (by omega))) ?_
        refine JL.mv ?_
        refine JL.val rfl rfl rfl (.none rfl) (Ev.lenS rfl Tryd.underlying23) ?_
        refine JL.val rfl rfl rfl (.none rfl) (Ev.bin rfl rfl lss_int) ?_
        refine JL.nil ?_
        refine JQ.thenN ?_
        refine JC.cond rfl (fun hc2 => ?_) (fun hc2 => ?_)
        · -- t46 True
          replace hc2 := of_decide_eq_true hc2
          refine JC.skip ?_
          refine JQ.thenN ?_
          refine JC.block ?_
          refine JC.region ?_
          refine JL.mv ?_
          refine JL.val rfl rfl rfl (.none rfl) (Ev.bin rfl rfl (mul_i64 (by omega))) ?_
          refine JL.asg ?_
          refine JL.nil ?_
          refine JQ.blockN ?_
          refine JQ.re (d := 6) (v' := .int .i64 ((2 * p : Nat) : Int)) rfl (congrArg (Value.int .i64) (by omega)) ?_
          refine JQ.loopN (j + 1, 2 * p) ?_ ?_ ?_ ?_
          · exact Keeps.k
          · exact Sub.k
          · exact ⟨by rw [Nat.pow_succ, ← hp]; omega, by omega⟩
          · show ds.length - 2 * p < ds.length - p; omega
        · -- t46 False
          replace hc2 := of_decide_eq_false hc2
          obtain rfl : p = bel ds.length := by rw [hp]; exact (bel_of (by omega) (by rw [Nat.pow_succ, ← hp]; omega)).symm
          have h2 : 2 ≤ ds.length := by omega
          have hbl := bel_lt h2
          have hbp := bel_pos ds.length
          obtain ⟨ob, eob, hob⟩ := Dl.drop hd (show bel ds.length ≤ ds.length by omega)
          have htl : (ds.take (bel ds.length)).length = bel ds.length := by rw [List.length_take]; omega
          have hdl : (ds.drop (bel ds.length)).length = ds.length - bel ds.length := List.length_drop
          refine JC.exit ?_
          refine JQ.thenE ?_
          refine JQ.thenE ?_
          refine JQ.blockE ?_
          refine JQ.thenN ?_
          refine JC.seq ?_
          refine JC.region ?_
          refine JL.mv ?_
          refine JL.mv ?_
          refine JL.val rfl rfl rfl (.none rfl) (Ev.cast (v' := .slice oa (ds.take (bel ds.length)).length cap) (by rw [sub3_0, htl]) (Ev.sliceHi rfl rfl Tryd.underlying23 Tryd.sizeOf22 (h := bel ds.length) rfl (by have := hd.le; omega))) ?_
          refine JL.callV rfl (.none rfl) rfl Tryd.call17 (fun w1 hw1 => Root_any oa cap (ds.take (bel ds.length)) w1 (Dl.take (hd.old hw1) (by omega)) (by omega) (hk.old hw1) (hf.old hw1)) ?_
          refine JL.mv ?_
          refine JL.val rfl rfl rfl (.none rfl) (Ev.ex0 rfl) ?_
          refine JL.val rfl rfl rfl (.none rfl) (Ev.ex1 rfl) ?_
          refine JL.new rfl rfl rfl (.none rfl) (En.allocZ (cs := arr8 (List.replicate 32 0)) Tryd.zeroValue22 rfl) (fun b7 hb7 => ?_)
          refine JL.sto rfl rfl (.none rfl) (Es.sA Tryd.sizeOf22) ?_
          refine JL.asg ?_
          refine JL.nil ?_
          refine JQ.thenN ?_
          refine JC.seq ?_
          refine JC.region ?_
          refine JL.mv ?_
          refine JL.mv ?_
          refine JL.val rfl rfl rfl (.none rfl) (Ev.cast (v' := .slice ob (ds.drop (bel ds.length)).length (cap - bel ds.length)) (eob) (Ev.sliceLo rfl rfl Tryd.underlying23 Tryd.sizeOf22 (l := bel ds.length) rfl (by omega))) ?_
          refine JL.callV rfl (.none rfl) rfl Tryd.call17 (fun w1 hw1 => Root_any ob (cap - bel ds.length) (ds.drop (bel ds.length)) w1 (hob w1 (hd.old hw1)) (by omega) (hk.old hw1) (hf.old hw1)) ?_
          refine JL.mv ?_
          refine JL.val rfl rfl rfl (.none rfl) (Ev.ex0 rfl) ?_
          refine JL.val rfl rfl rfl (.none rfl) (Ev.ex1 rfl) ?_
          refine JL.new rfl rfl rfl (.none rfl) (En.allocZ (cs := arr8 (List.replicate 32 0)) Tryd.zeroValue22 rfl) (fun b9 hb9 => ?_)
          refine JL.sto rfl rfl (.none rfl) (Es.sA Tryd.sizeOf22) ?_
          refine JL.asg ?_
          refine JL.nil ?_
          refine JQ.thenN ?_
          refine JC.seq ?_
          refine JC.regionQ (by kernel_rfl) (by kernel_rfl) ?_
          refine JW.re (d := 8) (v' := .int .i64 0) rfl (congrArg (Value.int .i64) (rootE_ok (by omega))) ?_
          refine JW.re (d := 10) (v' := .int .i64 0) rfl (congrArg (Value.int .i64) (rootE_ok (by omega))) ?_
          refine JW.val rfl rfl (.none rfl) (Ev.move rfl) ?_
          refine JW.val rfl rfl (.none rfl) (Ev.move rfl) ?_
          refine JW.know (d := 64) (b := true) rfl ?_ ?_
          · rfl
          refine JW.val rfl rfl (.yes rfl rfl rfl) (Ev.move rfl) ?_
          refine JW.val rfl rfl (.yes rfl rfl rfl) (Ev.bin rfl rfl eql_int) ?_
          refine JW.val rfl rfl (.none rfl) (Ev.pickT rfl rfl) ?_
          refine JW.val rfl rfl (.none rfl) (Ev.move rfl) ?_
          refine JW.know (d := 68) (b := true) rfl ?_ ?_
          · rfl
          refine JW.val rfl rfl (.yes rfl rfl rfl) (Ev.move rfl) ?_
          refine JW.val rfl rfl (.yes rfl rfl rfl) (Ev.bin rfl rfl eql_int) ?_
          refine JW.val rfl rfl (.none rfl) (Ev.pickT rfl rfl) ?_
          refine JW.val rfl rfl (.none rfl) (Ev.move rfl) ?_
          refine JW.know (d := 72) (b := true) rfl ?_ ?_
          · rfl
          refine JW.val rfl rfl (.yes rfl rfl rfl) (Ev.lB Tryd.underlying22 Tryd.sizeOf22) ?_
          refine JW.val rfl rfl (.yes rfl rfl rfl) (Ev.lB Tryd.underlying22 Tryd.sizeOf22) ?_
          refine JW.val rfl rfl (.yes rfl rfl rfl) (Ev.lB Tryd.underlying22 Tryd.sizeOf22) ?_
          refine JW.call rfl (.yes rfl rfl rfl) rfl Tryd.call23 (fun w1 hw1 => nodeG_any _ _ w1 (hk.old hw1) (hf.old hw1)) ?_
          refine JW.val rfl rfl (.yes rfl rfl rfl) (Ev.bin rfl rfl (eql_arr8 (n := 32) Tryd.underlying22 Tryd.underlying5 (by kernel_rfl) (by kernel_rfl) (by first | rfl | exact dig_len _ | assumption | exact sha_length _ | exact shaO_length _) (by first | rfl | exact dig_len _ | assumption | exact sha_length _ | exact shaO_length _))) ?_
          refine JW.val rfl rfl (.none rfl) (Ev.pickT rfl rfl) ?_
          refine JW.val rfl rfl (.none rfl) (Ev.assign rfl) ?_
          refine JW.nilQ ?_
          refine JQ.thenN ?_
          refine JC.ret ?_
          refine JQ.end1 (H' := []) (.inl rfl) rfl (.tmp rfl) ?_ ?_
          · exact Sub.k
          · first | rfl | exact congrArg Value.bool (decide_eq_true (congrArg Subtype.val (by rw [rootV_ok hsm, rootV_ok (show ¬ 1024 < (ds.take (bel ds.length)).length by omega), rootV_ok (show ¬ 1024 < (ds.drop (bel ds.length)).length by omega), ← rootR_split h2])))

end Go.Proofs.YtebinlinhmohbaaDoor
