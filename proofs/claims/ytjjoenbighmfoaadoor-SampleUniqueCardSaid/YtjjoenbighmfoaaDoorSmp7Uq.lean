/-
  The chapter's examples.
-/
import Derived.Test.YtjjoenbighmfoaaDoorSmp3Uq
import Derived.Test.YtjjoenbighmfoaaDoorSmp6Uq
namespace Go.Proofs.YtjjoenbighmfoaaDoor
open Go Go.RowKit
set_option maxRecDepth 100000

def exL : List Pl := [(1, 0), (0, 1), (1, 0)]
theorem exA1 : atV [2, 0, 3] 2 = (2, 0) := by decide
theorem exA2 : atE [2, 0, 3] 2 = 0 := by decide
theorem exA3 : atV [2, 0, 3] 5 = (0, 0) := by decide
theorem exA4 : atE [2, 0, 3] 5 = 6 := by decide
theorem exN1 : nuV [2, 0, 3] (2, 2) = 4 := by decide
theorem exN2 : nuE [2, 0, 3] (2, 2) = 0 := by decide
theorem exN3 : nuV [2, 0, 3] (1, 0) = 0 := by decide
theorem exN4 : nuE [2, 0, 3] (1, 0) = 6 := by decide
theorem exT1 : totV [65] = 0 := by decide
theorem exT2 : mayE [65] = 2 := by decide
theorem exT3 : totV (List.replicate 17 0) = 0 := by decide
theorem exT4 : mayE (List.replicate 17 0) = 4 := by decide
theorem exT5 : totV [2, 0, 3] = 5 := by decide
theorem exT6 : mayE [2, 0, 3] = 0 := by decide
theorem exU : unL exL = [(0, 1), (1, 0)] := by decide
theorem exC : cntP exL (1, 0) = 2 := by decide
theorem exB : inB exL 1 = [0] := by decide
theorem small_one (x : UInt64) : small 1 x := by
  have := x.toNat_lt
  show x.toNat + 18446744073709551616 % 1 < 18446744073709551616
  omega
theorem drawn_one (s : List UInt8) (i : UInt32) : drawn s i 1 = some 0 := by
  rw [drawn_some (k := 0) (by decide) (fun j hj => by omega) (small_one _)]
  congr 1
  apply UInt64.toNat_inj.1
  rw [UInt64.toNat_mod]
  exact Nat.mod_one _
theorem exD {s : List UInt8} : sampE s 0 3 1 = 0 ∧ sampL s 0 3 1 = [0, 0, 0] := by
  have h1 : ¬ badS 0 ((3 : Nat) : Int) 1 := by unfold badS; decide
  have h2 : allD s 0 1 3 := fun k _ => by rw [drawn_one]; rfl
  refine ⟨sampE_all h1 (by decide) h2, (sampL_all h1 (by decide) h2).trans ?_⟩
  simp [draws, drawnV, drawn_one, List.range_succ]
theorem exP1 {s : List UInt8} : posV s 0 3 [0, 1] = [(1, 0), (1, 0), (1, 0)] := by
  rw [posV_ok (by decide) (by decide), show NZ [0, 1] = 1 from rfl, exD.2]
  rfl
theorem exP2 {s : List UInt8} : posE s 0 3 [0, 1] = 0 := by
  rw [posE_ok (by decide) (by decide), show NZ [0, 1] = 1 from rfl, exD.1]
theorem exP3 {s : List UInt8} : posV s 0 3 [0, 0] = [] := posV_nil (by decide)
theorem exP4 {s : List UInt8} : posE s 0 3 [0, 0] = 6 := posE_nil (by decide) (by decide)
theorem exP5 {s : List UInt8} : posV s 0 (-1) [1] = [] := by
  rw [posV_ok (by decide) (by decide), sampL_bad (.inl (by decide))]
  rfl
theorem exP6 {s : List UInt8} : posE s 0 (-1) [1] = 2 := by
  rw [posE_ok (by decide) (by decide), sampE_bad (.inl (by decide))]
section
variable {c : Cx} {σ : Slots} {H : Blocks} {ty : TypeId} {pos : String} {af : Array Edge} {gd : Option (Nat × Bool)} {dst : Option Nat}
theorem En.mkK {T e : TypeId} {x y : Operand} {u v : Value} {n : Nat} {vs : List Value} (hx : ev σ x = some u) (hy : ev σ y = some v)
    (h : ∀ w, (Instr.makeSlice T u v).run c.P w = .ok (.slice (some ⟨w.heap.size, 0, none⟩) n n) (w.alloc (.cells vs.toArray e (0, 0)))) :
    En c σ H ⟨dst, .makeSlice T x y, ty, pos, af, gd⟩ (fun b => .slice (some ⟨b, 0, none⟩) n n) (.cells vs.toArray e (0, 0)) := fun A w hf _ => by
  have e0 : execOp A.eval ⟨dst, .makeSlice T x y, ty, pos, af, gd⟩ = (do pure (Next.value (← Instr.makeSlice T (A.eval x) (A.eval y)))) := rfl
  rw [e0, hf.ev hx, hf.ev hy]
  simp [h]
theorem En.bsPl {T e : TypeId} {n : Nat} {parts : List (Nat × Operand)} {ps : List Pl} {z : Value} (hx : evs σ (parts.map (·.2)) = some (ps.map fun p => .agg (plc p).toArray)) (hp : parts.map (·.1) = List.range n) (hT : c.P.underlying T = some (.slice e)) (hs : ∀ w, (sizeOf e).run c.P w = .ok 2 w)
    (hz : ∀ w, (zeroValue e).run c.P w = .ok z w) (hn : n * 2 ≤ 16777216) (hn0 : 0 < n) :
    En c σ H ⟨dst, .buildSlice T n parts.toArray, ty, pos, af, gd⟩ (fun g => .slice (some ⟨g, 0, none⟩) n n) (.cells (pf ps).toArray e (0, 0)) := by
  have h := En.bsA (c := c) (σ := σ) (H := H) (dst := dst) (ty := ty) (pos := pos) (af := af) (gd := gd) (s := 2) hx hp hT hs hz (fun v hv => by
    obtain ⟨p, _, rfl⟩ := List.mem_map.1 hv
    rfl) (by decide) hn hn0
  have e1 : (ps.map fun p => Value.agg (plc p).toArray).flatMap (·.cells.toList) = pf ps := by
    rw [List.flatMap_map]
    rfl
  rw [e1] at h
  exact h
end

theorem sExamples_any (w : World) (hk : KMem 1 w) (hf : FMem 0 w) :
    Calls Tryd.prog 4 #[] w (Ret w (fun v _ => v = .bool true)) := by
  refine enter (vs := []) Tryd.func4 rfl Tryd.ntmps4 rfl ?_
  refine JC.seq ?_
  refine JC.region ?_
  refine JL.asg ?_
  refine JL.nil ?_
  refine JQ.thenN ?_
  refine JC.seq ?_
  refine JC.region ?_
  refine JL.new rfl rfl rfl (.none rfl) (En.bsN (e := 3) rfl (fun _ => by kernel_rfl)) (fun b23 hb23 => ?_)
  refine JL.asg ?_
  refine JL.nil ?_
  refine JQ.thenN ?_
  refine JC.seq ?_
  refine JC.region ?_
  refine JL.mv ?_
  refine JL.callV rfl (.none rfl) rfl Tryd.call14 (fun w1 hw1 => sAt_any (some ⟨b23, 0, none⟩) 3 [2, 0, 3] 2 (by decide) w1 (Cs.own hw1 (xs := ints [2, 0, 3]) memK 3 (by decide))) ?_
  refine JL.re (d := 26) (v' := .tuple #[.agg (plc (2, 0)).toArray, .int .i64 0]) rfl (by rw [exA1, exA2]) ?_
  refine JL.mv ?_
  refine JL.val rfl rfl rfl (.none rfl) (Ev.ex0 rfl) ?_
  refine JL.val rfl rfl rfl (.none rfl) (Ev.ex1 rfl) ?_
  refine JL.new rfl rfl rfl (.none rfl) (En.allocZ (cs := (plc (0, 0)).toArray) Tryd.zeroValue27 rfl) (fun b2 hb2 => ?_)
  refine JL.sto rfl rfl (.none rfl) (Es.storeA rfl rfl Tryd.sizeOf27 Upd.k rfl rfl (plc_one _)) ?_
  refine JL.asg ?_
  refine JL.nil ?_
  refine JQ.thenN ?_
  refine JC.seq ?_
  refine JC.region ?_
  refine JL.mv ?_
  refine JL.val rfl rfl rfl (.none rfl) (Ev.bu2 rfl rfl rfl rfl Tryd.underlying27 (fun _ => by kernel_rfl) Tryd.zeroValue27) ?_
  refine JL.callV rfl (.none rfl) rfl Tryd.call15 (fun w1 hw1 => sNumber_any (some ⟨b23, 0, none⟩) 3 [2, 0, 3] (2, 2) w1 (Cs.own hw1 (xs := ints [2, 0, 3]) memK 3 (by decide))) ?_
  refine JL.re (d := 32) (v' := .tuple #[.int .i64 4, .int .i64 0]) rfl (by rw [exN1, exN2]) ?_
  refine JL.mv ?_
  refine JL.val rfl rfl rfl (.none rfl) (Ev.ex0 rfl) ?_
  refine JL.val rfl rfl rfl (.none rfl) (Ev.ex1 rfl) ?_
  refine JL.asg ?_
  refine JL.asg ?_
  refine JL.nil ?_
  refine JQ.thenN ?_
  refine JC.seq ?_
  refine JC.region ?_
  refine JL.mv ?_
  refine JL.callV rfl (.none rfl) rfl Tryd.call14 (fun w1 hw1 => sAt_any (some ⟨b23, 0, none⟩) 3 [2, 0, 3] 5 (by decide) w1 (Cs.own hw1 (xs := ints [2, 0, 3]) memK 3 (by decide))) ?_
  refine JL.re (d := 37) (v' := .tuple #[.agg (plc (0, 0)).toArray, .int .i64 6]) rfl (by rw [exA3, exA4]) ?_
  refine JL.mv ?_
  refine JL.val rfl rfl rfl (.none rfl) (Ev.ex0 rfl) ?_
  refine JL.val rfl rfl rfl (.none rfl) (Ev.ex1 rfl) ?_
  refine JL.new rfl rfl rfl (.none rfl) (En.allocZ (cs := (plc (0, 0)).toArray) Tryd.zeroValue27 rfl) (fun b6 hb6 => ?_)
  refine JL.sto rfl rfl (.none rfl) (Es.storeA rfl rfl Tryd.sizeOf27 Upd.k rfl rfl (plc_one _)) ?_
  refine JL.asg ?_
  refine JL.nil ?_
  refine JQ.thenN ?_
  refine JC.seq ?_
  refine JC.region ?_
  refine JL.mv ?_
  refine JL.val rfl rfl rfl (.none rfl) (Ev.build (parts := [(0, .const (.int .i64 1))]) (vs := [(0, .int .i64 1)]) (cs := (plc (1, 0)).toArray) (fun _ _ => rfl) (fun _ => by kernel_rfl)) ?_
  refine JL.callV rfl (.none rfl) rfl Tryd.call15 (fun w1 hw1 => sNumber_any (some ⟨b23, 0, none⟩) 3 [2, 0, 3] (1, 0) w1 (Cs.own hw1 (xs := ints [2, 0, 3]) memK 3 (by decide))) ?_
  refine JL.re (d := 43) (v' := .tuple #[.int .i64 0, .int .i64 6]) rfl (by rw [exN3, exN4]) ?_
  refine JL.mv ?_
  refine JL.val rfl rfl rfl (.none rfl) (Ev.ex0 rfl) ?_
  refine JL.val rfl rfl rfl (.none rfl) (Ev.ex1 rfl) ?_
  refine JL.asg ?_
  refine JL.asg ?_
  refine JL.nil ?_
  refine JQ.thenN ?_
  refine JC.seq ?_
  refine JC.region ?_
  refine JL.new rfl rfl rfl (.none rfl) (En.bsN (e := 3) rfl (fun _ => by kernel_rfl)) (fun b47 hb47 => ?_)
  refine JL.callV rfl (.none rfl) rfl Tryd.call16 (fun w1 hw1 => sTotal_any (some ⟨b47, 0, none⟩) 1 [65] w1 (Cs.own hw1 (xs := ints [65]) memK 1 (by decide))) ?_
  refine JL.re (d := 48) (v' := .tuple #[.int .i64 0, .int .i64 2]) rfl (by rw [exT1, exT2]) ?_
  refine JL.mv ?_
  refine JL.val rfl rfl rfl (.none rfl) (Ev.ex0 rfl) ?_
  refine JL.val rfl rfl rfl (.none rfl) (Ev.ex1 rfl) ?_
  refine JL.asg ?_
  refine JL.asg ?_
  refine JL.nil ?_
  refine JQ.thenN ?_
  refine JC.seq ?_
  refine JC.region ?_
  refine JL.new rfl rfl rfl (.none rfl) (En.mkK (e := 3) (n := 17) (vs := ints (List.replicate 17 0)) rfl rfl (fun _ => by kernel_rfl)) (fun b52 hb52 => ?_)
  refine JL.callV rfl (.none rfl) rfl Tryd.call16 (fun w1 hw1 => sTotal_any (some ⟨b52, 0, none⟩) 17 (List.replicate 17 0) w1 (Cs.own hw1 (xs := ints (List.replicate 17 0)) memK 17 (by decide))) ?_
  refine JL.re (d := 53) (v' := .tuple #[.int .i64 0, .int .i64 4]) rfl (by rw [exT3, exT4]) ?_
  refine JL.mv ?_
  refine JL.val rfl rfl rfl (.none rfl) (Ev.ex0 rfl) ?_
  refine JL.val rfl rfl rfl (.none rfl) (Ev.ex1 rfl) ?_
  refine JL.asg ?_
  refine JL.asg ?_
  refine JL.nil ?_
  refine JQ.thenN ?_
  refine JC.seq ?_
  refine JC.region ?_
  refine JL.mv ?_
  refine JL.callV rfl (.none rfl) rfl Tryd.call16 (fun w1 hw1 => sTotal_any (some ⟨b23, 0, none⟩) 3 [2, 0, 3] w1 (Cs.own hw1 (xs := ints [2, 0, 3]) memK 3 (by decide))) ?_
  refine JL.re (d := 58) (v' := .tuple #[.int .i64 5, .int .i64 0]) rfl (by rw [exT5, exT6]) ?_
  refine JL.mv ?_
  refine JL.val rfl rfl rfl (.none rfl) (Ev.ex0 rfl) ?_
  refine JL.val rfl rfl rfl (.none rfl) (Ev.ex1 rfl) ?_
  refine JL.asg ?_
  refine JL.asg ?_
  refine JL.nil ?_
  refine JQ.thenN ?_
  refine JC.seq ?_
  refine JC.region ?_
  refine JL.val rfl rfl rfl (.none rfl) (Ev.build (parts := [(0, .const (.int .i64 1))]) (vs := [(0, .int .i64 1)]) (cs := (plc (1, 0)).toArray) (fun _ _ => rfl) (fun _ => by kernel_rfl)) ?_
  refine JL.val rfl rfl rfl (.none rfl) (Ev.build (parts := [(1, .const (.int .i64 1))]) (vs := [(1, .int .i64 1)]) (cs := (plc (0, 1)).toArray) (fun _ _ => rfl) (fun _ => by kernel_rfl)) ?_
  refine JL.val rfl rfl rfl (.none rfl) (Ev.build (parts := [(0, .const (.int .i64 1))]) (vs := [(0, .int .i64 1)]) (cs := (plc (1, 0)).toArray) (fun _ _ => rfl) (fun _ => by kernel_rfl)) ?_
  refine JL.new rfl rfl rfl (.none rfl) (En.bsPl (ps := exL) rfl rfl Tryd.underlying22 Tryd.sizeOf27 Tryd.zeroValue27 (by decide) (by decide)) (fun b64 hb64 => ?_)
  refine JL.asg ?_
  refine JL.nil ?_
  refine JQ.thenN ?_
  refine JC.seq ?_
  refine JC.region ?_
  refine JL.val rfl rfl rfl (.none rfl) (Ev.build (parts := []) (vs := []) (cs := arr8 (List.replicate 32 0)) (fun _ _ => rfl) (fun _ => by kernel_rfl)) ?_
  refine JL.new rfl rfl rfl (.none rfl) (En.bsN (e := 3) rfl (fun _ => by kernel_rfl)) (fun b67 hb67 => ?_)
  refine JL.callN rfl (.none rfl) rfl Tryd.call17 (fun w1 hw1 => sPositions_any (List.replicate 32 0) rfl 0 3 (by decide) (some ⟨b67, 0, none⟩) 2 [0, 1] w1 (Cs.own hw1 (xs := ints [0, 1]) memK 2 (by decide)) (hk.old hw1) (hf.old hw1)) ?_
  rintro _ _ ⟨r1, rfl, rfl, hr1⟩
  rw [exP1] at hr1
  refine JL.re (d := 68) (v' := .tuple #[Row.v 3 r1, .int .i64 0]) rfl (by rw [exP1, exP2]; rfl) ?_
  refine JL.mv ?_
  refine JL.val rfl rfl rfl (.none rfl) (Ev.ex0 rfl) ?_
  obtain ⟨o1, c1, e1, hn1, hC1⟩ := Row.vw (e := 27) hr1
  refine JL.re (d := 69) rfl e1 ?_
  refine JL.val rfl rfl rfl (.none rfl) (Ev.ex1 rfl) ?_
  refine JL.asg ?_
  refine JL.asg ?_
  refine JL.nil ?_
  refine JQ.thenN ?_
  refine JC.seq ?_
  refine JC.region ?_
  refine JL.val rfl rfl rfl (.none rfl) (Ev.build (parts := []) (vs := []) (cs := arr8 (List.replicate 32 0)) (fun _ _ => rfl) (fun _ => by kernel_rfl)) ?_
  refine JL.new rfl rfl rfl (.none rfl) (En.bsN (e := 3) rfl (fun _ => by kernel_rfl)) (fun b73 hb73 => ?_)
  refine JL.callN rfl (.none rfl) rfl Tryd.call17 (fun w1 hw1 => sPositions_any (List.replicate 32 0) rfl 0 3 (by decide) (some ⟨b73, 0, none⟩) 2 [0, 0] w1 (Cs.own hw1 (xs := ints [0, 0]) memK 2 (by decide)) (hk.old hw1) (hf.old hw1)) ?_
  rintro _ _ ⟨r2, rfl, rfl, hr2⟩
  refine JL.re (d := 74) (v' := .tuple #[Row.v 0 r2, .int .i64 6]) rfl (by rw [exP3, exP4]; rfl) ?_
  refine JL.mv ?_
  refine JL.val rfl rfl rfl (.none rfl) (Ev.ex0 rfl) ?_
  refine JL.val rfl rfl rfl (.none rfl) (Ev.ex1 rfl) ?_
  refine JL.asg ?_
  refine JL.asg ?_
  refine JL.nil ?_
  refine JQ.thenN ?_
  refine JC.seq ?_
  refine JC.region ?_
  refine JL.val rfl rfl rfl (.none rfl) (Ev.build (parts := []) (vs := []) (cs := arr8 (List.replicate 32 0)) (fun _ _ => rfl) (fun _ => by kernel_rfl)) ?_
  refine JL.new rfl rfl rfl (.none rfl) (En.bsN (e := 3) rfl (fun _ => by kernel_rfl)) (fun b79 hb79 => ?_)
  refine JL.callN rfl (.none rfl) rfl Tryd.call17 (fun w1 hw1 => sPositions_any (List.replicate 32 0) rfl 0 (-1) (by decide) (some ⟨b79, 0, none⟩) 1 [1] w1 (Cs.own hw1 (xs := ints [1]) memK 1 (by decide)) (hk.old hw1) (hf.old hw1)) ?_
  rintro _ _ ⟨r3, rfl, rfl, hr3⟩
  refine JL.re (d := 80) (v' := .tuple #[Row.v 0 r3, .int .i64 2]) rfl (by rw [exP5, exP6]; rfl) ?_
  refine JL.mv ?_
  refine JL.val rfl rfl rfl (.none rfl) (Ev.ex0 rfl) ?_
  refine JL.val rfl rfl rfl (.none rfl) (Ev.ex1 rfl) ?_
  refine JL.asg ?_
  refine JL.asg ?_
  refine JL.nil ?_
  refine JQ.thenN ?_
  refine JC.seq ?_
  refine JC.region ?_
  refine JL.val rfl rfl rfl (.none rfl) (Ev.loadB rfl memK Tryd.underlying27 rfl Tryd.sizeOf27 rfl) ?_
  refine JL.val rfl rfl rfl (.none rfl) (Ev.build (parts := [(0, .const (.int .i64 2))]) (vs := [(0, .int .i64 2)]) (cs := (plc (2, 0)).toArray) (fun _ _ => rfl) (fun _ => by kernel_rfl)) ?_
  refine JL.val rfl rfl rfl (.none rfl) (Ev.bin rfl rfl (eql_pl Tryd.underlying27 Tryd.underlying3 Tryd.underlying3 (by kernel_rfl) (by kernel_rfl) (by decide) (by decide) _ _)) ?_
  refine JL.mv ?_
  refine JL.know (d := 86) (b := true) rfl ?_ ?_
  · first | rfl | exact decide_eq_true rfl
  refine JL.val rfl rfl rfl (.yes rfl rfl rfl) (Ev.move rfl) ?_
  refine JL.val rfl rfl rfl (.yes rfl rfl rfl) (Ev.bin rfl rfl eql_int) ?_
  refine JL.val rfl rfl rfl (.none rfl) (Ev.pickT rfl rfl) ?_
  refine JL.mv ?_
  refine JL.know (d := 90) (b := true) rfl ?_ ?_
  · first | rfl | exact decide_eq_true rfl
  refine JL.val rfl rfl rfl (.yes rfl rfl rfl) (Ev.move rfl) ?_
  refine JL.val rfl rfl rfl (.yes rfl rfl rfl) (Ev.bin rfl rfl eql_int) ?_
  refine JL.val rfl rfl rfl (.none rfl) (Ev.pickT rfl rfl) ?_
  refine JL.mv ?_
  refine JL.know (d := 94) (b := true) rfl ?_ ?_
  · first | rfl | exact decide_eq_true rfl
  refine JL.val rfl rfl rfl (.yes rfl rfl rfl) (Ev.move rfl) ?_
  refine JL.val rfl rfl rfl (.yes rfl rfl rfl) (Ev.bin rfl rfl eql_int) ?_
  refine JL.val rfl rfl rfl (.none rfl) (Ev.pickT rfl rfl) ?_
  refine JL.mv ?_
  refine JL.know (d := 98) (b := true) rfl ?_ ?_
  · first | rfl | exact decide_eq_true rfl
  refine JL.val rfl rfl rfl (.yes rfl rfl rfl) (Ev.move rfl) ?_
  refine JL.val rfl rfl rfl (.yes rfl rfl rfl) (Ev.bin rfl rfl eql_int) ?_
  refine JL.val rfl rfl rfl (.none rfl) (Ev.pickT rfl rfl) ?_
  refine JL.mv ?_
  refine JL.know (d := 102) (b := true) rfl ?_ ?_
  · first | rfl | exact decide_eq_true rfl
  refine JL.val rfl rfl rfl (.yes rfl rfl rfl) (Ev.move rfl) ?_
  refine JL.val rfl rfl rfl (.yes rfl rfl rfl) (Ev.bin rfl rfl eql_int) ?_
  refine JL.val rfl rfl rfl (.none rfl) (Ev.pickT rfl rfl) ?_
  refine JL.mv ?_
  refine JL.know (d := 106) (b := true) rfl ?_ ?_
  · first | rfl | exact decide_eq_true rfl
  refine JL.val rfl rfl rfl (.yes rfl rfl rfl) (Ev.move rfl) ?_
  refine JL.val rfl rfl rfl (.yes rfl rfl rfl) (Ev.bin rfl rfl eql_int) ?_
  refine JL.val rfl rfl rfl (.none rfl) (Ev.pickT rfl rfl) ?_
  refine JL.mv ?_
  refine JL.know (d := 110) (b := true) rfl ?_ ?_
  · first | rfl | exact decide_eq_true rfl
  refine JL.val rfl rfl rfl (.yes rfl rfl rfl) (Ev.move rfl) ?_
  refine JL.val rfl rfl rfl (.yes rfl rfl rfl) (Ev.bin rfl rfl eql_int) ?_
  refine JL.val rfl rfl rfl (.none rfl) (Ev.pickT rfl rfl) ?_
  refine JL.mv ?_
  refine JL.know (d := 114) (b := true) rfl ?_ ?_
  · first | rfl | exact decide_eq_true rfl
  refine JL.val rfl rfl rfl (.yes rfl rfl rfl) (Ev.move rfl) ?_
  refine JL.val rfl rfl rfl (.yes rfl rfl rfl) (Ev.bin rfl rfl eql_int) ?_
  refine JL.val rfl rfl rfl (.none rfl) (Ev.pickT rfl rfl) ?_
  refine JL.mv ?_
  refine JL.know (d := 118) (b := true) rfl ?_ ?_
  · first | rfl | exact decide_eq_true rfl
  refine JL.val rfl rfl rfl (.yes rfl rfl rfl) (Ev.move rfl) ?_
  refine JL.val rfl rfl rfl (.yes rfl rfl rfl) (Ev.bin rfl rfl eql_int) ?_
  refine JL.val rfl rfl rfl (.none rfl) (Ev.pickT rfl rfl) ?_
  refine JL.mv ?_
  refine JL.know (d := 122) (b := true) rfl ?_ ?_
  · first | rfl | exact decide_eq_true rfl
  refine JL.val rfl rfl rfl (.yes rfl rfl rfl) (Ev.move rfl) ?_
  refine JL.callN rfl (.yes rfl rfl rfl) rfl Tryd.call10 (fun w1 hw1 => sUnique_any (some ⟨b64, 0, none⟩) 3 exL w1 (Cs.own hw1 (xs := pf exL) memK 3 (by decide)) (by decide)) ?_
  rintro _ _ ⟨r4, rfl, rfl, hr4⟩
  rw [exU] at hr4
  obtain ⟨o4, c4, e4, hn4, hC4⟩ := Row.vw (e := 27) hr4
  refine JL.re (d := 124) (v' := .slice o4 2 c4) rfl (by rw [exU]; exact e4) ?_
  refine JL.val rfl rfl rfl (.yes rfl rfl rfl) (Ev.build (parts := [(1, .const (.int .i64 1))]) (vs := [(1, .int .i64 1)]) (cs := (plc (0, 1)).toArray) (fun _ _ => rfl) (fun _ => by kernel_rfl)) ?_
  refine JL.val rfl rfl rfl (.yes rfl rfl rfl) (Ev.build (parts := [(0, .const (.int .i64 1))]) (vs := [(0, .int .i64 1)]) (cs := (plc (1, 0)).toArray) (fun _ _ => rfl) (fun _ => by kernel_rfl)) ?_
  refine JL.new rfl rfl rfl (.yes rfl rfl rfl) (En.bsPl (ps := [(0, 1), (1, 0)]) rfl rfl Tryd.underlying22 Tryd.sizeOf27 Tryd.zeroValue27 (by decide) (by decide)) (fun b127 hb127 => ?_)
  refine JL.callV rfl (.yes rfl rfl rfl) rfl Tryd.call13 (fun w1 hw1 => pSame_any o4 (some ⟨b127, 0, none⟩) c4 2 [(0, 1), (1, 0)] [(0, 1), (1, 0)] w1 (hC4 w1 hw1 (fun p hp => by first | exact hp | simp [hp])) (Cs.own hw1 (xs := pf [(0, 1), (1, 0)]) memK 2 (by decide)) (by decide)) ?_
  refine JL.val rfl rfl rfl (.none rfl) (Ev.pickT rfl rfl) ?_
  refine JL.mv ?_
  refine JL.know (d := 130) (b := true) rfl ?_ ?_
  · first | rfl | exact decide_eq_true rfl
  refine JL.val rfl rfl rfl (.yes rfl rfl rfl) (Ev.move rfl) ?_
  refine JL.val rfl rfl rfl (.yes rfl rfl rfl) (Ev.build (parts := [(0, .const (.int .i64 1))]) (vs := [(0, .int .i64 1)]) (cs := (plc (1, 0)).toArray) (fun _ _ => rfl) (fun _ => by kernel_rfl)) ?_
  refine JL.callV rfl (.yes rfl rfl rfl) rfl Tryd.call11 (fun w1 hw1 => sCount_any (some ⟨b64, 0, none⟩) 3 exL (1, 0) w1 (Cs.own hw1 (xs := pf exL) memK 3 (by decide)) (by decide)) ?_
  refine JL.re (d := 133) (v' := .int .i64 2) rfl (by rw [exC]) ?_
  refine JL.val rfl rfl rfl (.yes rfl rfl rfl) (Ev.bin rfl rfl eql_int) ?_
  refine JL.val rfl rfl rfl (.none rfl) (Ev.pickT rfl rfl) ?_
  refine JL.mv ?_
  refine JL.know (d := 136) (b := true) rfl ?_ ?_
  · first | rfl | exact decide_eq_true rfl
  refine JL.val rfl rfl rfl (.yes rfl rfl rfl) (Ev.move rfl) ?_
  refine JL.callN rfl (.yes rfl rfl rfl) rfl Tryd.call12 (fun w1 hw1 => sInBatch_any (some ⟨b64, 0, none⟩) 3 exL 1 w1 (Cs.own hw1 (xs := pf exL) memK 3 (by decide)) (by decide)) ?_
  rintro _ _ ⟨r5, rfl, rfl, hr5⟩
  rw [exB] at hr5
  obtain ⟨o5, c5, e5, hn5, hC5⟩ := Row.vw (e := 3) hr5
  refine JL.re (d := 138) (v' := .slice o5 1 c5) rfl (by rw [exB]; exact e5) ?_
  refine JL.new rfl rfl rfl (.yes rfl rfl rfl) (En.bsN (e := 3) rfl (fun _ => by kernel_rfl)) (fun b139 hb139 => ?_)
  refine JL.callV rfl (.yes rfl rfl rfl) rfl Tryd.call18 (fun w1 hw1 => sameInts_any o5 (some ⟨b139, 0, none⟩) c5 1 [0] [0] w1 (hC5 w1 hw1 (fun p hp => by first | exact hp | simp [hp])) (Cs.own hw1 (xs := ints [0]) memK 1 (by decide)) (by decide)) ?_
  refine JL.val rfl rfl rfl (.none rfl) (Ev.pickT rfl rfl) ?_
  refine JL.mv ?_
  refine JL.know (d := 142) (b := true) rfl ?_ ?_
  · first | rfl | exact decide_eq_true rfl
  refine JL.val rfl rfl rfl (.yes rfl rfl rfl) (Ev.move rfl) ?_
  refine JL.val rfl rfl rfl (.yes rfl rfl rfl) (Ev.bin rfl rfl eql_int) ?_
  refine JL.val rfl rfl rfl (.none rfl) (Ev.pickT rfl rfl) ?_
  refine JL.mv ?_
  refine JL.know (d := 146) (b := true) rfl ?_ ?_
  · first | rfl | exact decide_eq_true rfl
  refine JL.val rfl rfl rfl (.yes rfl rfl rfl) (Ev.move rfl) ?_
  refine JL.val rfl rfl rfl (.yes rfl rfl rfl) (Ev.build (parts := [(0, .const (.int .i64 1))]) (vs := [(0, .int .i64 1)]) (cs := (plc (1, 0)).toArray) (fun _ _ => rfl) (fun _ => by kernel_rfl)) ?_
  refine JL.val rfl rfl rfl (.yes rfl rfl rfl) (Ev.build (parts := [(0, .const (.int .i64 1))]) (vs := [(0, .int .i64 1)]) (cs := (plc (1, 0)).toArray) (fun _ _ => rfl) (fun _ => by kernel_rfl)) ?_
  refine JL.val rfl rfl rfl (.yes rfl rfl rfl) (Ev.build (parts := [(0, .const (.int .i64 1))]) (vs := [(0, .int .i64 1)]) (cs := (plc (1, 0)).toArray) (fun _ _ => rfl) (fun _ => by kernel_rfl)) ?_
  refine JL.new rfl rfl rfl (.yes rfl rfl rfl) (En.bsPl (ps := [(1, 0), (1, 0), (1, 0)]) rfl rfl Tryd.underlying22 Tryd.sizeOf27 Tryd.zeroValue27 (by decide) (by decide)) (fun b151 hb151 => ?_)
  refine JL.callV rfl (.yes rfl rfl rfl) rfl Tryd.call13 (fun w1 hw1 => pSame_any o1 (some ⟨b151, 0, none⟩) c1 3 [(1, 0), (1, 0), (1, 0)] [(1, 0), (1, 0), (1, 0)] w1 (hC1 w1 hw1 (fun p hp => by first | exact hp | simp [hp])) (Cs.own hw1 (xs := pf [(1, 0), (1, 0), (1, 0)]) memK 3 (by decide)) (by decide)) ?_
  refine JL.val rfl rfl rfl (.none rfl) (Ev.pickT rfl rfl) ?_
  refine JL.mv ?_
  refine JL.know (d := 154) (b := true) rfl ?_ ?_
  · first | rfl | exact decide_eq_true rfl
  refine JL.val rfl rfl rfl (.yes rfl rfl rfl) (Ev.move rfl) ?_
  refine JL.val rfl rfl rfl (.yes rfl rfl rfl) (Ev.bin rfl rfl eql_int) ?_
  refine JL.val rfl rfl rfl (.none rfl) (Ev.pickT rfl rfl) ?_
  refine JL.mv ?_
  refine JL.know (d := 158) (b := true) rfl ?_ ?_
  · first | rfl | exact decide_eq_true rfl
  refine JL.val rfl rfl rfl (.yes rfl rfl rfl) (Ev.move rfl) ?_
  refine JL.val rfl rfl rfl (.yes rfl rfl rfl) (Ev.bin rfl rfl eql_int) ?_
  refine JL.val rfl rfl rfl (.none rfl) (Ev.pickT rfl rfl) ?_
  refine JL.asg ?_
  refine JL.nil ?_
  refine JQ.thenN ?_
  refine JC.ret ?_
  refine JQ.end1 (H' := []) (.inl rfl) rfl (.tmp rfl) ?_ ?_
  · exact Sub.k
  · first | rfl | exact congrArg Value.bool (decide_eq_true rfl)

end Go.Proofs.YtjjoenbighmfoaaDoor
