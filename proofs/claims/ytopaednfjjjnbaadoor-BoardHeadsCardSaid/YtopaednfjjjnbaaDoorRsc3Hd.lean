/-
  Heads of boards in the reference, signed and verified; the law of heads.
-/
import Derived.Test.YtopaednfjjjnbaaDoorRsc2Hd
import Derived.Test.YtopaednfjjjnbaaDoorNodeHd
namespace Go.Proofs.YtopaednfjjjnbaaDoor
open Go Go.RowKit
set_option maxRecDepth 100000

section
variable {P : Program}
/-- A head equals itself. -/
theorem eql_head {T eI eD b eS eU : TypeId} {f0 f1 f2 s0 s1 : Field} (hT : P.underlying T = some (.struct #[f0, f1, f2])) (t0 : f0.type = eI ∧ f0.offset = 0 ∧ f0.name ≠ "_") (t1 : f1.type = eD ∧ f1.offset = 1 ∧ f1.name ≠ "_") (t2 : f2.type = eS ∧ f2.offset = 33 ∧ f2.name ≠ "_")
    (hI : P.underlying eI = some (.int .i64)) (hD : P.underlying eD = some (.array 32 b)) (hb : P.underlying b = some (.int .u8)) (hcb : P.cellsOf b = 1) (hsD : ∀ w, (sizeOf eD).run P w = .ok 32 w) (hS : P.underlying eS = some (.struct #[s0, s1])) (u0 : s0.type = eU ∧ s0.offset = 0 ∧ s0.name ≠ "_") (u1 : s1.type = eU ∧ s1.offset = 1 ∧ s1.name ≠ "_") (hU : P.underlying eU = some (.int .u64))
    (hsS : ∀ w, (sizeOf eS).run P w = .ok 2 w) (hg : P.eqGuardType P.depth T = false) (hp : P.stoodInHeld T = false) (hpS : P.stoodInHeld eS = false) (h : Hd) :
    Bin P .eql T (.agg h.cl.toArray) (.agg h.cl.toArray) (.bool true) := fun x y w => by
  have hgu := run_eqGuard_agg (P := P) w .eql T x y h.cl.toArray h.cl.toArray hg
  simp only [Sem.run_bind, hgu, Result.andThen_ok]
  have hf : P.fieldsOf T = #[f0, f1, f2] := by simp [Program.fieldsOf, hT]
  have hfS : P.fieldsOf eS = #[s0, s1] := by simp [Program.fieldsOf, hS]
  have hcl : h.cl = .int .i64 h.n :: (h.root.1.map u8 ++ [u64 h.r, u64 h.s]) := rfl
  have hl : (h.root.1.map u8).length = 32 := by rw [List.length_map, h.root.2]
  have p0 : ∀ w : World, (part eI h.cl.toArray 0).run P w = .ok (.int .i64 h.n) w := fun w => by simp [part, run_isAgg hI, aggB, hcl]
  have p1 : ∀ w : World, (part eD h.cl.toArray 1).run P w = .ok (.agg (arr8 h.root.1)) w := fun w => by
    simp [part, run_isAgg hD, aggB, hsD]
    refine congrArg List.toArray ?_
    rw [hcl]
    show (h.root.1.map u8 ++ [u64 h.r, u64 h.s]).take 32 = _
    rw [List.take_left' hl]
  have p2 : ∀ w : World, (part eS h.cl.toArray 33).run P w = .ok (.agg #[u64 h.r, u64 h.s]) w := fun w => by
    simp [part, run_isAgg hS, aggB, hsS]
    rw [hcl]
    show ((h.root.1.map u8 ++ [u64 h.r, u64 h.s]).drop 32).take 2 = _
    rw [List.drop_left' hl]
    rfl
  have q0 : ∀ w : World, (Op.equalIn 9999 eI (.int .i64 h.n) (.int .i64 h.n)).run P w = .ok true w := fun w => by
    rw [run_equalIn_int w _ _ _ _ _ _ hI]
    simp
  have q1 : ∀ w : World, (Op.equalIn 9999 eD (.agg (arr8 h.root.1)) (.agg (arr8 h.root.1))).run P w = .ok true w := fun w => by
    rw [run_eq8 (P := P) w 9997 hD hb hcb h.root.2 h.root.2]
    simp
  have q2 : ∀ w : World, (Op.equalIn 9999 eS (.agg #[u64 h.r, u64 h.s]) (.agg #[u64 h.r, u64 h.s])).run P w = .ok true w := fun w => by
    rw [run_equalIn_struct w 9998 eS _ _ (by rw [hfS]; exact hS) hpS, hfS]
    simp [Op.eqFields, part, run_isAgg hU, aggB, u0.1, u0.2.1, u0.2.2, u1.1, u1.2.1, u1.2.2, u64, run_equalIn_int w _ _ _ _ _ _ hU]
  rw [run_eql_struct, run_equalIn_struct w 9999 T _ _ (by rw [hf]; exact hT) hp, hf]
  simp [Op.eqFields, t0.1, t0.2.1, t1.1, t1.2.1, t2.1, t2.2.1, t0.2.2, t1.2.2, t2.2.2, p0, p1, p2, q0, q1, q2]
end

theorem rbVerify_any (g : Gp) (y : UInt64) (h : Hd) (w : World) :
    Calls Tryd.prog 47 #[.agg g.cl.toArray, u64 y, .agg h.cl.toArray] w (Ret w (fun v _ => v = .tuple #[.bool (vfR g y (txt h) h.r h.s), .int .i64 (scE g [h.s] [y, h.r])])) := by
  refine enter (vs := [.agg g.cl.toArray, u64 y, .agg h.cl.toArray]) Tryd.func47 rfl Tryd.ntmps47 rfl ?_
  refine JC.seq ?_
  refine JC.region ?_
  refine JL.new rfl rfl rfl (.none rfl) (En.boxA rfl) (fun b3 hb3 => ?_)
  refine JL.new rfl rfl rfl (.none rfl) (En.boxA rfl) (fun b5 hb5 => ?_)
  refine JL.asg ?_
  refine JL.asg ?_
  refine JL.nil ?_
  refine JQ.thenN ?_
  refine JC.seq ?_
  refine JC.cut (X := Unit) (fun _ => [(8, .bool (vfR g y (txt h) h.r h.s)), (9, .int .i64 (scE g [h.s] [y, h.r]))]) (fun _ => []) ?_ ?_
  · refine JC.regionA (by kernel_rfl) ?_
    refine JA.mid (X := Option Row) (fun rT => Row.ok 1 (txt h).length ((txt h).map u8) rT) (fun rT => [(16, .agg #[u64 h.r, u64 h.s]), (15, .pointer (some ⟨b5, 0 + 33, none⟩)), (14, Row.v (txt h).length rT), (13, .agg h.cl.toArray), (12, u64 y), (11, .agg g.cl.toArray), (3, .pointer (some ⟨b3, 0, none⟩)), (1, u64 y), (5, .pointer (some ⟨b5, 0, none⟩))]) (fun rT => (Row.b 5 rT ++ [(b5, Obj.cells (Hd.cl h).toArray 38 (0, 0)), (b3, Obj.cells g.cl.toArray 53 (0, 0))])) 6 #[true, true, true, true, true, true, false, false, false, false, false, false] ?_ (fun hmid0 => ?_)
    · -- state [0, 1, 2, 3, 4, 5]
      rintro rT hrT
      refine JA.one 6 ?_
      obtain ⟨oT, cT, eT, _, hCT⟩ := Row.vw (e := 5) hrT
      refine JO.re (d := 14) rfl eT ?_
      refine JO.callV rfl (.none rfl) rfl Tryd.call83 (fun w1 hw1 => rVerify_any g y oT cT (txt h) h.r h.s w1 ((hCT w1 hw1 (fun p hp => by simp [hp])).bs rfl) (by rw [txt_length]; decide)) ?_
      refine JA.tkc 7 rfl (.none rfl) (fun _ => (Ev.move rfl)) ?_
      refine JA.tkc 8 rfl (.none rfl) (fun _ => (Ev.ex0 rfl)) ?_
      refine JA.tkc 9 rfl (.none rfl) (fun _ => (Ev.ex1 rfl)) ?_
      refine JA.tkc 10 rfl (.none rfl) (fun _ => (Ev.assign rfl)) ?_
      refine JA.tkc 11 rfl (.none rfl) (fun _ => (Ev.assign rfl)) ?_
      refine JA.done (by kernel_rfl) ?_
      refine JQ.cutN () ?_ ?_
      · exact Keeps.k
      · exact Sub.nil
    refine JA.mid (X := Option Row) (fun rT => Row.ok 1 (txt h).length ((txt h).map u8) rT) (fun rT => [(15, .pointer (some ⟨b5, 0 + 33, none⟩)), (14, Row.v (txt h).length rT), (13, .agg h.cl.toArray), (12, u64 y), (11, .agg g.cl.toArray), (3, .pointer (some ⟨b3, 0, none⟩)), (1, u64 y), (5, .pointer (some ⟨b5, 0, none⟩))]) (fun rT => (Row.b 5 rT ++ [(b5, Obj.cells (Hd.cl h).toArray 38 (0, 0)), (b3, Obj.cells g.cl.toArray 53 (0, 0))])) 7 #[true, true, true, true, true, false, false, false, false, false, false, false] ?_ (fun hmid1 => ?_)
    · -- state [0, 1, 2, 3, 4]
      rintro rT hrT
      refine JA.one 5 ?_
      refine JO.val rfl rfl rfl (.none rfl) (Ev.loadA (l := [u64 h.r, u64 h.s]) rfl Tryd.underlying36 rfl Tryd.sizeOf36 (Hd.rdsS (h := h) memK) rfl) ?_
      exact JA.weak rfl (by kernel_rfl) (by exact Keeps.k) (by exact Sub.k) (hmid0 rT (by exact hrT))
    refine JA.mid (X := Option Row) (fun rT => True) (fun rT => [(16, .agg #[u64 h.r, u64 h.s]), (15, .pointer (some ⟨b5, 0 + 33, none⟩)), (13, .agg h.cl.toArray), (12, u64 y), (11, .agg g.cl.toArray), (3, .pointer (some ⟨b3, 0, none⟩)), (1, u64 y), (5, .pointer (some ⟨b5, 0, none⟩))]) (fun rT => ([(b5, Obj.cells (Hd.cl h).toArray 38 (0, 0)), (b3, Obj.cells g.cl.toArray 53 (0, 0))])) 7 #[true, true, true, false, true, true, false, false, false, false, false, false] ?_ (fun hmid2 => ?_)
    · -- state [0, 1, 2, 4, 5]
      rintro rT _
      refine JA.one 3 ?_
      refine JO.callN rfl (.none rfl) rfl Tryd.call48 (fun w1 hw1 => rText_any h w1) ?_
      rintro _ _ ⟨rT, rfl, rfl, hrT⟩
      exact JA.weak rfl (by kernel_rfl) (by exact Keeps.k) (by exact Sub.k) (hmid0 rT (by exact hrT))
    refine JA.mid (X := Option Row) (fun rT => Row.ok 1 (txt h).length ((txt h).map u8) rT) (fun rT => [(16, .agg #[u64 h.r, u64 h.s]), (15, .pointer (some ⟨b5, 0 + 33, none⟩)), (14, Row.v (txt h).length rT), (13, .agg h.cl.toArray), (12, u64 y), (3, .pointer (some ⟨b3, 0, none⟩)), (1, u64 y), (5, .pointer (some ⟨b5, 0, none⟩))]) (fun rT => (Row.b 5 rT ++ [(b5, Obj.cells (Hd.cl h).toArray 38 (0, 0)), (b3, Obj.cells g.cl.toArray 53 (0, 0))])) 7 #[false, true, true, true, true, true, false, false, false, false, false, false] ?_ (fun hmid3 => ?_)
    · -- state [1, 2, 3, 4, 5]
      rintro rT hrT
      refine JA.one 0 ?_
      refine JO.val rfl rfl rfl (.none rfl) (Ev.lB Tryd.underlying53 Tryd.sizeOf53) ?_
      exact JA.weak rfl (by kernel_rfl) (by exact Keeps.k) (by exact Sub.k) (hmid0 rT (by exact hrT))
    refine JA.mid (X := Option Row) (fun rT => True) (fun rT => [(15, .pointer (some ⟨b5, 0 + 33, none⟩)), (13, .agg h.cl.toArray), (12, u64 y), (11, .agg g.cl.toArray), (3, .pointer (some ⟨b3, 0, none⟩)), (1, u64 y), (5, .pointer (some ⟨b5, 0, none⟩))]) (fun rT => ([(b5, Obj.cells (Hd.cl h).toArray 38 (0, 0)), (b3, Obj.cells g.cl.toArray 53 (0, 0))])) 8 #[true, true, true, false, true, false, false, false, false, false, false, false] ?_ (fun hmid4 => ?_)
    · -- state [0, 1, 2, 4]
      rintro rT _
      refine JA.branch [3, 5] (by kernel_rfl) rfl ?_
      refine JAll.cons rfl ?_ ?_
      · -- 3
        refine JO.callN rfl (.none rfl) rfl Tryd.call48 (fun w1 hw1 => rText_any h w1) ?_
        rintro _ _ ⟨rT, rfl, rfl, hrT⟩
        exact JA.weak rfl (by kernel_rfl) (by exact Keeps.k) (by exact Sub.k) (hmid1 rT (by exact hrT))
      refine JAll.cons rfl ?_ JAll.nil
      refine JO.val rfl rfl rfl (.none rfl) (Ev.loadA (l := [u64 h.r, u64 h.s]) rfl Tryd.underlying36 rfl Tryd.sizeOf36 (Hd.rdsS (h := h) memK) rfl) ?_
      exact JA.wk (hmid2 none trivial)
    refine JA.mid (X := Option Row) (fun rT => True) (fun rT => [(16, .agg #[u64 h.r, u64 h.s]), (15, .pointer (some ⟨b5, 0 + 33, none⟩)), (12, u64 y), (11, .agg g.cl.toArray), (3, .pointer (some ⟨b3, 0, none⟩)), (1, u64 y), (5, .pointer (some ⟨b5, 0, none⟩))]) (fun rT => ([(b5, Obj.cells (Hd.cl h).toArray 38 (0, 0)), (b3, Obj.cells g.cl.toArray 53 (0, 0))])) 8 #[true, true, false, false, true, true, false, false, false, false, false, false] ?_ (fun hmid5 => ?_)
    · -- state [0, 1, 4, 5]
      rintro rT _
      refine JA.one 2 ?_
      refine JO.val rfl rfl rfl (.none rfl) (Ev.loadB rfl memK Tryd.underlying38 rfl Tryd.sizeOf38 (Hd.size h)) ?_
      exact JA.wk (hmid2 none trivial)
    refine JA.mid (X := Option Row) (fun rT => Row.ok 1 (txt h).length ((txt h).map u8) rT) (fun rT => [(15, .pointer (some ⟨b5, 0 + 33, none⟩)), (14, Row.v (txt h).length rT), (13, .agg h.cl.toArray), (12, u64 y), (3, .pointer (some ⟨b3, 0, none⟩)), (1, u64 y), (5, .pointer (some ⟨b5, 0, none⟩))]) (fun rT => (Row.b 5 rT ++ [(b5, Obj.cells (Hd.cl h).toArray 38 (0, 0)), (b3, Obj.cells g.cl.toArray 53 (0, 0))])) 8 #[false, true, true, true, true, false, false, false, false, false, false, false] ?_ (fun hmid6 => ?_)
    · -- state [1, 2, 3, 4]
      rintro rT hrT
      refine JA.branch [0, 5] (by kernel_rfl) rfl ?_
      refine JAll.cons rfl ?_ ?_
      · -- 0
        refine JO.val rfl rfl rfl (.none rfl) (Ev.lB Tryd.underlying53 Tryd.sizeOf53) ?_
        exact JA.weak rfl (by kernel_rfl) (by exact Keeps.k) (by exact Sub.k) (hmid1 rT (by exact hrT))
      refine JAll.cons rfl ?_ JAll.nil
      refine JO.val rfl rfl rfl (.none rfl) (Ev.loadA (l := [u64 h.r, u64 h.s]) rfl Tryd.underlying36 rfl Tryd.sizeOf36 (Hd.rdsS (h := h) memK) rfl) ?_
      exact JA.weak rfl (by kernel_rfl) (by exact Keeps.k) (by exact Sub.k) (hmid3 rT (by exact hrT))
    refine JA.mid (X := Option Row) (fun rT => True) (fun rT => [(16, .agg #[u64 h.r, u64 h.s]), (15, .pointer (some ⟨b5, 0 + 33, none⟩)), (13, .agg h.cl.toArray), (12, u64 y), (3, .pointer (some ⟨b3, 0, none⟩)), (1, u64 y), (5, .pointer (some ⟨b5, 0, none⟩))]) (fun rT => ([(b5, Obj.cells (Hd.cl h).toArray 38 (0, 0)), (b3, Obj.cells g.cl.toArray 53 (0, 0))])) 8 #[false, true, true, false, true, true, false, false, false, false, false, false] ?_ (fun hmid7 => ?_)
    · -- state [1, 2, 4, 5]
      rintro rT _
      refine JA.branch [0, 3] (by kernel_rfl) rfl ?_
      refine JAll.cons rfl ?_ ?_
      · -- 0
        refine JO.val rfl rfl rfl (.none rfl) (Ev.lB Tryd.underlying53 Tryd.sizeOf53) ?_
        exact JA.wk (hmid2 none trivial)
      refine JAll.cons rfl ?_ JAll.nil
      refine JO.callN rfl (.none rfl) rfl Tryd.call48 (fun w1 hw1 => rText_any h w1) ?_
      rintro _ _ ⟨rT, rfl, rfl, hrT⟩
      exact JA.weak rfl (by kernel_rfl) (by exact Keeps.k) (by exact Sub.k) (hmid3 rT (by exact hrT))
    refine JA.mid (X := Option Row) (fun rT => True) (fun rT => [(15, .pointer (some ⟨b5, 0 + 33, none⟩)), (12, u64 y), (11, .agg g.cl.toArray), (3, .pointer (some ⟨b3, 0, none⟩)), (1, u64 y), (5, .pointer (some ⟨b5, 0, none⟩))]) (fun rT => ([(b5, Obj.cells (Hd.cl h).toArray 38 (0, 0)), (b3, Obj.cells g.cl.toArray 53 (0, 0))])) 9 #[true, true, false, false, true, false, false, false, false, false, false, false] ?_ (fun hmid8 => ?_)
    · -- state [0, 1, 4]
      rintro rT _
      refine JA.branch [2, 5] (by kernel_rfl) rfl ?_
      refine JAll.cons rfl ?_ ?_
      · -- 2
        refine JO.val rfl rfl rfl (.none rfl) (Ev.loadB rfl memK Tryd.underlying38 rfl Tryd.sizeOf38 (Hd.size h)) ?_
        exact JA.wk (hmid4 none trivial)
      refine JAll.cons rfl ?_ JAll.nil
      refine JO.val rfl rfl rfl (.none rfl) (Ev.loadA (l := [u64 h.r, u64 h.s]) rfl Tryd.underlying36 rfl Tryd.sizeOf36 (Hd.rdsS (h := h) memK) rfl) ?_
      exact JA.wk (hmid5 none trivial)
    refine JA.mid (X := Option Row) (fun rT => True) (fun rT => [(15, .pointer (some ⟨b5, 0 + 33, none⟩)), (13, .agg h.cl.toArray), (12, u64 y), (3, .pointer (some ⟨b3, 0, none⟩)), (1, u64 y), (5, .pointer (some ⟨b5, 0, none⟩))]) (fun rT => ([(b5, Obj.cells (Hd.cl h).toArray 38 (0, 0)), (b3, Obj.cells g.cl.toArray 53 (0, 0))])) 9 #[false, true, true, false, true, false, false, false, false, false, false, false] ?_ (fun hmid9 => ?_)
    · -- state [1, 2, 4]
      rintro rT _
      refine JA.branch [0, 3, 5] (by kernel_rfl) rfl ?_
      refine JAll.cons rfl ?_ ?_
      · -- 0
        refine JO.val rfl rfl rfl (.none rfl) (Ev.lB Tryd.underlying53 Tryd.sizeOf53) ?_
        exact JA.wk (hmid4 none trivial)
      refine JAll.cons rfl ?_ ?_
      · -- 3
        refine JO.callN rfl (.none rfl) rfl Tryd.call48 (fun w1 hw1 => rText_any h w1) ?_
        rintro _ _ ⟨rT, rfl, rfl, hrT⟩
        exact JA.weak rfl (by kernel_rfl) (by exact Keeps.k) (by exact Sub.k) (hmid6 rT (by exact hrT))
      refine JAll.cons rfl ?_ JAll.nil
      refine JO.val rfl rfl rfl (.none rfl) (Ev.loadA (l := [u64 h.r, u64 h.s]) rfl Tryd.underlying36 rfl Tryd.sizeOf36 (Hd.rdsS (h := h) memK) rfl) ?_
      exact JA.wk (hmid7 none trivial)
    refine JA.mid (X := Option Row) (fun rT => True) (fun rT => [(16, .agg #[u64 h.r, u64 h.s]), (15, .pointer (some ⟨b5, 0 + 33, none⟩)), (12, u64 y), (3, .pointer (some ⟨b3, 0, none⟩)), (1, u64 y), (5, .pointer (some ⟨b5, 0, none⟩))]) (fun rT => ([(b5, Obj.cells (Hd.cl h).toArray 38 (0, 0)), (b3, Obj.cells g.cl.toArray 53 (0, 0))])) 9 #[false, true, false, false, true, true, false, false, false, false, false, false] ?_ (fun hmid10 => ?_)
    · -- state [1, 4, 5]
      rintro rT _
      refine JA.branch [0, 2] (by kernel_rfl) rfl ?_
      refine JAll.cons rfl ?_ ?_
      · -- 0
        refine JO.val rfl rfl rfl (.none rfl) (Ev.lB Tryd.underlying53 Tryd.sizeOf53) ?_
        exact JA.wk (hmid5 none trivial)
      refine JAll.cons rfl ?_ JAll.nil
      refine JO.val rfl rfl rfl (.none rfl) (Ev.loadB rfl memK Tryd.underlying38 rfl Tryd.sizeOf38 (Hd.size h)) ?_
      exact JA.wk (hmid7 none trivial)
    refine JA.tkc 1 rfl (.none rfl) (fun _ => (Ev.move rfl)) ?_
    refine JA.tkc 4 rfl (.none rfl) (fun _ => (Ev.fld 33 rfl (fun _ _ => by kernel_rfl))) ?_
    refine JA.branch [0, 2, 5] (by kernel_rfl) rfl ?_
    refine JAll.cons rfl ?_ ?_
    · -- 0
      refine JO.val rfl rfl rfl (.none rfl) (Ev.lB Tryd.underlying53 Tryd.sizeOf53) ?_
      exact JA.wk (hmid8 none trivial)
    refine JAll.cons rfl ?_ ?_
    · -- 2
      refine JO.val rfl rfl rfl (.none rfl) (Ev.loadB rfl memK Tryd.underlying38 rfl Tryd.sizeOf38 (Hd.size h)) ?_
      exact JA.wk (hmid9 none trivial)
    refine JAll.cons rfl ?_ JAll.nil
    refine JO.val rfl rfl rfl (.none rfl) (Ev.loadA (l := [u64 h.r, u64 h.s]) rfl Tryd.underlying36 rfl Tryd.sizeOf36 (Hd.rdsS (h := h) memK) rfl) ?_
    exact JA.wk (hmid10 none trivial)
  rintro _
  refine JQ.thenN ?_
  refine JC.seq ?_
  refine JC.region ?_
  refine JL.mv ?_
  refine JL.mv ?_
  refine JL.asg ?_
  refine JL.asg ?_
  refine JL.nil ?_
  refine JQ.thenN ?_
  refine JC.ret ?_
  refine JQ.end2 (H' := []) (.inl rfl) rfl (.tmp rfl) (.tmp rfl) ?_ ?_
  · exact Sub.k
  · exact rfl

theorem rbSign_any (g : Gp) (x : UInt64) (oa : Option Addr) (cap : Nat) (xs : List Et) (w : World) (hb : Bd w oa cap xs) :
    Calls Tryd.prog 45 #[.agg g.cl.toArray, u64 x, .agg #[.slice oa xs.length cap]] w (Ret w (fun v _ => v = .tuple #[.agg (Hd.cl (sgH g x (xs.map Et.e))).toArray, .int .i64 (sgE g x (xs.map Et.e))])) := by
  refine enter (vs := [.agg g.cl.toArray, u64 x, .agg #[.slice oa xs.length cap]]) Tryd.func45 rfl Tryd.ntmps45 rfl ?_
  refine JC.seq ?_
  refine JC.region ?_
  refine JL.new rfl rfl rfl (.none rfl) (En.boxA rfl) (fun b3 hb3 => ?_)
  refine JL.new rfl rfl rfl (.none rfl) (En.boxA rfl) (fun b5 hb5 => ?_)
  refine JL.new rfl rfl rfl (.none rfl) (En.allocZ (cs := (Hd.cl ⟨0, zeroD, 0, 0⟩).toArray) Tryd.zeroValue38 rfl) (fun b6 hb6 => ?_)
  refine JL.asg ?_
  refine JL.nil ?_
  refine JQ.thenN ?_
  refine JC.seq ?_
  refine JC.seq ?_
  refine JC.region ?_
  refine JL.val rfl rfl rfl (.none rfl) (Ev.lB Tryd.underlying24 Tryd.sizeOf24) ?_
  refine JL.callV rfl (.none rfl) rfl Tryd.call72 (fun w1 hw1 => may_any oa cap xs w1 (hb.old hw1)) ?_
  refine JL.val rfl rfl rfl (.none rfl) (Ev.not rfl) ?_
  refine JL.nil ?_
  refine JQ.thenN ?_
  refine JC.cond rfl (fun hc => ?_) (fun hc => ?_)
  · -- t13 True
    have hbad : ¬ okB (xs.map Et.e) := by simpa using hc
    refine JC.seq ?_
    refine JC.region ?_
    refine JL.val rfl rfl rfl (.none rfl) (Ev.build (parts := []) (vs := []) (cs := (Hd.cl ⟨0, zeroD, 0, 0⟩).toArray) (fun _ _ => rfl) (fun _ => by kernel_rfl)) ?_
    refine JL.sto rfl rfl (.none rfl) (Es.storeA rfl rfl Tryd.sizeOf38 Upd.k (Hd.size _) (Hd.size _) (Hd.one _)) ?_
    refine JL.asg ?_
    refine JL.nil ?_
    refine JQ.thenN ?_
    refine JC.ret ?_
    refine JQ.thenR ?_
    refine JQ.end2 (H' := []) (.inl rfl) rfl (.agg rfl memK Tryd.underlying38 rfl Tryd.sizeOf38 (Hd.size _)) (.tmp rfl) ?_ ?_
    · exact Sub.k
    · rw [sgH_bad hbad, sgE_bad hbad]
  · -- t13 False
    have hok : okB (xs.map Et.e) := by simpa using hc
    have hlen := okB_len hok
    have hsz := okB_sz hok
    refine JC.skip ?_
    refine JQ.thenN ?_
    refine JC.seq ?_
    refine JC.cut (X := Nat) (fun b8 => [(3, .pointer (some ⟨b3, 0, none⟩)), (1, u64 x), (6, .pointer (some ⟨b6, 0, none⟩)), (8, .pointer (some ⟨b8, 0, none⟩))]) (fun b8 => [(b8, Obj.cells (Hd.cl ⟨((xs.length : Nat) : Int), rootR (leavesE (xs.map Et.e)), 0, 0⟩).toArray 38 (0, 0)), (b6, Obj.cells (Hd.cl ⟨0, zeroD, 0, 0⟩).toArray 38 (0, 0)), (b3, Obj.cells g.cl.toArray 53 (0, 0))]) ?_ ?_
    · refine JC.regionA (by kernel_rfl) ?_
      refine JA.mid (X := Option Row × Nat) (fun ⟨r1, b8⟩ => True) (fun ⟨r1, b8⟩ => [(8, .pointer (some ⟨b8, 0, none⟩)), (21, .agg (Hd.cl ⟨((xs.length : Nat) : Int), rootR (leavesE (xs.map Et.e)), 0, 0⟩).toArray), (3, .pointer (some ⟨b3, 0, none⟩)), (1, u64 x), (5, .pointer (some ⟨b5, 0, none⟩)), (6, .pointer (some ⟨b6, 0, none⟩))]) (fun ⟨r1, b8⟩ => ((b8, Obj.cells (Hd.cl ⟨0, zeroD, 0, 0⟩).toArray 38 (0, 0)) :: [(b6, Obj.cells (Hd.cl ⟨0, zeroD, 0, 0⟩).toArray 38 (0, 0)), (b5, Obj.cells #[.slice oa xs.length cap] 24 (0, 0)), (b3, Obj.cells g.cl.toArray 53 (0, 0))])) 1 #[true, true, true, true, true, true, true, true, false] ?_ (fun hmid0 => ?_)
      · -- state [0, 1, 2, 3, 4, 5, 6, 7]
        rintro ⟨r1, b8⟩ _
        refine JA.one 8 ?_
        refine JO.sto rfl rfl (.none rfl) (Es.storeA rfl rfl Tryd.sizeOf38 Upd.k (Hd.size _) (Hd.size _) (Hd.one _)) ?_
        refine JA.done (by kernel_rfl) ?_
        refine JQ.cutN b8 ?_ ?_
        · exact Keeps.k
        · exact Sub.k
      refine JA.mid (X := Option Row × Nat) (fun ⟨r1, b8⟩ => True) (fun ⟨r1, b8⟩ => [(21, .agg (Hd.cl ⟨((xs.length : Nat) : Int), rootR (leavesE (xs.map Et.e)), 0, 0⟩).toArray), (3, .pointer (some ⟨b3, 0, none⟩)), (1, u64 x), (5, .pointer (some ⟨b5, 0, none⟩)), (6, .pointer (some ⟨b6, 0, none⟩))]) (fun ⟨r1, b8⟩ => ([(b6, Obj.cells (Hd.cl ⟨0, zeroD, 0, 0⟩).toArray 38 (0, 0)), (b5, Obj.cells #[.slice oa xs.length cap] 24 (0, 0)), (b3, Obj.cells g.cl.toArray 53 (0, 0))])) 2 #[true, true, true, true, true, true, true, false, false] ?_ (fun hmid1 => ?_)
      · -- state [0, 1, 2, 3, 4, 5, 6]
        rintro ⟨r1, b8⟩ _
        refine JA.one 7 ?_
        refine JO.new rfl rfl rfl (.none rfl) (En.allocZ (cs := (Hd.cl ⟨0, zeroD, 0, 0⟩).toArray) Tryd.zeroValue38 rfl) (fun b8 hb8 => ?_)
        exact JA.wk (hmid0 (none, b8) trivial)
      refine JA.mid (X := Option Row × Nat) (fun ⟨r1, b8⟩ => True) (fun ⟨r1, b8⟩ => [(8, .pointer (some ⟨b8, 0, none⟩)), (20, .agg (arr8 (rootR (leavesE (xs.map Et.e))).1)), (17, .int .i64 ((xs.length : Nat) : Int)), (3, .pointer (some ⟨b3, 0, none⟩)), (1, u64 x), (5, .pointer (some ⟨b5, 0, none⟩)), (6, .pointer (some ⟨b6, 0, none⟩))]) (fun ⟨r1, b8⟩ => ((b8, Obj.cells (Hd.cl ⟨0, zeroD, 0, 0⟩).toArray 38 (0, 0)) :: [(b6, Obj.cells (Hd.cl ⟨0, zeroD, 0, 0⟩).toArray 38 (0, 0)), (b5, Obj.cells #[.slice oa xs.length cap] 24 (0, 0)), (b3, Obj.cells g.cl.toArray 53 (0, 0))])) 2 #[true, true, true, true, true, true, false, true, false] ?_ (fun hmid2 => ?_)
      · -- state [0, 1, 2, 3, 4, 5, 7]
        rintro ⟨r1, b8⟩ _
        refine JA.one 6 ?_
        refine JO.val rfl rfl rfl (.none rfl) (Ev.buH (n := ((xs.length : Nat) : Int)) (d := rootR (leavesE (xs.map Et.e))) rfl rfl Tryd.underlying38 (fun _ => by kernel_rfl) Tryd.zeroValue38) ?_
        exact JA.wk (hmid0 (none, b8) trivial)
      refine JA.mid (X := Option Row × Nat) (fun ⟨r1, b8⟩ => True) (fun ⟨r1, b8⟩ => [(20, .agg (arr8 (rootR (leavesE (xs.map Et.e))).1)), (17, .int .i64 ((xs.length : Nat) : Int)), (3, .pointer (some ⟨b3, 0, none⟩)), (1, u64 x), (5, .pointer (some ⟨b5, 0, none⟩)), (6, .pointer (some ⟨b6, 0, none⟩))]) (fun ⟨r1, b8⟩ => ([(b6, Obj.cells (Hd.cl ⟨0, zeroD, 0, 0⟩).toArray 38 (0, 0)), (b5, Obj.cells #[.slice oa xs.length cap] 24 (0, 0)), (b3, Obj.cells g.cl.toArray 53 (0, 0))])) 3 #[true, true, true, true, true, true, false, false, false] ?_ (fun hmid3 => ?_)
      · -- state [0, 1, 2, 3, 4, 5]
        rintro ⟨r1, b8⟩ _
        refine JA.branch [6, 7] (by kernel_rfl) rfl ?_
        refine JAll.cons rfl ?_ ?_
        · -- 6
          refine JO.val rfl rfl rfl (.none rfl) (Ev.buH (n := ((xs.length : Nat) : Int)) (d := rootR (leavesE (xs.map Et.e))) rfl rfl Tryd.underlying38 (fun _ => by kernel_rfl) Tryd.zeroValue38) ?_
          exact JA.wk (hmid1 (none, 0) trivial)
        refine JAll.cons rfl ?_ JAll.nil
        refine JO.new rfl rfl rfl (.none rfl) (En.allocZ (cs := (Hd.cl ⟨0, zeroD, 0, 0⟩).toArray) Tryd.zeroValue38 rfl) (fun b8 hb8 => ?_)
        exact JA.wk (hmid2 (none, b8) trivial)
      refine JA.mid (X := Option Row × Nat) (fun ⟨r1, b8⟩ => Row.ok 32 (leavesE (xs.map Et.e)).length (fl (leavesE (xs.map Et.e))) r1) (fun ⟨r1, b8⟩ => [(8, .pointer (some ⟨b8, 0, none⟩)), (19, Row.v (leavesE (xs.map Et.e)).length r1), (17, .int .i64 ((xs.length : Nat) : Int)), (3, .pointer (some ⟨b3, 0, none⟩)), (1, u64 x), (5, .pointer (some ⟨b5, 0, none⟩)), (6, .pointer (some ⟨b6, 0, none⟩))]) (fun ⟨r1, b8⟩ => ((b8, Obj.cells (Hd.cl ⟨0, zeroD, 0, 0⟩).toArray 38 (0, 0)) :: Row.b 33 r1 ++ [(b6, Obj.cells (Hd.cl ⟨0, zeroD, 0, 0⟩).toArray 38 (0, 0)), (b5, Obj.cells #[.slice oa xs.length cap] 24 (0, 0)), (b3, Obj.cells g.cl.toArray 53 (0, 0))])) 3 #[true, true, true, true, true, false, false, true, false] ?_ (fun hmid4 => ?_)
      · -- state [0, 1, 2, 3, 4, 7]
        rintro ⟨r1, b8⟩ hr1
        refine JA.one 5 ?_
        obtain ⟨o1, c1, e1, _, hC1⟩ := Row.vw (e := 33) hr1
        refine JO.re (d := 19) rfl e1 ?_
        refine JO.callV rfl (.none rfl) rfl Tryd.call74 (fun w1 hw1 => rOf_any o1 c1 (leavesE (xs.map Et.e)) w1 (hC1 w1 hw1 (fun p hp => by simp [hp])) (by rw [leaves_len]; omega)) ?_
        exact JA.wk (hmid2 (none, b8) trivial)
      refine JA.mid (X := Option Row × Nat) (fun ⟨r1, b8⟩ => True) (fun ⟨r1, b8⟩ => [(8, .pointer (some ⟨b8, 0, none⟩)), (20, .agg (arr8 (rootR (leavesE (xs.map Et.e))).1)), (16, .slice oa xs.length cap), (15, .pointer (some ⟨b5, 0 + 0, none⟩)), (3, .pointer (some ⟨b3, 0, none⟩)), (1, u64 x), (5, .pointer (some ⟨b5, 0, none⟩)), (6, .pointer (some ⟨b6, 0, none⟩))]) (fun ⟨r1, b8⟩ => ((b8, Obj.cells (Hd.cl ⟨0, zeroD, 0, 0⟩).toArray 38 (0, 0)) :: [(b6, Obj.cells (Hd.cl ⟨0, zeroD, 0, 0⟩).toArray 38 (0, 0)), (b5, Obj.cells #[.slice oa xs.length cap] 24 (0, 0)), (b3, Obj.cells g.cl.toArray 53 (0, 0))])) 3 #[true, true, false, true, true, true, false, true, false] ?_ (fun hmid5 => ?_)
      · -- state [0, 1, 3, 4, 5, 7]
        rintro ⟨r1, b8⟩ _
        refine JA.one 2 ?_
        refine JO.val rfl rfl rfl (.none rfl) (Ev.lenS rfl Tryd.underlying22) ?_
        exact JA.wk (hmid2 (none, b8) trivial)
      refine JA.mid (X := Option Row × Nat) (fun ⟨r1, b8⟩ => Row.ok 32 (leavesE (xs.map Et.e)).length (fl (leavesE (xs.map Et.e))) r1) (fun ⟨r1, b8⟩ => [(19, Row.v (leavesE (xs.map Et.e)).length r1), (17, .int .i64 ((xs.length : Nat) : Int)), (3, .pointer (some ⟨b3, 0, none⟩)), (1, u64 x), (5, .pointer (some ⟨b5, 0, none⟩)), (6, .pointer (some ⟨b6, 0, none⟩))]) (fun ⟨r1, b8⟩ => (Row.b 33 r1 ++ [(b6, Obj.cells (Hd.cl ⟨0, zeroD, 0, 0⟩).toArray 38 (0, 0)), (b5, Obj.cells #[.slice oa xs.length cap] 24 (0, 0)), (b3, Obj.cells g.cl.toArray 53 (0, 0))])) 4 #[true, true, true, true, true, false, false, false, false] ?_ (fun hmid6 => ?_)
      · -- state [0, 1, 2, 3, 4]
        rintro ⟨r1, b8⟩ hr1
        refine JA.branch [5, 7] (by kernel_rfl) rfl ?_
        refine JAll.cons rfl ?_ ?_
        · -- 5
          obtain ⟨o1, c1, e1, _, hC1⟩ := Row.vw (e := 33) hr1
          refine JO.re (d := 19) rfl e1 ?_
          refine JO.callV rfl (.none rfl) rfl Tryd.call74 (fun w1 hw1 => rOf_any o1 c1 (leavesE (xs.map Et.e)) w1 (hC1 w1 hw1 (fun p hp => by simp [hp])) (by rw [leaves_len]; omega)) ?_
          exact JA.wk (hmid3 (none, 0) trivial)
        refine JAll.cons rfl ?_ JAll.nil
        refine JO.new rfl rfl rfl (.none rfl) (En.allocZ (cs := (Hd.cl ⟨0, zeroD, 0, 0⟩).toArray) Tryd.zeroValue38 rfl) (fun b8 hb8 => ?_)
        exact JA.weak rfl (by kernel_rfl) (by exact Keeps.k) (by exact Sub.k) (hmid4 (r1, b8) (by exact hr1))
      refine JA.mid (X := Option Row × Nat) (fun ⟨r1, b8⟩ => True) (fun ⟨r1, b8⟩ => [(8, .pointer (some ⟨b8, 0, none⟩)), (18, .agg #[.slice oa xs.length cap]), (17, .int .i64 ((xs.length : Nat) : Int)), (3, .pointer (some ⟨b3, 0, none⟩)), (1, u64 x), (5, .pointer (some ⟨b5, 0, none⟩)), (6, .pointer (some ⟨b6, 0, none⟩))]) (fun ⟨r1, b8⟩ => ((b8, Obj.cells (Hd.cl ⟨0, zeroD, 0, 0⟩).toArray 38 (0, 0)) :: [(b6, Obj.cells (Hd.cl ⟨0, zeroD, 0, 0⟩).toArray 38 (0, 0)), (b5, Obj.cells #[.slice oa xs.length cap] 24 (0, 0)), (b3, Obj.cells g.cl.toArray 53 (0, 0))])) 4 #[true, true, true, true, false, false, false, true, false] ?_ (fun hmid7 => ?_)
      · -- state [0, 1, 2, 3, 7]
        rintro ⟨r1, b8⟩ _
        refine JA.one 4 ?_
        refine JO.callN rfl (.none rfl) rfl Tryd.call75 (fun w1 hw1 => eleaves_any oa cap xs w1 (hb.old hw1) hsz (by omega)) ?_
        rintro _ _ ⟨r1, rfl, rfl, hr1⟩
        exact JA.weak rfl (by kernel_rfl) (by exact Keeps.k) (by exact Sub.k) (hmid4 (r1, b8) (by exact hr1))
      refine JA.mid (X := Option Row × Nat) (fun ⟨r1, b8⟩ => True) (fun ⟨r1, b8⟩ => [(20, .agg (arr8 (rootR (leavesE (xs.map Et.e))).1)), (16, .slice oa xs.length cap), (15, .pointer (some ⟨b5, 0 + 0, none⟩)), (3, .pointer (some ⟨b3, 0, none⟩)), (1, u64 x), (5, .pointer (some ⟨b5, 0, none⟩)), (6, .pointer (some ⟨b6, 0, none⟩))]) (fun ⟨r1, b8⟩ => ([(b6, Obj.cells (Hd.cl ⟨0, zeroD, 0, 0⟩).toArray 38 (0, 0)), (b5, Obj.cells #[.slice oa xs.length cap] 24 (0, 0)), (b3, Obj.cells g.cl.toArray 53 (0, 0))])) 4 #[true, true, false, true, true, true, false, false, false] ?_ (fun hmid8 => ?_)
      · -- state [0, 1, 3, 4, 5]
        rintro ⟨r1, b8⟩ _
        refine JA.branch [2, 7] (by kernel_rfl) rfl ?_
        refine JAll.cons rfl ?_ ?_
        · -- 2
          refine JO.val rfl rfl rfl (.none rfl) (Ev.lenS rfl Tryd.underlying22) ?_
          exact JA.wk (hmid3 (none, 0) trivial)
        refine JAll.cons rfl ?_ JAll.nil
        refine JO.new rfl rfl rfl (.none rfl) (En.allocZ (cs := (Hd.cl ⟨0, zeroD, 0, 0⟩).toArray) Tryd.zeroValue38 rfl) (fun b8 hb8 => ?_)
        exact JA.wk (hmid5 (none, b8) trivial)
      refine JA.mid (X := Option Row × Nat) (fun ⟨r1, b8⟩ => Row.ok 32 (leavesE (xs.map Et.e)).length (fl (leavesE (xs.map Et.e))) r1) (fun ⟨r1, b8⟩ => [(8, .pointer (some ⟨b8, 0, none⟩)), (19, Row.v (leavesE (xs.map Et.e)).length r1), (16, .slice oa xs.length cap), (15, .pointer (some ⟨b5, 0 + 0, none⟩)), (3, .pointer (some ⟨b3, 0, none⟩)), (1, u64 x), (5, .pointer (some ⟨b5, 0, none⟩)), (6, .pointer (some ⟨b6, 0, none⟩))]) (fun ⟨r1, b8⟩ => ((b8, Obj.cells (Hd.cl ⟨0, zeroD, 0, 0⟩).toArray 38 (0, 0)) :: Row.b 33 r1 ++ [(b6, Obj.cells (Hd.cl ⟨0, zeroD, 0, 0⟩).toArray 38 (0, 0)), (b5, Obj.cells #[.slice oa xs.length cap] 24 (0, 0)), (b3, Obj.cells g.cl.toArray 53 (0, 0))])) 4 #[true, true, false, true, true, false, false, true, false] ?_ (fun hmid9 => ?_)
      · -- state [0, 1, 3, 4, 7]
        rintro ⟨r1, b8⟩ hr1
        refine JA.branch [2, 5] (by kernel_rfl) rfl ?_
        refine JAll.cons rfl ?_ ?_
        · -- 2
          refine JO.val rfl rfl rfl (.none rfl) (Ev.lenS rfl Tryd.underlying22) ?_
          exact JA.weak rfl (by kernel_rfl) (by exact Keeps.k) (by exact Sub.k) (hmid4 (r1, b8) (by exact hr1))
        refine JAll.cons rfl ?_ JAll.nil
        obtain ⟨o1, c1, e1, _, hC1⟩ := Row.vw (e := 33) hr1
        refine JO.re (d := 19) rfl e1 ?_
        refine JO.callV rfl (.none rfl) rfl Tryd.call74 (fun w1 hw1 => rOf_any o1 c1 (leavesE (xs.map Et.e)) w1 (hC1 w1 hw1 (fun p hp => by simp [hp])) (by rw [leaves_len]; omega)) ?_
        exact JA.wk (hmid5 (none, b8) trivial)
      refine JA.mid (X := Option Row × Nat) (fun ⟨r1, b8⟩ => True) (fun ⟨r1, b8⟩ => [(8, .pointer (some ⟨b8, 0, none⟩)), (20, .agg (arr8 (rootR (leavesE (xs.map Et.e))).1)), (15, .pointer (some ⟨b5, 0 + 0, none⟩)), (3, .pointer (some ⟨b3, 0, none⟩)), (1, u64 x), (5, .pointer (some ⟨b5, 0, none⟩)), (6, .pointer (some ⟨b6, 0, none⟩))]) (fun ⟨r1, b8⟩ => ((b8, Obj.cells (Hd.cl ⟨0, zeroD, 0, 0⟩).toArray 38 (0, 0)) :: [(b6, Obj.cells (Hd.cl ⟨0, zeroD, 0, 0⟩).toArray 38 (0, 0)), (b5, Obj.cells #[.slice oa xs.length cap] 24 (0, 0)), (b3, Obj.cells g.cl.toArray 53 (0, 0))])) 4 #[true, false, false, true, true, true, false, true, false] ?_ (fun hmid10 => ?_)
      · -- state [0, 3, 4, 5, 7]
        rintro ⟨r1, b8⟩ _
        refine JA.one 1 ?_
        refine JO.val rfl rfl rfl (.none rfl) (Ev.load1 rfl Tryd.underlying22 rfl (Rd.own memK rfl)) ?_
        exact JA.wk (hmid5 (none, b8) trivial)
      refine JA.mid (X := Option Row × Nat) (fun ⟨r1, b8⟩ => True) (fun ⟨r1, b8⟩ => [(18, .agg #[.slice oa xs.length cap]), (17, .int .i64 ((xs.length : Nat) : Int)), (3, .pointer (some ⟨b3, 0, none⟩)), (1, u64 x), (5, .pointer (some ⟨b5, 0, none⟩)), (6, .pointer (some ⟨b6, 0, none⟩))]) (fun ⟨r1, b8⟩ => ([(b6, Obj.cells (Hd.cl ⟨0, zeroD, 0, 0⟩).toArray 38 (0, 0)), (b5, Obj.cells #[.slice oa xs.length cap] 24 (0, 0)), (b3, Obj.cells g.cl.toArray 53 (0, 0))])) 5 #[true, true, true, true, false, false, false, false, false] ?_ (fun hmid11 => ?_)
      · -- state [0, 1, 2, 3]
        rintro ⟨r1, b8⟩ _
        refine JA.branch [4, 7] (by kernel_rfl) rfl ?_
        refine JAll.cons rfl ?_ ?_
        · -- 4
          refine JO.callN rfl (.none rfl) rfl Tryd.call75 (fun w1 hw1 => eleaves_any oa cap xs w1 (hb.old hw1) hsz (by omega)) ?_
          rintro _ _ ⟨r1, rfl, rfl, hr1⟩
          exact JA.weak rfl (by kernel_rfl) (by exact Keeps.k) (by exact Sub.k) (hmid6 (r1, 0) (by exact hr1))
        refine JAll.cons rfl ?_ JAll.nil
        refine JO.new rfl rfl rfl (.none rfl) (En.allocZ (cs := (Hd.cl ⟨0, zeroD, 0, 0⟩).toArray) Tryd.zeroValue38 rfl) (fun b8 hb8 => ?_)
        exact JA.wk (hmid7 (none, b8) trivial)
      refine JA.mid (X := Option Row × Nat) (fun ⟨r1, b8⟩ => True) (fun ⟨r1, b8⟩ => [(8, .pointer (some ⟨b8, 0, none⟩)), (17, .int .i64 ((xs.length : Nat) : Int)), (3, .pointer (some ⟨b3, 0, none⟩)), (1, u64 x), (5, .pointer (some ⟨b5, 0, none⟩)), (6, .pointer (some ⟨b6, 0, none⟩))]) (fun ⟨r1, b8⟩ => ((b8, Obj.cells (Hd.cl ⟨0, zeroD, 0, 0⟩).toArray 38 (0, 0)) :: [(b6, Obj.cells (Hd.cl ⟨0, zeroD, 0, 0⟩).toArray 38 (0, 0)), (b5, Obj.cells #[.slice oa xs.length cap] 24 (0, 0)), (b3, Obj.cells g.cl.toArray 53 (0, 0))])) 5 #[true, true, true, false, false, false, false, true, false] ?_ (fun hmid12 => ?_)
      · -- state [0, 1, 2, 7]
        rintro ⟨r1, b8⟩ _
        refine JA.one 3 ?_
        refine JO.val rfl rfl rfl (.none rfl) (Ev.lB Tryd.underlying24 Tryd.sizeOf24) ?_
        exact JA.wk (hmid7 (none, b8) trivial)
      refine JA.mid (X := Option Row × Nat) (fun ⟨r1, b8⟩ => Row.ok 32 (leavesE (xs.map Et.e)).length (fl (leavesE (xs.map Et.e))) r1) (fun ⟨r1, b8⟩ => [(19, Row.v (leavesE (xs.map Et.e)).length r1), (16, .slice oa xs.length cap), (15, .pointer (some ⟨b5, 0 + 0, none⟩)), (3, .pointer (some ⟨b3, 0, none⟩)), (1, u64 x), (5, .pointer (some ⟨b5, 0, none⟩)), (6, .pointer (some ⟨b6, 0, none⟩))]) (fun ⟨r1, b8⟩ => (Row.b 33 r1 ++ [(b6, Obj.cells (Hd.cl ⟨0, zeroD, 0, 0⟩).toArray 38 (0, 0)), (b5, Obj.cells #[.slice oa xs.length cap] 24 (0, 0)), (b3, Obj.cells g.cl.toArray 53 (0, 0))])) 5 #[true, true, false, true, true, false, false, false, false] ?_ (fun hmid13 => ?_)
      · -- state [0, 1, 3, 4]
        rintro ⟨r1, b8⟩ hr1
        refine JA.branch [2, 5, 7] (by kernel_rfl) rfl ?_
        refine JAll.cons rfl ?_ ?_
        · -- 2
          refine JO.val rfl rfl rfl (.none rfl) (Ev.lenS rfl Tryd.underlying22) ?_
          exact JA.weak rfl (by kernel_rfl) (by exact Keeps.k) (by exact Sub.k) (hmid6 (r1, 0) (by exact hr1))
        refine JAll.cons rfl ?_ ?_
        · -- 5
          obtain ⟨o1, c1, e1, _, hC1⟩ := Row.vw (e := 33) hr1
          refine JO.re (d := 19) rfl e1 ?_
          refine JO.callV rfl (.none rfl) rfl Tryd.call74 (fun w1 hw1 => rOf_any o1 c1 (leavesE (xs.map Et.e)) w1 (hC1 w1 hw1 (fun p hp => by simp [hp])) (by rw [leaves_len]; omega)) ?_
          exact JA.wk (hmid8 (none, 0) trivial)
        refine JAll.cons rfl ?_ JAll.nil
        refine JO.new rfl rfl rfl (.none rfl) (En.allocZ (cs := (Hd.cl ⟨0, zeroD, 0, 0⟩).toArray) Tryd.zeroValue38 rfl) (fun b8 hb8 => ?_)
        exact JA.weak rfl (by kernel_rfl) (by exact Keeps.k) (by exact Sub.k) (hmid9 (r1, b8) (by exact hr1))
      refine JA.mid (X := Option Row × Nat) (fun ⟨r1, b8⟩ => True) (fun ⟨r1, b8⟩ => [(8, .pointer (some ⟨b8, 0, none⟩)), (18, .agg #[.slice oa xs.length cap]), (16, .slice oa xs.length cap), (15, .pointer (some ⟨b5, 0 + 0, none⟩)), (3, .pointer (some ⟨b3, 0, none⟩)), (1, u64 x), (5, .pointer (some ⟨b5, 0, none⟩)), (6, .pointer (some ⟨b6, 0, none⟩))]) (fun ⟨r1, b8⟩ => ((b8, Obj.cells (Hd.cl ⟨0, zeroD, 0, 0⟩).toArray 38 (0, 0)) :: [(b6, Obj.cells (Hd.cl ⟨0, zeroD, 0, 0⟩).toArray 38 (0, 0)), (b5, Obj.cells #[.slice oa xs.length cap] 24 (0, 0)), (b3, Obj.cells g.cl.toArray 53 (0, 0))])) 5 #[true, true, false, true, false, false, false, true, false] ?_ (fun hmid14 => ?_)
      · -- state [0, 1, 3, 7]
        rintro ⟨r1, b8⟩ _
        refine JA.branch [2, 4] (by kernel_rfl) rfl ?_
        refine JAll.cons rfl ?_ ?_
        · -- 2
          refine JO.val rfl rfl rfl (.none rfl) (Ev.lenS rfl Tryd.underlying22) ?_
          exact JA.wk (hmid7 (none, b8) trivial)
        refine JAll.cons rfl ?_ JAll.nil
        refine JO.callN rfl (.none rfl) rfl Tryd.call75 (fun w1 hw1 => eleaves_any oa cap xs w1 (hb.old hw1) hsz (by omega)) ?_
        rintro _ _ ⟨r1, rfl, rfl, hr1⟩
        exact JA.weak rfl (by kernel_rfl) (by exact Keeps.k) (by exact Sub.k) (hmid9 (r1, b8) (by exact hr1))
      refine JA.mid (X := Option Row × Nat) (fun ⟨r1, b8⟩ => True) (fun ⟨r1, b8⟩ => [(20, .agg (arr8 (rootR (leavesE (xs.map Et.e))).1)), (15, .pointer (some ⟨b5, 0 + 0, none⟩)), (3, .pointer (some ⟨b3, 0, none⟩)), (1, u64 x), (5, .pointer (some ⟨b5, 0, none⟩)), (6, .pointer (some ⟨b6, 0, none⟩))]) (fun ⟨r1, b8⟩ => ([(b6, Obj.cells (Hd.cl ⟨0, zeroD, 0, 0⟩).toArray 38 (0, 0)), (b5, Obj.cells #[.slice oa xs.length cap] 24 (0, 0)), (b3, Obj.cells g.cl.toArray 53 (0, 0))])) 5 #[true, false, false, true, true, true, false, false, false] ?_ (fun hmid15 => ?_)
      · -- state [0, 3, 4, 5]
        rintro ⟨r1, b8⟩ _
        refine JA.branch [1, 7] (by kernel_rfl) rfl ?_
        refine JAll.cons rfl ?_ ?_
        · -- 1
          refine JO.val rfl rfl rfl (.none rfl) (Ev.load1 rfl Tryd.underlying22 rfl (Rd.own memK rfl)) ?_
          exact JA.wk (hmid8 (none, 0) trivial)
        refine JAll.cons rfl ?_ JAll.nil
        refine JO.new rfl rfl rfl (.none rfl) (En.allocZ (cs := (Hd.cl ⟨0, zeroD, 0, 0⟩).toArray) Tryd.zeroValue38 rfl) (fun b8 hb8 => ?_)
        exact JA.wk (hmid10 (none, b8) trivial)
      refine JA.mid (X := Option Row × Nat) (fun ⟨r1, b8⟩ => Row.ok 32 (leavesE (xs.map Et.e)).length (fl (leavesE (xs.map Et.e))) r1) (fun ⟨r1, b8⟩ => [(8, .pointer (some ⟨b8, 0, none⟩)), (19, Row.v (leavesE (xs.map Et.e)).length r1), (15, .pointer (some ⟨b5, 0 + 0, none⟩)), (3, .pointer (some ⟨b3, 0, none⟩)), (1, u64 x), (5, .pointer (some ⟨b5, 0, none⟩)), (6, .pointer (some ⟨b6, 0, none⟩))]) (fun ⟨r1, b8⟩ => ((b8, Obj.cells (Hd.cl ⟨0, zeroD, 0, 0⟩).toArray 38 (0, 0)) :: Row.b 33 r1 ++ [(b6, Obj.cells (Hd.cl ⟨0, zeroD, 0, 0⟩).toArray 38 (0, 0)), (b5, Obj.cells #[.slice oa xs.length cap] 24 (0, 0)), (b3, Obj.cells g.cl.toArray 53 (0, 0))])) 5 #[true, false, false, true, true, false, false, true, false] ?_ (fun hmid16 => ?_)
      · -- state [0, 3, 4, 7]
        rintro ⟨r1, b8⟩ hr1
        refine JA.branch [1, 5] (by kernel_rfl) rfl ?_
        refine JAll.cons rfl ?_ ?_
        · -- 1
          refine JO.val rfl rfl rfl (.none rfl) (Ev.load1 rfl Tryd.underlying22 rfl (Rd.own memK rfl)) ?_
          exact JA.weak rfl (by kernel_rfl) (by exact Keeps.k) (by exact Sub.k) (hmid9 (r1, b8) (by exact hr1))
        refine JAll.cons rfl ?_ JAll.nil
        obtain ⟨o1, c1, e1, _, hC1⟩ := Row.vw (e := 33) hr1
        refine JO.re (d := 19) rfl e1 ?_
        refine JO.callV rfl (.none rfl) rfl Tryd.call74 (fun w1 hw1 => rOf_any o1 c1 (leavesE (xs.map Et.e)) w1 (hC1 w1 hw1 (fun p hp => by simp [hp])) (by rw [leaves_len]; omega)) ?_
        exact JA.wk (hmid10 (none, b8) trivial)
      refine JA.mid (X := Option Row × Nat) (fun ⟨r1, b8⟩ => True) (fun ⟨r1, b8⟩ => [(17, .int .i64 ((xs.length : Nat) : Int)), (3, .pointer (some ⟨b3, 0, none⟩)), (1, u64 x), (5, .pointer (some ⟨b5, 0, none⟩)), (6, .pointer (some ⟨b6, 0, none⟩))]) (fun ⟨r1, b8⟩ => ([(b6, Obj.cells (Hd.cl ⟨0, zeroD, 0, 0⟩).toArray 38 (0, 0)), (b5, Obj.cells #[.slice oa xs.length cap] 24 (0, 0)), (b3, Obj.cells g.cl.toArray 53 (0, 0))])) 6 #[true, true, true, false, false, false, false, false, false] ?_ (fun hmid17 => ?_)
      · -- state [0, 1, 2]
        rintro ⟨r1, b8⟩ _
        refine JA.branch [3, 7] (by kernel_rfl) rfl ?_
        refine JAll.cons rfl ?_ ?_
        · -- 3
          refine JO.val rfl rfl rfl (.none rfl) (Ev.lB Tryd.underlying24 Tryd.sizeOf24) ?_
          exact JA.wk (hmid11 (none, 0) trivial)
        refine JAll.cons rfl ?_ JAll.nil
        refine JO.new rfl rfl rfl (.none rfl) (En.allocZ (cs := (Hd.cl ⟨0, zeroD, 0, 0⟩).toArray) Tryd.zeroValue38 rfl) (fun b8 hb8 => ?_)
        exact JA.wk (hmid12 (none, b8) trivial)
      refine JA.mid (X := Option Row × Nat) (fun ⟨r1, b8⟩ => True) (fun ⟨r1, b8⟩ => [(18, .agg #[.slice oa xs.length cap]), (16, .slice oa xs.length cap), (15, .pointer (some ⟨b5, 0 + 0, none⟩)), (3, .pointer (some ⟨b3, 0, none⟩)), (1, u64 x), (5, .pointer (some ⟨b5, 0, none⟩)), (6, .pointer (some ⟨b6, 0, none⟩))]) (fun ⟨r1, b8⟩ => ([(b6, Obj.cells (Hd.cl ⟨0, zeroD, 0, 0⟩).toArray 38 (0, 0)), (b5, Obj.cells #[.slice oa xs.length cap] 24 (0, 0)), (b3, Obj.cells g.cl.toArray 53 (0, 0))])) 6 #[true, true, false, true, false, false, false, false, false] ?_ (fun hmid18 => ?_)
      · -- state [0, 1, 3]
        rintro ⟨r1, b8⟩ _
        refine JA.branch [2, 4, 7] (by kernel_rfl) rfl ?_
        refine JAll.cons rfl ?_ ?_
        · -- 2
          refine JO.val rfl rfl rfl (.none rfl) (Ev.lenS rfl Tryd.underlying22) ?_
          exact JA.wk (hmid11 (none, 0) trivial)
        refine JAll.cons rfl ?_ ?_
        · -- 4
          refine JO.callN rfl (.none rfl) rfl Tryd.call75 (fun w1 hw1 => eleaves_any oa cap xs w1 (hb.old hw1) hsz (by omega)) ?_
          rintro _ _ ⟨r1, rfl, rfl, hr1⟩
          exact JA.weak rfl (by kernel_rfl) (by exact Keeps.k) (by exact Sub.k) (hmid13 (r1, 0) (by exact hr1))
        refine JAll.cons rfl ?_ JAll.nil
        refine JO.new rfl rfl rfl (.none rfl) (En.allocZ (cs := (Hd.cl ⟨0, zeroD, 0, 0⟩).toArray) Tryd.zeroValue38 rfl) (fun b8 hb8 => ?_)
        exact JA.wk (hmid14 (none, b8) trivial)
      refine JA.mid (X := Option Row × Nat) (fun ⟨r1, b8⟩ => True) (fun ⟨r1, b8⟩ => [(8, .pointer (some ⟨b8, 0, none⟩)), (16, .slice oa xs.length cap), (15, .pointer (some ⟨b5, 0 + 0, none⟩)), (3, .pointer (some ⟨b3, 0, none⟩)), (1, u64 x), (5, .pointer (some ⟨b5, 0, none⟩)), (6, .pointer (some ⟨b6, 0, none⟩))]) (fun ⟨r1, b8⟩ => ((b8, Obj.cells (Hd.cl ⟨0, zeroD, 0, 0⟩).toArray 38 (0, 0)) :: [(b6, Obj.cells (Hd.cl ⟨0, zeroD, 0, 0⟩).toArray 38 (0, 0)), (b5, Obj.cells #[.slice oa xs.length cap] 24 (0, 0)), (b3, Obj.cells g.cl.toArray 53 (0, 0))])) 6 #[true, true, false, false, false, false, false, true, false] ?_ (fun hmid19 => ?_)
      · -- state [0, 1, 7]
        rintro ⟨r1, b8⟩ _
        refine JA.branch [2, 3] (by kernel_rfl) rfl ?_
        refine JAll.cons rfl ?_ ?_
        · -- 2
          refine JO.val rfl rfl rfl (.none rfl) (Ev.lenS rfl Tryd.underlying22) ?_
          exact JA.wk (hmid12 (none, b8) trivial)
        refine JAll.cons rfl ?_ JAll.nil
        refine JO.val rfl rfl rfl (.none rfl) (Ev.lB Tryd.underlying24 Tryd.sizeOf24) ?_
        exact JA.wk (hmid14 (none, b8) trivial)
      refine JA.mid (X := Option Row × Nat) (fun ⟨r1, b8⟩ => Row.ok 32 (leavesE (xs.map Et.e)).length (fl (leavesE (xs.map Et.e))) r1) (fun ⟨r1, b8⟩ => [(19, Row.v (leavesE (xs.map Et.e)).length r1), (15, .pointer (some ⟨b5, 0 + 0, none⟩)), (3, .pointer (some ⟨b3, 0, none⟩)), (1, u64 x), (5, .pointer (some ⟨b5, 0, none⟩)), (6, .pointer (some ⟨b6, 0, none⟩))]) (fun ⟨r1, b8⟩ => (Row.b 33 r1 ++ [(b6, Obj.cells (Hd.cl ⟨0, zeroD, 0, 0⟩).toArray 38 (0, 0)), (b5, Obj.cells #[.slice oa xs.length cap] 24 (0, 0)), (b3, Obj.cells g.cl.toArray 53 (0, 0))])) 6 #[true, false, false, true, true, false, false, false, false] ?_ (fun hmid20 => ?_)
      · -- state [0, 3, 4]
        rintro ⟨r1, b8⟩ hr1
        refine JA.branch [1, 5, 7] (by kernel_rfl) rfl ?_
        refine JAll.cons rfl ?_ ?_
        · -- 1
          refine JO.val rfl rfl rfl (.none rfl) (Ev.load1 rfl Tryd.underlying22 rfl (Rd.own memK rfl)) ?_
          exact JA.weak rfl (by kernel_rfl) (by exact Keeps.k) (by exact Sub.k) (hmid13 (r1, 0) (by exact hr1))
        refine JAll.cons rfl ?_ ?_
        · -- 5
          obtain ⟨o1, c1, e1, _, hC1⟩ := Row.vw (e := 33) hr1
          refine JO.re (d := 19) rfl e1 ?_
          refine JO.callV rfl (.none rfl) rfl Tryd.call74 (fun w1 hw1 => rOf_any o1 c1 (leavesE (xs.map Et.e)) w1 (hC1 w1 hw1 (fun p hp => by simp [hp])) (by rw [leaves_len]; omega)) ?_
          exact JA.wk (hmid15 (none, 0) trivial)
        refine JAll.cons rfl ?_ JAll.nil
        refine JO.new rfl rfl rfl (.none rfl) (En.allocZ (cs := (Hd.cl ⟨0, zeroD, 0, 0⟩).toArray) Tryd.zeroValue38 rfl) (fun b8 hb8 => ?_)
        exact JA.weak rfl (by kernel_rfl) (by exact Keeps.k) (by exact Sub.k) (hmid16 (r1, b8) (by exact hr1))
      refine JA.mid (X := Option Row × Nat) (fun ⟨r1, b8⟩ => True) (fun ⟨r1, b8⟩ => [(8, .pointer (some ⟨b8, 0, none⟩)), (18, .agg #[.slice oa xs.length cap]), (15, .pointer (some ⟨b5, 0 + 0, none⟩)), (3, .pointer (some ⟨b3, 0, none⟩)), (1, u64 x), (5, .pointer (some ⟨b5, 0, none⟩)), (6, .pointer (some ⟨b6, 0, none⟩))]) (fun ⟨r1, b8⟩ => ((b8, Obj.cells (Hd.cl ⟨0, zeroD, 0, 0⟩).toArray 38 (0, 0)) :: [(b6, Obj.cells (Hd.cl ⟨0, zeroD, 0, 0⟩).toArray 38 (0, 0)), (b5, Obj.cells #[.slice oa xs.length cap] 24 (0, 0)), (b3, Obj.cells g.cl.toArray 53 (0, 0))])) 6 #[true, false, false, true, false, false, false, true, false] ?_ (fun hmid21 => ?_)
      · -- state [0, 3, 7]
        rintro ⟨r1, b8⟩ _
        refine JA.branch [1, 4] (by kernel_rfl) rfl ?_
        refine JAll.cons rfl ?_ ?_
        · -- 1
          refine JO.val rfl rfl rfl (.none rfl) (Ev.load1 rfl Tryd.underlying22 rfl (Rd.own memK rfl)) ?_
          exact JA.wk (hmid14 (none, b8) trivial)
        refine JAll.cons rfl ?_ JAll.nil
        refine JO.callN rfl (.none rfl) rfl Tryd.call75 (fun w1 hw1 => eleaves_any oa cap xs w1 (hb.old hw1) hsz (by omega)) ?_
        rintro _ _ ⟨r1, rfl, rfl, hr1⟩
        exact JA.weak rfl (by kernel_rfl) (by exact Keeps.k) (by exact Sub.k) (hmid16 (r1, b8) (by exact hr1))
      refine JA.mid (X := Option Row × Nat) (fun ⟨r1, b8⟩ => True) (fun ⟨r1, b8⟩ => [(16, .slice oa xs.length cap), (15, .pointer (some ⟨b5, 0 + 0, none⟩)), (3, .pointer (some ⟨b3, 0, none⟩)), (1, u64 x), (5, .pointer (some ⟨b5, 0, none⟩)), (6, .pointer (some ⟨b6, 0, none⟩))]) (fun ⟨r1, b8⟩ => ([(b6, Obj.cells (Hd.cl ⟨0, zeroD, 0, 0⟩).toArray 38 (0, 0)), (b5, Obj.cells #[.slice oa xs.length cap] 24 (0, 0)), (b3, Obj.cells g.cl.toArray 53 (0, 0))])) 7 #[true, true, false, false, false, false, false, false, false] ?_ (fun hmid22 => ?_)
      · -- state [0, 1]
        rintro ⟨r1, b8⟩ _
        refine JA.branch [2, 3, 7] (by kernel_rfl) rfl ?_
        refine JAll.cons rfl ?_ ?_
        · -- 2
          refine JO.val rfl rfl rfl (.none rfl) (Ev.lenS rfl Tryd.underlying22) ?_
          exact JA.wk (hmid17 (none, 0) trivial)
        refine JAll.cons rfl ?_ ?_
        · -- 3
          refine JO.val rfl rfl rfl (.none rfl) (Ev.lB Tryd.underlying24 Tryd.sizeOf24) ?_
          exact JA.wk (hmid18 (none, 0) trivial)
        refine JAll.cons rfl ?_ JAll.nil
        refine JO.new rfl rfl rfl (.none rfl) (En.allocZ (cs := (Hd.cl ⟨0, zeroD, 0, 0⟩).toArray) Tryd.zeroValue38 rfl) (fun b8 hb8 => ?_)
        exact JA.wk (hmid19 (none, b8) trivial)
      refine JA.mid (X := Option Row × Nat) (fun ⟨r1, b8⟩ => True) (fun ⟨r1, b8⟩ => [(18, .agg #[.slice oa xs.length cap]), (15, .pointer (some ⟨b5, 0 + 0, none⟩)), (3, .pointer (some ⟨b3, 0, none⟩)), (1, u64 x), (5, .pointer (some ⟨b5, 0, none⟩)), (6, .pointer (some ⟨b6, 0, none⟩))]) (fun ⟨r1, b8⟩ => ([(b6, Obj.cells (Hd.cl ⟨0, zeroD, 0, 0⟩).toArray 38 (0, 0)), (b5, Obj.cells #[.slice oa xs.length cap] 24 (0, 0)), (b3, Obj.cells g.cl.toArray 53 (0, 0))])) 7 #[true, false, false, true, false, false, false, false, false] ?_ (fun hmid23 => ?_)
      · -- state [0, 3]
        rintro ⟨r1, b8⟩ _
        refine JA.branch [1, 4, 7] (by kernel_rfl) rfl ?_
        refine JAll.cons rfl ?_ ?_
        · -- 1
          refine JO.val rfl rfl rfl (.none rfl) (Ev.load1 rfl Tryd.underlying22 rfl (Rd.own memK rfl)) ?_
          exact JA.wk (hmid18 (none, 0) trivial)
        refine JAll.cons rfl ?_ ?_
        · -- 4
          refine JO.callN rfl (.none rfl) rfl Tryd.call75 (fun w1 hw1 => eleaves_any oa cap xs w1 (hb.old hw1) hsz (by omega)) ?_
          rintro _ _ ⟨r1, rfl, rfl, hr1⟩
          exact JA.weak rfl (by kernel_rfl) (by exact Keeps.k) (by exact Sub.k) (hmid20 (r1, 0) (by exact hr1))
        refine JAll.cons rfl ?_ JAll.nil
        refine JO.new rfl rfl rfl (.none rfl) (En.allocZ (cs := (Hd.cl ⟨0, zeroD, 0, 0⟩).toArray) Tryd.zeroValue38 rfl) (fun b8 hb8 => ?_)
        exact JA.wk (hmid21 (none, b8) trivial)
      refine JA.mid (X := Option Row × Nat) (fun ⟨r1, b8⟩ => True) (fun ⟨r1, b8⟩ => [(8, .pointer (some ⟨b8, 0, none⟩)), (15, .pointer (some ⟨b5, 0 + 0, none⟩)), (3, .pointer (some ⟨b3, 0, none⟩)), (1, u64 x), (5, .pointer (some ⟨b5, 0, none⟩)), (6, .pointer (some ⟨b6, 0, none⟩))]) (fun ⟨r1, b8⟩ => ((b8, Obj.cells (Hd.cl ⟨0, zeroD, 0, 0⟩).toArray 38 (0, 0)) :: [(b6, Obj.cells (Hd.cl ⟨0, zeroD, 0, 0⟩).toArray 38 (0, 0)), (b5, Obj.cells #[.slice oa xs.length cap] 24 (0, 0)), (b3, Obj.cells g.cl.toArray 53 (0, 0))])) 7 #[true, false, false, false, false, false, false, true, false] ?_ (fun hmid24 => ?_)
      · -- state [0, 7]
        rintro ⟨r1, b8⟩ _
        refine JA.branch [1, 3] (by kernel_rfl) rfl ?_
        refine JAll.cons rfl ?_ ?_
        · -- 1
          refine JO.val rfl rfl rfl (.none rfl) (Ev.load1 rfl Tryd.underlying22 rfl (Rd.own memK rfl)) ?_
          exact JA.wk (hmid19 (none, b8) trivial)
        refine JAll.cons rfl ?_ JAll.nil
        refine JO.val rfl rfl rfl (.none rfl) (Ev.lB Tryd.underlying24 Tryd.sizeOf24) ?_
        exact JA.wk (hmid21 (none, b8) trivial)
      refine JA.tkc 0 rfl (.none rfl) (fun _ => (Ev.fld 0 rfl (fun _ _ => by kernel_rfl))) ?_
      refine JA.branch [1, 3, 7] (by kernel_rfl) rfl ?_
      refine JAll.cons rfl ?_ ?_
      · -- 1
        refine JO.val rfl rfl rfl (.none rfl) (Ev.load1 rfl Tryd.underlying22 rfl (Rd.own memK rfl)) ?_
        exact JA.wk (hmid22 (none, 0) trivial)
      refine JAll.cons rfl ?_ ?_
      · -- 3
        refine JO.val rfl rfl rfl (.none rfl) (Ev.lB Tryd.underlying24 Tryd.sizeOf24) ?_
        exact JA.wk (hmid23 (none, 0) trivial)
      refine JAll.cons rfl ?_ JAll.nil
      refine JO.new rfl rfl rfl (.none rfl) (En.allocZ (cs := (Hd.cl ⟨0, zeroD, 0, 0⟩).toArray) Tryd.zeroValue38 rfl) (fun b8 hb8 => ?_)
      exact JA.wk (hmid24 (none, b8) trivial)
    rintro b8
    refine JQ.thenN ?_
    refine JC.seq ?_
    refine JC.cut (X := Nat) (fun b9 => [(6, .pointer (some ⟨b6, 0, none⟩)), (8, .pointer (some ⟨b8, 0, none⟩)), (9, .pointer (some ⟨b9, 0, none⟩)), (10, .int .i64 (kyE g x))]) (fun b9 => [(b9, Obj.cells #[u64 (if kyE g x = 0 then (sigR g x (txt ⟨((xs.length : Nat) : Int), rootR (leavesE (xs.map Et.e)), 0, 0⟩)).1 else 0), u64 (if kyE g x = 0 then (sigR g x (txt ⟨((xs.length : Nat) : Int), rootR (leavesE (xs.map Et.e)), 0, 0⟩)).2 else 0)] 36 (0, 0)), (b8, Obj.cells (Hd.cl ⟨((xs.length : Nat) : Int), rootR (leavesE (xs.map Et.e)), 0, 0⟩).toArray 38 (0, 0)), (b6, Obj.cells (Hd.cl ⟨0, zeroD, 0, 0⟩).toArray 38 (0, 0))]) ?_ ?_
    · refine JC.regionA (by kernel_rfl) ?_
      refine JA.mid (X := Option Row × Nat) (fun ⟨rT, b9⟩ => True) (fun ⟨rT, b9⟩ => [(9, .pointer (some ⟨b9, 0, none⟩)), (29, .int .i64 (kyE g x)), (28, .agg #[u64 (if kyE g x = 0 then (sigR g x (txt ⟨((xs.length : Nat) : Int), rootR (leavesE (xs.map Et.e)), 0, 0⟩)).1 else 0), u64 (if kyE g x = 0 then (sigR g x (txt ⟨((xs.length : Nat) : Int), rootR (leavesE (xs.map Et.e)), 0, 0⟩)).2 else 0)]), (22, .tuple #[.agg #[u64 (if kyE g x = 0 then (sigR g x (txt ⟨((xs.length : Nat) : Int), rootR (leavesE (xs.map Et.e)), 0, 0⟩)).1 else 0), u64 (if kyE g x = 0 then (sigR g x (txt ⟨((xs.length : Nat) : Int), rootR (leavesE (xs.map Et.e)), 0, 0⟩)).2 else 0)], .int .i64 (kyE g x)]), (3, .pointer (some ⟨b3, 0, none⟩)), (1, u64 x), (6, .pointer (some ⟨b6, 0, none⟩)), (8, .pointer (some ⟨b8, 0, none⟩))]) (fun ⟨rT, b9⟩ => ((b9, Obj.cells #[u64 0, u64 0] 36 (0, 0)) :: [(b8, Obj.cells (Hd.cl ⟨((xs.length : Nat) : Int), rootR (leavesE (xs.map Et.e)), 0, 0⟩).toArray 38 (0, 0)), (b6, Obj.cells (Hd.cl ⟨0, zeroD, 0, 0⟩).toArray 38 (0, 0)), (b3, Obj.cells g.cl.toArray 53 (0, 0))])) 2 #[true, true, true, true, true, true, true, true, true, false, false] ?_ (fun hmid0 => ?_)
      · -- state [0, 1, 2, 3, 4, 5, 6, 7, 8]
        rintro ⟨rT, b9⟩ _
        refine JA.one 9 ?_
        refine JO.sto rfl rfl (.none rfl) (Es.storeA rfl rfl Tryd.sizeOf36 Upd.k rfl rfl (sig_one _ _)) ?_
        refine JA.tkc 10 rfl (.none rfl) (fun _ => (Ev.assign rfl)) ?_
        refine JA.done (by kernel_rfl) ?_
        refine JQ.cutN b9 ?_ ?_
        · exact Keeps.k
        · exact Sub.k
      refine JA.mid (X := Option Row × Nat) (fun ⟨rT, b9⟩ => True) (fun ⟨rT, b9⟩ => [(29, .int .i64 (kyE g x)), (28, .agg #[u64 (if kyE g x = 0 then (sigR g x (txt ⟨((xs.length : Nat) : Int), rootR (leavesE (xs.map Et.e)), 0, 0⟩)).1 else 0), u64 (if kyE g x = 0 then (sigR g x (txt ⟨((xs.length : Nat) : Int), rootR (leavesE (xs.map Et.e)), 0, 0⟩)).2 else 0)]), (22, .tuple #[.agg #[u64 (if kyE g x = 0 then (sigR g x (txt ⟨((xs.length : Nat) : Int), rootR (leavesE (xs.map Et.e)), 0, 0⟩)).1 else 0), u64 (if kyE g x = 0 then (sigR g x (txt ⟨((xs.length : Nat) : Int), rootR (leavesE (xs.map Et.e)), 0, 0⟩)).2 else 0)], .int .i64 (kyE g x)]), (3, .pointer (some ⟨b3, 0, none⟩)), (1, u64 x), (6, .pointer (some ⟨b6, 0, none⟩)), (8, .pointer (some ⟨b8, 0, none⟩))]) (fun ⟨rT, b9⟩ => ([(b8, Obj.cells (Hd.cl ⟨((xs.length : Nat) : Int), rootR (leavesE (xs.map Et.e)), 0, 0⟩).toArray 38 (0, 0)), (b6, Obj.cells (Hd.cl ⟨0, zeroD, 0, 0⟩).toArray 38 (0, 0)), (b3, Obj.cells g.cl.toArray 53 (0, 0))])) 3 #[true, true, true, true, true, true, true, true, false, false, false] ?_ (fun hmid1 => ?_)
      · -- state [0, 1, 2, 3, 4, 5, 6, 7]
        rintro ⟨rT, b9⟩ _
        refine JA.one 8 ?_
        refine JO.new rfl rfl rfl (.none rfl) (En.allocZ (cs := #[u64 0, u64 0]) Tryd.zeroValue36 rfl) (fun b9 hb9 => ?_)
        exact JA.wk (hmid0 (none, b9) trivial)
      refine JA.mid (X := Option Row × Nat) (fun ⟨rT, b9⟩ => Row.ok 1 (txt ⟨((xs.length : Nat) : Int), rootR (leavesE (xs.map Et.e)), 0, 0⟩).length ((txt ⟨((xs.length : Nat) : Int), rootR (leavesE (xs.map Et.e)), 0, 0⟩).map u8) rT) (fun ⟨rT, b9⟩ => [(9, .pointer (some ⟨b9, 0, none⟩)), (26, Row.v (txt ⟨((xs.length : Nat) : Int), rootR (leavesE (xs.map Et.e)), 0, 0⟩).length rT), (25, .agg (Hd.cl ⟨((xs.length : Nat) : Int), rootR (leavesE (xs.map Et.e)), 0, 0⟩).toArray), (24, u64 x), (23, .agg g.cl.toArray), (3, .pointer (some ⟨b3, 0, none⟩)), (1, u64 x), (6, .pointer (some ⟨b6, 0, none⟩)), (8, .pointer (some ⟨b8, 0, none⟩))]) (fun ⟨rT, b9⟩ => ((b9, Obj.cells #[u64 0, u64 0] 36 (0, 0)) :: Row.b 5 rT ++ [(b8, Obj.cells (Hd.cl ⟨((xs.length : Nat) : Int), rootR (leavesE (xs.map Et.e)), 0, 0⟩).toArray 38 (0, 0)), (b6, Obj.cells (Hd.cl ⟨0, zeroD, 0, 0⟩).toArray 38 (0, 0)), (b3, Obj.cells g.cl.toArray 53 (0, 0))])) 6 #[true, true, true, true, false, false, false, false, true, false, false] ?_ (fun hmid2 => ?_)
      · -- state [0, 1, 2, 3, 8]
        rintro ⟨rT, b9⟩ hrT
        refine JA.one 4 ?_
        obtain ⟨oT, cT, eT, _, hCT⟩ := Row.vw (e := 5) hrT
        refine JO.re (d := 26) rfl eT ?_
        refine JO.callV rfl (.none rfl) rfl Tryd.call81 (fun w1 hw1 => rSign_any g x oT cT (txt ⟨((xs.length : Nat) : Int), rootR (leavesE (xs.map Et.e)), 0, 0⟩) w1 ((hCT w1 hw1 (fun p hp => by simp [hp])).bs rfl) (by rw [txt_length]; decide)) ?_
        refine JA.tkc 5 rfl (.none rfl) (fun _ => (Ev.move rfl)) ?_
        refine JA.tkc 6 rfl (.none rfl) (fun _ => (Ev.ex0 rfl)) ?_
        refine JA.tkc 7 rfl (.none rfl) (fun _ => (Ev.ex1 rfl)) ?_
        exact JA.wk (hmid0 (none, b9) trivial)
      refine JA.mid (X := Option Row × Nat) (fun ⟨rT, b9⟩ => Row.ok 1 (txt ⟨((xs.length : Nat) : Int), rootR (leavesE (xs.map Et.e)), 0, 0⟩).length ((txt ⟨((xs.length : Nat) : Int), rootR (leavesE (xs.map Et.e)), 0, 0⟩).map u8) rT) (fun ⟨rT, b9⟩ => [(26, Row.v (txt ⟨((xs.length : Nat) : Int), rootR (leavesE (xs.map Et.e)), 0, 0⟩).length rT), (25, .agg (Hd.cl ⟨((xs.length : Nat) : Int), rootR (leavesE (xs.map Et.e)), 0, 0⟩).toArray), (24, u64 x), (23, .agg g.cl.toArray), (3, .pointer (some ⟨b3, 0, none⟩)), (1, u64 x), (6, .pointer (some ⟨b6, 0, none⟩)), (8, .pointer (some ⟨b8, 0, none⟩))]) (fun ⟨rT, b9⟩ => (Row.b 5 rT ++ [(b8, Obj.cells (Hd.cl ⟨((xs.length : Nat) : Int), rootR (leavesE (xs.map Et.e)), 0, 0⟩).toArray 38 (0, 0)), (b6, Obj.cells (Hd.cl ⟨0, zeroD, 0, 0⟩).toArray 38 (0, 0)), (b3, Obj.cells g.cl.toArray 53 (0, 0))])) 7 #[true, true, true, true, false, false, false, false, false, false, false] ?_ (fun hmid3 => ?_)
      · -- state [0, 1, 2, 3]
        rintro ⟨rT, b9⟩ hrT
        refine JA.branch [4, 8] (by kernel_rfl) rfl ?_
        refine JAll.cons rfl ?_ ?_
        · -- 4
          obtain ⟨oT, cT, eT, _, hCT⟩ := Row.vw (e := 5) hrT
          refine JO.re (d := 26) rfl eT ?_
          refine JO.callV rfl (.none rfl) rfl Tryd.call81 (fun w1 hw1 => rSign_any g x oT cT (txt ⟨((xs.length : Nat) : Int), rootR (leavesE (xs.map Et.e)), 0, 0⟩) w1 ((hCT w1 hw1 (fun p hp => by simp [hp])).bs rfl) (by rw [txt_length]; decide)) ?_
          refine JA.tkc 5 rfl (.none rfl) (fun _ => (Ev.move rfl)) ?_
          refine JA.tkc 6 rfl (.none rfl) (fun _ => (Ev.ex0 rfl)) ?_
          refine JA.tkc 7 rfl (.none rfl) (fun _ => (Ev.ex1 rfl)) ?_
          exact JA.wk (hmid1 (none, 0) trivial)
        refine JAll.cons rfl ?_ JAll.nil
        refine JO.new rfl rfl rfl (.none rfl) (En.allocZ (cs := #[u64 0, u64 0]) Tryd.zeroValue36 rfl) (fun b9 hb9 => ?_)
        exact JA.weak rfl (by kernel_rfl) (by exact Keeps.k) (by exact Sub.k) (hmid2 (rT, b9) (by exact hrT))
      refine JA.mid (X := Option Row × Nat) (fun ⟨rT, b9⟩ => True) (fun ⟨rT, b9⟩ => [(9, .pointer (some ⟨b9, 0, none⟩)), (25, .agg (Hd.cl ⟨((xs.length : Nat) : Int), rootR (leavesE (xs.map Et.e)), 0, 0⟩).toArray), (24, u64 x), (23, .agg g.cl.toArray), (3, .pointer (some ⟨b3, 0, none⟩)), (1, u64 x), (6, .pointer (some ⟨b6, 0, none⟩)), (8, .pointer (some ⟨b8, 0, none⟩))]) (fun ⟨rT, b9⟩ => ((b9, Obj.cells #[u64 0, u64 0] 36 (0, 0)) :: [(b8, Obj.cells (Hd.cl ⟨((xs.length : Nat) : Int), rootR (leavesE (xs.map Et.e)), 0, 0⟩).toArray 38 (0, 0)), (b6, Obj.cells (Hd.cl ⟨0, zeroD, 0, 0⟩).toArray 38 (0, 0)), (b3, Obj.cells g.cl.toArray 53 (0, 0))])) 7 #[true, true, true, false, false, false, false, false, true, false, false] ?_ (fun hmid4 => ?_)
      · -- state [0, 1, 2, 8]
        rintro ⟨rT, b9⟩ _
        refine JA.one 3 ?_
        refine JO.callN rfl (.none rfl) rfl Tryd.call48 (fun w1 hw1 => rText_any ⟨((xs.length : Nat) : Int), rootR (leavesE (xs.map Et.e)), 0, 0⟩ w1) ?_
        rintro _ _ ⟨rT, rfl, rfl, hrT⟩
        exact JA.weak rfl (by kernel_rfl) (by exact Keeps.k) (by exact Sub.k) (hmid2 (rT, b9) (by exact hrT))
      refine JA.mid (X := Option Row × Nat) (fun ⟨rT, b9⟩ => Row.ok 1 (txt ⟨((xs.length : Nat) : Int), rootR (leavesE (xs.map Et.e)), 0, 0⟩).length ((txt ⟨((xs.length : Nat) : Int), rootR (leavesE (xs.map Et.e)), 0, 0⟩).map u8) rT) (fun ⟨rT, b9⟩ => [(9, .pointer (some ⟨b9, 0, none⟩)), (26, Row.v (txt ⟨((xs.length : Nat) : Int), rootR (leavesE (xs.map Et.e)), 0, 0⟩).length rT), (25, .agg (Hd.cl ⟨((xs.length : Nat) : Int), rootR (leavesE (xs.map Et.e)), 0, 0⟩).toArray), (24, u64 x), (3, .pointer (some ⟨b3, 0, none⟩)), (1, u64 x), (6, .pointer (some ⟨b6, 0, none⟩)), (8, .pointer (some ⟨b8, 0, none⟩))]) (fun ⟨rT, b9⟩ => ((b9, Obj.cells #[u64 0, u64 0] 36 (0, 0)) :: Row.b 5 rT ++ [(b8, Obj.cells (Hd.cl ⟨((xs.length : Nat) : Int), rootR (leavesE (xs.map Et.e)), 0, 0⟩).toArray 38 (0, 0)), (b6, Obj.cells (Hd.cl ⟨0, zeroD, 0, 0⟩).toArray 38 (0, 0)), (b3, Obj.cells g.cl.toArray 53 (0, 0))])) 7 #[false, true, true, true, false, false, false, false, true, false, false] ?_ (fun hmid5 => ?_)
      · -- state [1, 2, 3, 8]
        rintro ⟨rT, b9⟩ hrT
        refine JA.one 0 ?_
        refine JO.val rfl rfl rfl (.none rfl) (Ev.lB Tryd.underlying53 Tryd.sizeOf53) ?_
        exact JA.weak rfl (by kernel_rfl) (by exact Keeps.k) (by exact Sub.k) (hmid2 (rT, b9) (by exact hrT))
      refine JA.mid (X := Option Row × Nat) (fun ⟨rT, b9⟩ => True) (fun ⟨rT, b9⟩ => [(25, .agg (Hd.cl ⟨((xs.length : Nat) : Int), rootR (leavesE (xs.map Et.e)), 0, 0⟩).toArray), (24, u64 x), (23, .agg g.cl.toArray), (3, .pointer (some ⟨b3, 0, none⟩)), (1, u64 x), (6, .pointer (some ⟨b6, 0, none⟩)), (8, .pointer (some ⟨b8, 0, none⟩))]) (fun ⟨rT, b9⟩ => ([(b8, Obj.cells (Hd.cl ⟨((xs.length : Nat) : Int), rootR (leavesE (xs.map Et.e)), 0, 0⟩).toArray 38 (0, 0)), (b6, Obj.cells (Hd.cl ⟨0, zeroD, 0, 0⟩).toArray 38 (0, 0)), (b3, Obj.cells g.cl.toArray 53 (0, 0))])) 8 #[true, true, true, false, false, false, false, false, false, false, false] ?_ (fun hmid6 => ?_)
      · -- state [0, 1, 2]
        rintro ⟨rT, b9⟩ _
        refine JA.branch [3, 8] (by kernel_rfl) rfl ?_
        refine JAll.cons rfl ?_ ?_
        · -- 3
          refine JO.callN rfl (.none rfl) rfl Tryd.call48 (fun w1 hw1 => rText_any ⟨((xs.length : Nat) : Int), rootR (leavesE (xs.map Et.e)), 0, 0⟩ w1) ?_
          rintro _ _ ⟨rT, rfl, rfl, hrT⟩
          exact JA.weak rfl (by kernel_rfl) (by exact Keeps.k) (by exact Sub.k) (hmid3 (rT, 0) (by exact hrT))
        refine JAll.cons rfl ?_ JAll.nil
        refine JO.new rfl rfl rfl (.none rfl) (En.allocZ (cs := #[u64 0, u64 0]) Tryd.zeroValue36 rfl) (fun b9 hb9 => ?_)
        exact JA.wk (hmid4 (none, b9) trivial)
      refine JA.mid (X := Option Row × Nat) (fun ⟨rT, b9⟩ => True) (fun ⟨rT, b9⟩ => [(9, .pointer (some ⟨b9, 0, none⟩)), (24, u64 x), (23, .agg g.cl.toArray), (3, .pointer (some ⟨b3, 0, none⟩)), (1, u64 x), (6, .pointer (some ⟨b6, 0, none⟩)), (8, .pointer (some ⟨b8, 0, none⟩))]) (fun ⟨rT, b9⟩ => ((b9, Obj.cells #[u64 0, u64 0] 36 (0, 0)) :: [(b8, Obj.cells (Hd.cl ⟨((xs.length : Nat) : Int), rootR (leavesE (xs.map Et.e)), 0, 0⟩).toArray 38 (0, 0)), (b6, Obj.cells (Hd.cl ⟨0, zeroD, 0, 0⟩).toArray 38 (0, 0)), (b3, Obj.cells g.cl.toArray 53 (0, 0))])) 8 #[true, true, false, false, false, false, false, false, true, false, false] ?_ (fun hmid7 => ?_)
      · -- state [0, 1, 8]
        rintro ⟨rT, b9⟩ _
        refine JA.one 2 ?_
        refine JO.val rfl rfl rfl (.none rfl) (Ev.loadB rfl memK Tryd.underlying38 rfl Tryd.sizeOf38 (Hd.size _)) ?_
        exact JA.wk (hmid4 (none, b9) trivial)
      refine JA.mid (X := Option Row × Nat) (fun ⟨rT, b9⟩ => Row.ok 1 (txt ⟨((xs.length : Nat) : Int), rootR (leavesE (xs.map Et.e)), 0, 0⟩).length ((txt ⟨((xs.length : Nat) : Int), rootR (leavesE (xs.map Et.e)), 0, 0⟩).map u8) rT) (fun ⟨rT, b9⟩ => [(26, Row.v (txt ⟨((xs.length : Nat) : Int), rootR (leavesE (xs.map Et.e)), 0, 0⟩).length rT), (25, .agg (Hd.cl ⟨((xs.length : Nat) : Int), rootR (leavesE (xs.map Et.e)), 0, 0⟩).toArray), (24, u64 x), (3, .pointer (some ⟨b3, 0, none⟩)), (1, u64 x), (6, .pointer (some ⟨b6, 0, none⟩)), (8, .pointer (some ⟨b8, 0, none⟩))]) (fun ⟨rT, b9⟩ => (Row.b 5 rT ++ [(b8, Obj.cells (Hd.cl ⟨((xs.length : Nat) : Int), rootR (leavesE (xs.map Et.e)), 0, 0⟩).toArray 38 (0, 0)), (b6, Obj.cells (Hd.cl ⟨0, zeroD, 0, 0⟩).toArray 38 (0, 0)), (b3, Obj.cells g.cl.toArray 53 (0, 0))])) 8 #[false, true, true, true, false, false, false, false, false, false, false] ?_ (fun hmid8 => ?_)
      · -- state [1, 2, 3]
        rintro ⟨rT, b9⟩ hrT
        refine JA.branch [0, 8] (by kernel_rfl) rfl ?_
        refine JAll.cons rfl ?_ ?_
        · -- 0
          refine JO.val rfl rfl rfl (.none rfl) (Ev.lB Tryd.underlying53 Tryd.sizeOf53) ?_
          exact JA.weak rfl (by kernel_rfl) (by exact Keeps.k) (by exact Sub.k) (hmid3 (rT, 0) (by exact hrT))
        refine JAll.cons rfl ?_ JAll.nil
        refine JO.new rfl rfl rfl (.none rfl) (En.allocZ (cs := #[u64 0, u64 0]) Tryd.zeroValue36 rfl) (fun b9 hb9 => ?_)
        exact JA.weak rfl (by kernel_rfl) (by exact Keeps.k) (by exact Sub.k) (hmid5 (rT, b9) (by exact hrT))
      refine JA.mid (X := Option Row × Nat) (fun ⟨rT, b9⟩ => True) (fun ⟨rT, b9⟩ => [(9, .pointer (some ⟨b9, 0, none⟩)), (25, .agg (Hd.cl ⟨((xs.length : Nat) : Int), rootR (leavesE (xs.map Et.e)), 0, 0⟩).toArray), (24, u64 x), (3, .pointer (some ⟨b3, 0, none⟩)), (1, u64 x), (6, .pointer (some ⟨b6, 0, none⟩)), (8, .pointer (some ⟨b8, 0, none⟩))]) (fun ⟨rT, b9⟩ => ((b9, Obj.cells #[u64 0, u64 0] 36 (0, 0)) :: [(b8, Obj.cells (Hd.cl ⟨((xs.length : Nat) : Int), rootR (leavesE (xs.map Et.e)), 0, 0⟩).toArray 38 (0, 0)), (b6, Obj.cells (Hd.cl ⟨0, zeroD, 0, 0⟩).toArray 38 (0, 0)), (b3, Obj.cells g.cl.toArray 53 (0, 0))])) 8 #[false, true, true, false, false, false, false, false, true, false, false] ?_ (fun hmid9 => ?_)
      · -- state [1, 2, 8]
        rintro ⟨rT, b9⟩ _
        refine JA.branch [0, 3] (by kernel_rfl) rfl ?_
        refine JAll.cons rfl ?_ ?_
        · -- 0
          refine JO.val rfl rfl rfl (.none rfl) (Ev.lB Tryd.underlying53 Tryd.sizeOf53) ?_
          exact JA.wk (hmid4 (none, b9) trivial)
        refine JAll.cons rfl ?_ JAll.nil
        refine JO.callN rfl (.none rfl) rfl Tryd.call48 (fun w1 hw1 => rText_any ⟨((xs.length : Nat) : Int), rootR (leavesE (xs.map Et.e)), 0, 0⟩ w1) ?_
        rintro _ _ ⟨rT, rfl, rfl, hrT⟩
        exact JA.weak rfl (by kernel_rfl) (by exact Keeps.k) (by exact Sub.k) (hmid5 (rT, b9) (by exact hrT))
      refine JA.mid (X := Option Row × Nat) (fun ⟨rT, b9⟩ => True) (fun ⟨rT, b9⟩ => [(24, u64 x), (23, .agg g.cl.toArray), (3, .pointer (some ⟨b3, 0, none⟩)), (1, u64 x), (6, .pointer (some ⟨b6, 0, none⟩)), (8, .pointer (some ⟨b8, 0, none⟩))]) (fun ⟨rT, b9⟩ => ([(b8, Obj.cells (Hd.cl ⟨((xs.length : Nat) : Int), rootR (leavesE (xs.map Et.e)), 0, 0⟩).toArray 38 (0, 0)), (b6, Obj.cells (Hd.cl ⟨0, zeroD, 0, 0⟩).toArray 38 (0, 0)), (b3, Obj.cells g.cl.toArray 53 (0, 0))])) 9 #[true, true, false, false, false, false, false, false, false, false, false] ?_ (fun hmid10 => ?_)
      · -- state [0, 1]
        rintro ⟨rT, b9⟩ _
        refine JA.branch [2, 8] (by kernel_rfl) rfl ?_
        refine JAll.cons rfl ?_ ?_
        · -- 2
          refine JO.val rfl rfl rfl (.none rfl) (Ev.loadB rfl memK Tryd.underlying38 rfl Tryd.sizeOf38 (Hd.size _)) ?_
          exact JA.wk (hmid6 (none, 0) trivial)
        refine JAll.cons rfl ?_ JAll.nil
        refine JO.new rfl rfl rfl (.none rfl) (En.allocZ (cs := #[u64 0, u64 0]) Tryd.zeroValue36 rfl) (fun b9 hb9 => ?_)
        exact JA.wk (hmid7 (none, b9) trivial)
      refine JA.mid (X := Option Row × Nat) (fun ⟨rT, b9⟩ => True) (fun ⟨rT, b9⟩ => [(25, .agg (Hd.cl ⟨((xs.length : Nat) : Int), rootR (leavesE (xs.map Et.e)), 0, 0⟩).toArray), (24, u64 x), (3, .pointer (some ⟨b3, 0, none⟩)), (1, u64 x), (6, .pointer (some ⟨b6, 0, none⟩)), (8, .pointer (some ⟨b8, 0, none⟩))]) (fun ⟨rT, b9⟩ => ([(b8, Obj.cells (Hd.cl ⟨((xs.length : Nat) : Int), rootR (leavesE (xs.map Et.e)), 0, 0⟩).toArray 38 (0, 0)), (b6, Obj.cells (Hd.cl ⟨0, zeroD, 0, 0⟩).toArray 38 (0, 0)), (b3, Obj.cells g.cl.toArray 53 (0, 0))])) 9 #[false, true, true, false, false, false, false, false, false, false, false] ?_ (fun hmid11 => ?_)
      · -- state [1, 2]
        rintro ⟨rT, b9⟩ _
        refine JA.branch [0, 3, 8] (by kernel_rfl) rfl ?_
        refine JAll.cons rfl ?_ ?_
        · -- 0
          refine JO.val rfl rfl rfl (.none rfl) (Ev.lB Tryd.underlying53 Tryd.sizeOf53) ?_
          exact JA.wk (hmid6 (none, 0) trivial)
        refine JAll.cons rfl ?_ ?_
        · -- 3
          refine JO.callN rfl (.none rfl) rfl Tryd.call48 (fun w1 hw1 => rText_any ⟨((xs.length : Nat) : Int), rootR (leavesE (xs.map Et.e)), 0, 0⟩ w1) ?_
          rintro _ _ ⟨rT, rfl, rfl, hrT⟩
          exact JA.weak rfl (by kernel_rfl) (by exact Keeps.k) (by exact Sub.k) (hmid8 (rT, 0) (by exact hrT))
        refine JAll.cons rfl ?_ JAll.nil
        refine JO.new rfl rfl rfl (.none rfl) (En.allocZ (cs := #[u64 0, u64 0]) Tryd.zeroValue36 rfl) (fun b9 hb9 => ?_)
        exact JA.wk (hmid9 (none, b9) trivial)
      refine JA.mid (X := Option Row × Nat) (fun ⟨rT, b9⟩ => True) (fun ⟨rT, b9⟩ => [(9, .pointer (some ⟨b9, 0, none⟩)), (24, u64 x), (3, .pointer (some ⟨b3, 0, none⟩)), (1, u64 x), (6, .pointer (some ⟨b6, 0, none⟩)), (8, .pointer (some ⟨b8, 0, none⟩))]) (fun ⟨rT, b9⟩ => ((b9, Obj.cells #[u64 0, u64 0] 36 (0, 0)) :: [(b8, Obj.cells (Hd.cl ⟨((xs.length : Nat) : Int), rootR (leavesE (xs.map Et.e)), 0, 0⟩).toArray 38 (0, 0)), (b6, Obj.cells (Hd.cl ⟨0, zeroD, 0, 0⟩).toArray 38 (0, 0)), (b3, Obj.cells g.cl.toArray 53 (0, 0))])) 9 #[false, true, false, false, false, false, false, false, true, false, false] ?_ (fun hmid12 => ?_)
      · -- state [1, 8]
        rintro ⟨rT, b9⟩ _
        refine JA.branch [0, 2] (by kernel_rfl) rfl ?_
        refine JAll.cons rfl ?_ ?_
        · -- 0
          refine JO.val rfl rfl rfl (.none rfl) (Ev.lB Tryd.underlying53 Tryd.sizeOf53) ?_
          exact JA.wk (hmid7 (none, b9) trivial)
        refine JAll.cons rfl ?_ JAll.nil
        refine JO.val rfl rfl rfl (.none rfl) (Ev.loadB rfl memK Tryd.underlying38 rfl Tryd.sizeOf38 (Hd.size _)) ?_
        exact JA.wk (hmid9 (none, b9) trivial)
      refine JA.tkc 1 rfl (.none rfl) (fun _ => (Ev.move rfl)) ?_
      refine JA.branch [0, 2, 8] (by kernel_rfl) rfl ?_
      refine JAll.cons rfl ?_ ?_
      · -- 0
        refine JO.val rfl rfl rfl (.none rfl) (Ev.lB Tryd.underlying53 Tryd.sizeOf53) ?_
        exact JA.wk (hmid10 (none, 0) trivial)
      refine JAll.cons rfl ?_ ?_
      · -- 2
        refine JO.val rfl rfl rfl (.none rfl) (Ev.loadB rfl memK Tryd.underlying38 rfl Tryd.sizeOf38 (Hd.size _)) ?_
        exact JA.wk (hmid11 (none, 0) trivial)
      refine JAll.cons rfl ?_ JAll.nil
      refine JO.new rfl rfl rfl (.none rfl) (En.allocZ (cs := #[u64 0, u64 0]) Tryd.zeroValue36 rfl) (fun b9 hb9 => ?_)
      exact JA.wk (hmid12 (none, b9) trivial)
    rintro b9
    refine JQ.thenN ?_
    refine JC.seq ?_
    refine JC.seq ?_
    refine JC.region ?_
    refine JL.mv ?_
    refine JL.val rfl rfl rfl (.none rfl) (Ev.bin rfl rfl neq_int) ?_
    refine JL.nil ?_
    refine JQ.thenN ?_
    refine JC.cond rfl (fun hc2 => ?_) (fun hc2 => ?_)
    · -- t31 True
      replace hc2 := of_decide_eq_true hc2
      have hne : ¬ kyE g x = 0 := by omega
      refine JC.seq ?_
      refine JC.region ?_
      refine JL.val rfl rfl rfl (.none rfl) (Ev.build (parts := []) (vs := []) (cs := (Hd.cl ⟨0, zeroD, 0, 0⟩).toArray) (fun _ _ => rfl) (fun _ => by kernel_rfl)) ?_
      refine JL.mv ?_
      refine JL.sto rfl rfl (.none rfl) (Es.storeA rfl rfl Tryd.sizeOf38 Upd.k (Hd.size _) (Hd.size _) (Hd.one _)) ?_
      refine JL.asg ?_
      refine JL.nil ?_
      refine JQ.thenN ?_
      refine JC.ret ?_
      refine JQ.thenR ?_
      refine JQ.end2 (H' := []) (.inl rfl) rfl (.agg rfl memK Tryd.underlying38 rfl Tryd.sizeOf38 (Hd.size _)) (.tmp rfl) ?_ ?_
      · exact Sub.k
      · rw [sgH_key hok hne, sgE_ok hok]
    · -- t31 False
      replace hc2 := of_decide_eq_false hc2
      have hz : kyE g x = 0 := by omega
      refine JC.skip ?_
      refine JQ.thenN ?_
      refine JC.seq ?_
      refine JC.region ?_
      refine JL.val rfl rfl rfl (.none rfl) (Ev.loadB rfl memK Tryd.underlying36 rfl Tryd.sizeOf36 rfl) ?_
      refine JL.val rfl rfl rfl (.none rfl) (Ev.fld 33 rfl (fun _ _ => by kernel_rfl)) ?_
      refine JL.sto rfl rfl (.none rfl) (Es.store (cs := (Hd.cl ⟨((xs.length : Nat) : Int), rootR (leavesE (xs.map Et.e)), 0, 0⟩).toArray) rfl rfl Tryd.sizeOf36 Upd.k rfl (by rw [Hd.size]; decide) (sig_one _ _)) ?_
      refine JL.reH (b := b8) (o' := Obj.cells (Hd.cl ⟨((xs.length : Nat) : Int), rootR (leavesE (xs.map Et.e)), (sigR g x (txt ⟨((xs.length : Nat) : Int), rootR (leavesE (xs.map Et.e)), 0, 0⟩)).1, (sigR g x (txt ⟨((xs.length : Nat) : Int), rootR (leavesE (xs.map Et.e)), 0, 0⟩)).2⟩).toArray 38 (0, 0)) (by repeat (first | exact .here | apply Upd.there | apply Upd.assoc | apply Upd.left)) (by rw [if_pos hz, if_pos hz]; exact congrArg (fun c => Obj.cells c 38 (0, 0)) (Hd.sign _ _ _ _)) ?_
      refine JL.nil ?_
      refine JQ.thenN ?_
      refine JC.seq ?_
      refine JC.region ?_
      refine JL.val rfl rfl rfl (.none rfl) (Ev.loadB rfl memK Tryd.underlying38 rfl Tryd.sizeOf38 (Hd.size _)) ?_
      refine JL.sto rfl rfl (.none rfl) (Es.storeA rfl rfl Tryd.sizeOf38 Upd.k (Hd.size _) (Hd.size _) (Hd.one _)) ?_
      refine JL.asg ?_
      refine JL.nil ?_
      refine JQ.thenN ?_
      refine JC.ret ?_
      refine JQ.end2 (H' := []) (.inl rfl) rfl (.agg rfl memK Tryd.underlying38 rfl Tryd.sizeOf38 (Hd.size _)) (.tmp rfl) ?_ ?_
      · exact Sub.k
      · first | (rw [sgH_ok hok hz, sgE_ok hok, hz, brV_ok hok]; done) | (rw [sgH_ok hok hz, sgE_ok hok, hz, brV_ok hok]; rfl)

theorem lawHeads_any (g : Gp) (x y : UInt64) (oa : Option Addr) (cap : Nat) (xs : List Et) (h : Hd) (w : World) (hb : Bd w oa cap xs) (hk : KMem 1 w) (hf : FMem 0 w) :
    Calls Tryd.prog 9 #[.agg g.cl.toArray, u64 x, u64 y, .agg #[.slice oa xs.length cap], .agg h.cl.toArray] w (Ret w (fun v _ => v = .bool true)) := by
  refine enter (vs := [.agg g.cl.toArray, u64 x, u64 y, .agg #[.slice oa xs.length cap], .agg h.cl.toArray]) Tryd.func9 rfl Tryd.ntmps9 rfl ?_
  refine JC.seq ?_
  refine JC.region ?_
  refine JL.new rfl rfl rfl (.none rfl) (En.boxA rfl) (fun b5 hb5 => ?_)
  refine JL.new rfl rfl rfl (.none rfl) (En.boxA rfl) (fun b8 hb8 => ?_)
  refine JL.new rfl rfl rfl (.none rfl) (En.boxA rfl) (fun b9 hb9 => ?_)
  refine JL.asg ?_
  refine JL.nil ?_
  refine JQ.thenN ?_
  refine JC.seq ?_
  refine JC.seq ?_
  refine JC.region ?_
  refine JL.val rfl rfl rfl (.none rfl) (Ev.lB Tryd.underlying24 Tryd.sizeOf24) ?_
  refine JL.callN rfl (.none rfl) rfl Tryd.call26 (fun w1 hw1 => bgreat_any oa cap xs w1 (hb.old hw1)) ?_
  rintro _ _ ⟨gr, rfl, hgr⟩
  refine JL.nil ?_
  refine JQ.thenN ?_
  refine JC.cond rfl (fun hq => ?_) (fun hq => ?_)
  · -- t20 True
    refine JC.seq ?_
    refine JC.region ?_
    refine JL.asg ?_
    refine JL.nil ?_
    refine JQ.thenN ?_
    refine JC.ret ?_
    refine JQ.thenR ?_
    refine JQ.end1 (H' := []) (.inl rfl) rfl (.tmp rfl) ?_ ?_
    · exact Sub.k
    · exact rfl
  · -- t20 False
    refine JC.skip ?_
    refine JQ.thenN ?_
    refine JC.seq ?_
    refine JC.region ?_
    refine JL.val rfl rfl rfl (.none rfl) (Ev.lB Tryd.underlying53 Tryd.sizeOf53) ?_
    refine JL.mv ?_
    refine JL.val rfl rfl rfl (.none rfl) (Ev.lB Tryd.underlying24 Tryd.sizeOf24) ?_
    refine JL.callV rfl (.none rfl) rfl Tryd.call21 (fun w1 hw1 => bSign_any g x oa cap xs w1 (hb.old hw1) (hk.old hw1) (hf.old hw1)) ?_
    refine JL.mv ?_
    refine JL.val rfl rfl rfl (.none rfl) (Ev.ex0 rfl) ?_
    refine JL.val rfl rfl rfl (.none rfl) (Ev.ex1 rfl) ?_
    refine JL.new rfl rfl rfl (.none rfl) (En.allocZ (cs := (Hd.cl ⟨0, zeroD, 0, 0⟩).toArray) Tryd.zeroValue38 rfl) (fun b11 hb11 => ?_)
    refine JL.sto rfl rfl (.none rfl) (Es.storeA rfl rfl Tryd.sizeOf38 Upd.k (Hd.size _) (Hd.size _) (Hd.one _)) ?_
    refine JL.asg ?_
    refine JL.nil ?_
    refine JQ.thenN ?_
    refine JC.seq ?_
    refine JC.region ?_
    refine JL.val rfl rfl rfl (.none rfl) (Ev.lB Tryd.underlying53 Tryd.sizeOf53) ?_
    refine JL.mv ?_
    refine JL.val rfl rfl rfl (.none rfl) (Ev.lB Tryd.underlying24 Tryd.sizeOf24) ?_
    refine JL.callV rfl (.none rfl) rfl Tryd.call45 (fun w1 hw1 => rbSign_any g x oa cap xs w1 (hb.old hw1)) ?_
    refine JL.mv ?_
    refine JL.val rfl rfl rfl (.none rfl) (Ev.ex0 rfl) ?_
    refine JL.val rfl rfl rfl (.none rfl) (Ev.ex1 rfl) ?_
    refine JL.new rfl rfl rfl (.none rfl) (En.allocZ (cs := (Hd.cl ⟨0, zeroD, 0, 0⟩).toArray) Tryd.zeroValue38 rfl) (fun b13 hb13 => ?_)
    refine JL.sto rfl rfl (.none rfl) (Es.storeA rfl rfl Tryd.sizeOf38 Upd.k (Hd.size _) (Hd.size _) (Hd.one _)) ?_
    refine JL.asg ?_
    refine JL.nil ?_
    refine JQ.thenN ?_
    refine JC.seq ?_
    refine JC.region ?_
    refine JL.val rfl rfl rfl (.none rfl) (Ev.lB Tryd.underlying53 Tryd.sizeOf53) ?_
    refine JL.mv ?_
    refine JL.val rfl rfl rfl (.none rfl) (Ev.loadB rfl memK Tryd.underlying38 rfl Tryd.sizeOf38 (Hd.size h)) ?_
    refine JL.callV rfl (.none rfl) rfl Tryd.call46 (fun w1 hw1 => bVerify_any g y h w1 (hk.old hw1) (hf.old hw1)) ?_
    refine JL.mv ?_
    refine JL.val rfl rfl rfl (.none rfl) (Ev.ex0 rfl) ?_
    refine JL.val rfl rfl rfl (.none rfl) (Ev.ex1 rfl) ?_
    refine JL.asg ?_
    refine JL.asg ?_
    refine JL.nil ?_
    refine JQ.thenN ?_
    refine JC.seq ?_
    refine JC.region ?_
    refine JL.val rfl rfl rfl (.none rfl) (Ev.lB Tryd.underlying53 Tryd.sizeOf53) ?_
    refine JL.mv ?_
    refine JL.val rfl rfl rfl (.none rfl) (Ev.loadB rfl memK Tryd.underlying38 rfl Tryd.sizeOf38 (Hd.size h)) ?_
    refine JL.callV rfl (.none rfl) rfl Tryd.call47 (fun w1 hw1 => rbVerify_any g y h w1) ?_
    refine JL.mv ?_
    refine JL.val rfl rfl rfl (.none rfl) (Ev.ex0 rfl) ?_
    refine JL.val rfl rfl rfl (.none rfl) (Ev.ex1 rfl) ?_
    refine JL.asg ?_
    refine JL.asg ?_
    refine JL.nil ?_
    refine JQ.thenN ?_
    refine JC.seq ?_
    refine JC.cut (X := Unit) (fun _ => [(10, .bool true)]) (fun _ => []) ?_ ?_
    · refine JC.regionA (by kernel_rfl) ?_
      refine JA.mid (X := Option Row × Option Row) (fun ⟨r1, r2⟩ => Row.ok 1 (txt h).length ((txt h).map u8) r2) (fun ⟨r1, r2⟩ => [(72, Row.v (txt h).length r2), (70, strOf (txt h)), (67, .bool true), (9, .pointer (some ⟨b9, 0, none⟩))]) (fun ⟨r1, r2⟩ => (Row.b 5 r2 ++ [(b9, Obj.cells (Hd.cl h).toArray 38 (0, 0))])) 4 #[true, true, true, true, true, true, true, true, true, true, true, true, true, true, true, true, true, true, true, true, true, true, true, true, false, false, false, false] ?_ (fun hmid0 => ?_)
      · -- state [0, 1, 2, 3, 4, 5, 6, 7, 8, 9, 10, 11, 12, 13, 14, 15, 16, 17, 18, 19, 20, 21, 22, 23]
        rintro ⟨r1, r2⟩ hr2
        refine JA.one 24 ?_
        obtain ⟨o2, c2, e2, hn2, hC2⟩ := Row.vw (e := 5) hr2
        refine JO.re (d := 72) rfl e2 ?_
        refine JO.val rfl rfl rfl (.yes rfl rfl rfl) (Ev.str (l := (txt h)) rfl Tryd.underlying28 Tryd.underlying9 Tryd.underlying5 rfl hn2 (fun a ha w hw => (hC2 w hw (fun p hp => by simp [hp])).mem a ha)) ?_
        refine JA.tkc 25 rfl (.yes rfl rfl rfl) (fun _ => (Ev.bin rfl rfl eql_string)) ?_
        refine JA.tkc 26 rfl (.none rfl) (fun _ => (Ev.pickT rfl rfl)) ?_
        refine JA.tkc 27 rfl (.none rfl) (fun _ => (Ev.assign rfl)) ?_
        refine JA.done (by kernel_rfl) ?_
        refine JQ.cutN () ?_ ?_
        · exact Keeps.get (Keeps.cons (congrArg (fun b => some (Value.bool b)) (by first | rfl | exact beq_self_eq_true _)) Keeps.nil)
        · exact Sub.nil
      refine JA.mid (X := Option Row × Option Row) (fun ⟨r1, r2⟩ => Row.ok 1 (txt h).length ((txt h).map u8) r1) (fun ⟨r1, r2⟩ => [(73, strOf (txt h)), (69, Row.v (txt h).length r1), (67, .bool true), (9, .pointer (some ⟨b9, 0, none⟩))]) (fun ⟨r1, r2⟩ => (Row.b 5 r1 ++ [(b9, Obj.cells (Hd.cl h).toArray 38 (0, 0))])) 4 #[true, true, true, true, true, true, true, true, true, true, true, true, true, true, true, true, true, true, true, true, true, false, true, true, true, false, false, false] ?_ (fun hmid1 => ?_)
      · -- state [0, 1, 2, 3, 4, 5, 6, 7, 8, 9, 10, 11, 12, 13, 14, 15, 16, 17, 18, 19, 20, 22, 23, 24]
        rintro ⟨r1, r2⟩ hr1
        refine JA.one 21 ?_
        obtain ⟨o1, c1, e1, hn1, hC1⟩ := Row.vw (e := 5) hr1
        refine JO.re (d := 69) rfl e1 ?_
        refine JO.val rfl rfl rfl (.yes rfl rfl rfl) (Ev.str (l := (txt h)) rfl Tryd.underlying28 Tryd.underlying9 Tryd.underlying5 rfl hn1 (fun a ha w hw => (hC1 w hw (fun p hp => by simp [hp])).mem a ha)) ?_
        refine JA.tkc 25 rfl (.yes rfl rfl rfl) (fun _ => (Ev.bin rfl rfl eql_string)) ?_
        refine JA.tkc 26 rfl (.none rfl) (fun _ => (Ev.pickT rfl rfl)) ?_
        refine JA.tkc 27 rfl (.none rfl) (fun _ => (Ev.assign rfl)) ?_
        refine JA.done (by kernel_rfl) ?_
        refine JQ.cutN () ?_ ?_
        · exact Keeps.get (Keeps.cons (congrArg (fun b => some (Value.bool b)) (by first | rfl | exact beq_self_eq_true _)) Keeps.nil)
        · exact Sub.nil
      refine JA.mid (X := Option Row × Option Row) (fun ⟨r1, r2⟩ => True) (fun ⟨r1, r2⟩ => [(71, .agg h.cl.toArray), (70, strOf (txt h)), (67, .bool true), (9, .pointer (some ⟨b9, 0, none⟩))]) (fun ⟨r1, r2⟩ => ([(b9, Obj.cells (Hd.cl h).toArray 38 (0, 0))])) 5 #[true, true, true, true, true, true, true, true, true, true, true, true, true, true, true, true, true, true, true, true, true, true, true, false, false, false, false, false] ?_ (fun hmid2 => ?_)
      · -- state [0, 1, 2, 3, 4, 5, 6, 7, 8, 9, 10, 11, 12, 13, 14, 15, 16, 17, 18, 19, 20, 21, 22]
        rintro ⟨r1, r2⟩ _
        refine JA.one 23 ?_
        refine JO.callN rfl (.yes rfl rfl rfl) rfl Tryd.call48 (fun w1 hw1 => rText_any h w1) ?_
        rintro _ _ ⟨r2, rfl, rfl, hr2⟩
        exact JA.weak rfl (by kernel_rfl) (by exact Keeps.k) (by exact Sub.k) (hmid0 (none, r2) (by exact hr2))
      refine JA.mid (X := Option Row × Option Row) (fun ⟨r1, r2⟩ => Row.ok 1 (txt h).length ((txt h).map u8) r1 ∧ Row.ok 1 (txt h).length ((txt h).map u8) r2) (fun ⟨r1, r2⟩ => [(72, Row.v (txt h).length r2), (69, Row.v (txt h).length r1), (67, .bool true), (9, .pointer (some ⟨b9, 0, none⟩))]) (fun ⟨r1, r2⟩ => (Row.b 5 r1 ++ Row.b 5 r2 ++ [(b9, Obj.cells (Hd.cl h).toArray 38 (0, 0))])) 5 #[true, true, true, true, true, true, true, true, true, true, true, true, true, true, true, true, true, true, true, true, true, false, true, true, false, false, false, false] ?_ (fun hmid3 => ?_)
      · -- state [0, 1, 2, 3, 4, 5, 6, 7, 8, 9, 10, 11, 12, 13, 14, 15, 16, 17, 18, 19, 20, 22, 23]
        rintro ⟨r1, r2⟩ ⟨hr1, hr2⟩
        refine JA.branch [21, 24] (by kernel_rfl) rfl ?_
        refine JAll.cons rfl ?_ ?_
        · -- 21
          obtain ⟨o1, c1, e1, hn1, hC1⟩ := Row.vw (e := 5) hr1
          refine JO.re (d := 69) rfl e1 ?_
          refine JO.val rfl rfl rfl (.yes rfl rfl rfl) (Ev.str (l := (txt h)) rfl Tryd.underlying28 Tryd.underlying9 Tryd.underlying5 rfl hn1 (fun a ha w hw => (hC1 w hw (fun p hp => by simp [hp])).mem a ha)) ?_
          exact JA.weak rfl (by kernel_rfl) (by exact Keeps.k) (by exact Sub.k) (hmid0 (none, r2) (by exact hr2))
        refine JAll.cons rfl ?_ JAll.nil
        obtain ⟨o2, c2, e2, hn2, hC2⟩ := Row.vw (e := 5) hr2
        refine JO.re (d := 72) rfl e2 ?_
        refine JO.val rfl rfl rfl (.yes rfl rfl rfl) (Ev.str (l := (txt h)) rfl Tryd.underlying28 Tryd.underlying9 Tryd.underlying5 rfl hn2 (fun a ha w hw => (hC2 w hw (fun p hp => by simp [hp])).mem a ha)) ?_
        exact JA.weak rfl (by kernel_rfl) (by exact Keeps.k) (by exact Sub.k) (hmid1 (r1, none) (by exact hr1))
      refine JA.mid (X := Option Row × Option Row) (fun ⟨r1, r2⟩ => True) (fun ⟨r1, r2⟩ => [(70, strOf (txt h)), (67, .bool true), (9, .pointer (some ⟨b9, 0, none⟩))]) (fun ⟨r1, r2⟩ => ([(b9, Obj.cells (Hd.cl h).toArray 38 (0, 0))])) 6 #[true, true, true, true, true, true, true, true, true, true, true, true, true, true, true, true, true, true, true, true, true, true, false, false, false, false, false, false] ?_ (fun hmid4 => ?_)
      · -- state [0, 1, 2, 3, 4, 5, 6, 7, 8, 9, 10, 11, 12, 13, 14, 15, 16, 17, 18, 19, 20, 21]
        rintro ⟨r1, r2⟩ _
        refine JA.one 22 ?_
        refine JO.val rfl rfl rfl (.yes rfl rfl rfl) (Ev.loadB rfl memK Tryd.underlying38 rfl Tryd.sizeOf38 (Hd.size h)) ?_
        exact JA.wk (hmid2 (none, none) trivial)
      refine JA.mid (X := Option Row × Option Row) (fun ⟨r1, r2⟩ => Row.ok 1 (txt h).length ((txt h).map u8) r1) (fun ⟨r1, r2⟩ => [(71, .agg h.cl.toArray), (69, Row.v (txt h).length r1), (67, .bool true), (9, .pointer (some ⟨b9, 0, none⟩))]) (fun ⟨r1, r2⟩ => (Row.b 5 r1 ++ [(b9, Obj.cells (Hd.cl h).toArray 38 (0, 0))])) 6 #[true, true, true, true, true, true, true, true, true, true, true, true, true, true, true, true, true, true, true, true, true, false, true, false, false, false, false, false] ?_ (fun hmid5 => ?_)
      · -- state [0, 1, 2, 3, 4, 5, 6, 7, 8, 9, 10, 11, 12, 13, 14, 15, 16, 17, 18, 19, 20, 22]
        rintro ⟨r1, r2⟩ hr1
        refine JA.branch [21, 23] (by kernel_rfl) rfl ?_
        refine JAll.cons rfl ?_ ?_
        · -- 21
          obtain ⟨o1, c1, e1, hn1, hC1⟩ := Row.vw (e := 5) hr1
          refine JO.re (d := 69) rfl e1 ?_
          refine JO.val rfl rfl rfl (.yes rfl rfl rfl) (Ev.str (l := (txt h)) rfl Tryd.underlying28 Tryd.underlying9 Tryd.underlying5 rfl hn1 (fun a ha w hw => (hC1 w hw (fun p hp => by simp [hp])).mem a ha)) ?_
          exact JA.wk (hmid2 (none, none) trivial)
        refine JAll.cons rfl ?_ JAll.nil
        refine JO.callN rfl (.yes rfl rfl rfl) rfl Tryd.call48 (fun w1 hw1 => rText_any h w1) ?_
        rintro _ _ ⟨r2, rfl, rfl, hr2⟩
        exact JA.weak rfl (by kernel_rfl) (by exact Keeps.k) (by exact Sub.k) (hmid3 (r1, r2) (by exact ⟨hr1, hr2⟩))
      refine JA.mid (X := Option Row × Option Row) (fun ⟨r1, r2⟩ => Row.ok 1 (txt h).length ((txt h).map u8) r1) (fun ⟨r1, r2⟩ => [(69, Row.v (txt h).length r1), (67, .bool true), (9, .pointer (some ⟨b9, 0, none⟩))]) (fun ⟨r1, r2⟩ => (Row.b 5 r1 ++ [(b9, Obj.cells (Hd.cl h).toArray 38 (0, 0))])) 7 #[true, true, true, true, true, true, true, true, true, true, true, true, true, true, true, true, true, true, true, true, true, false, false, false, false, false, false, false] ?_ (fun hmid6 => ?_)
      · -- state [0, 1, 2, 3, 4, 5, 6, 7, 8, 9, 10, 11, 12, 13, 14, 15, 16, 17, 18, 19, 20]
        rintro ⟨r1, r2⟩ hr1
        refine JA.branch [21, 22] (by kernel_rfl) rfl ?_
        refine JAll.cons rfl ?_ ?_
        · -- 21
          obtain ⟨o1, c1, e1, hn1, hC1⟩ := Row.vw (e := 5) hr1
          refine JO.re (d := 69) rfl e1 ?_
          refine JO.val rfl rfl rfl (.yes rfl rfl rfl) (Ev.str (l := (txt h)) rfl Tryd.underlying28 Tryd.underlying9 Tryd.underlying5 rfl hn1 (fun a ha w hw => (hC1 w hw (fun p hp => by simp [hp])).mem a ha)) ?_
          exact JA.wk (hmid4 (none, none) trivial)
        refine JAll.cons rfl ?_ JAll.nil
        refine JO.val rfl rfl rfl (.yes rfl rfl rfl) (Ev.loadB rfl memK Tryd.underlying38 rfl Tryd.sizeOf38 (Hd.size h)) ?_
        exact JA.weak rfl (by kernel_rfl) (by exact Keeps.k) (by exact Sub.k) (hmid5 (r1, none) (by exact hr1))
      refine JA.mid (X := Option Row × Option Row) (fun ⟨r1, r2⟩ => True) (fun ⟨r1, r2⟩ => [(71, .agg h.cl.toArray), (68, .agg h.cl.toArray), (67, .bool true), (9, .pointer (some ⟨b9, 0, none⟩))]) (fun ⟨r1, r2⟩ => ([(b9, Obj.cells (Hd.cl h).toArray 38 (0, 0))])) 7 #[true, true, true, true, true, true, true, true, true, true, true, true, true, true, true, true, true, true, true, true, false, false, true, false, false, false, false, false] ?_ (fun hmid7 => ?_)
      · -- state [0, 1, 2, 3, 4, 5, 6, 7, 8, 9, 10, 11, 12, 13, 14, 15, 16, 17, 18, 19, 22]
        rintro ⟨r1, r2⟩ _
        refine JA.one 20 ?_
        refine JO.callN rfl (.yes rfl rfl rfl) rfl Tryd.call14 (fun w1 hw1 => bText_any h w1) ?_
        rintro _ _ ⟨r1, rfl, rfl, hr1⟩
        exact JA.weak rfl (by kernel_rfl) (by exact Keeps.k) (by exact Sub.k) (hmid5 (r1, none) (by exact hr1))
      refine JA.mid (X := Option Row × Option Row) (fun ⟨r1, r2⟩ => True) (fun ⟨r1, r2⟩ => [(68, .agg h.cl.toArray), (67, .bool true), (9, .pointer (some ⟨b9, 0, none⟩))]) (fun ⟨r1, r2⟩ => ([(b9, Obj.cells (Hd.cl h).toArray 38 (0, 0))])) 8 #[true, true, true, true, true, true, true, true, true, true, true, true, true, true, true, true, true, true, true, true, false, false, false, false, false, false, false, false] ?_ (fun hmid8 => ?_)
      · -- state [0, 1, 2, 3, 4, 5, 6, 7, 8, 9, 10, 11, 12, 13, 14, 15, 16, 17, 18, 19]
        rintro ⟨r1, r2⟩ _
        refine JA.branch [20, 22] (by kernel_rfl) rfl ?_
        refine JAll.cons rfl ?_ ?_
        · -- 20
          refine JO.callN rfl (.yes rfl rfl rfl) rfl Tryd.call14 (fun w1 hw1 => bText_any h w1) ?_
          rintro _ _ ⟨r1, rfl, rfl, hr1⟩
          exact JA.weak rfl (by kernel_rfl) (by exact Keeps.k) (by exact Sub.k) (hmid6 (r1, none) (by exact hr1))
        refine JAll.cons rfl ?_ JAll.nil
        refine JO.val rfl rfl rfl (.yes rfl rfl rfl) (Ev.loadB rfl memK Tryd.underlying38 rfl Tryd.sizeOf38 (Hd.size h)) ?_
        exact JA.wk (hmid7 (none, none) trivial)
      refine JA.mid (X := Option Row × Option Row) (fun ⟨r1, r2⟩ => True) (fun ⟨r1, r2⟩ => [(71, .agg h.cl.toArray), (67, .bool true), (9, .pointer (some ⟨b9, 0, none⟩))]) (fun ⟨r1, r2⟩ => ([(b9, Obj.cells (Hd.cl h).toArray 38 (0, 0))])) 8 #[true, true, true, true, true, true, true, true, true, true, true, true, true, true, true, true, true, true, true, false, false, false, true, false, false, false, false, false] ?_ (fun hmid9 => ?_)
      · -- state [0, 1, 2, 3, 4, 5, 6, 7, 8, 9, 10, 11, 12, 13, 14, 15, 16, 17, 18, 22]
        rintro ⟨r1, r2⟩ _
        refine JA.one 19 ?_
        refine JO.val rfl rfl rfl (.yes rfl rfl rfl) (Ev.loadB rfl memK Tryd.underlying38 rfl Tryd.sizeOf38 (Hd.size h)) ?_
        exact JA.wk (hmid7 (none, none) trivial)
      refine JA.mid (X := Option Row × Option Row) (fun ⟨r1, r2⟩ => True) (fun ⟨r1, r2⟩ => [(67, .bool true), (9, .pointer (some ⟨b9, 0, none⟩))]) (fun ⟨r1, r2⟩ => ([(b9, Obj.cells (Hd.cl h).toArray 38 (0, 0))])) 9 #[true, true, true, true, true, true, true, true, true, true, true, true, true, true, true, true, true, true, true, false, false, false, false, false, false, false, false, false] ?_ (fun hmid10 => ?_)
      · -- state [0, 1, 2, 3, 4, 5, 6, 7, 8, 9, 10, 11, 12, 13, 14, 15, 16, 17, 18]
        rintro ⟨r1, r2⟩ _
        refine JA.branch [19, 22] (by kernel_rfl) rfl ?_
        refine JAll.cons rfl ?_ ?_
        · -- 19
          refine JO.val rfl rfl rfl (.yes rfl rfl rfl) (Ev.loadB rfl memK Tryd.underlying38 rfl Tryd.sizeOf38 (Hd.size h)) ?_
          exact JA.wk (hmid8 (none, none) trivial)
        refine JAll.cons rfl ?_ JAll.nil
        refine JO.val rfl rfl rfl (.yes rfl rfl rfl) (Ev.loadB rfl memK Tryd.underlying38 rfl Tryd.sizeOf38 (Hd.size h)) ?_
        exact JA.wk (hmid9 (none, none) trivial)
      refine JA.mid (X := Option Row × Option Row) (fun ⟨r1, r2⟩ => True) (fun ⟨r1, r2⟩ => [(49, .agg (Hd.cl (sgH g x (xs.map Et.e))).toArray), (9, .pointer (some ⟨b9, 0, none⟩)), (12, .int .i64 (sgE g x (xs.map Et.e))), (14, .int .i64 (sgE g x (xs.map Et.e))), (15, .bool (vfR g y (txt h) h.r h.s)), (16, .int .i64 (scE g [h.s] [y, h.r])), (17, .bool (vfR g y (txt h) h.r h.s)), (18, .int .i64 (scE g [h.s] [y, h.r])), (11, .pointer (some ⟨b11, 0, none⟩)), (13, .pointer (some ⟨b13, 0, none⟩))]) (fun ⟨r1, r2⟩ => ([(b13, Obj.cells (Hd.cl (sgH g x (xs.map Et.e))).toArray 38 (0, 0)), (b11, Obj.cells (Hd.cl (sgH g x (xs.map Et.e))).toArray 38 (0, 0)), (b9, Obj.cells (Hd.cl h).toArray 38 (0, 0))])) 27 #[true, false, false, false, false, false, false, false, false, false, false, false, false, false, false, false, false, false, false, false, false, false, false, false, false, false, false, false] ?_ (fun hmid11 => ?_)
      · -- state [0]
        rintro ⟨r1, r2⟩ _
        refine JA.one 1 ?_
        refine JO.val rfl rfl rfl (.none rfl) (Ev.loadB rfl memK Tryd.underlying38 rfl Tryd.sizeOf38 (Hd.size _)) ?_
        refine JA.tkc 2 rfl (.none rfl) (fun _ => (Ev.bin rfl rfl (eql_head Tryd.underlying38 ⟨rfl, rfl, by decide⟩ ⟨rfl, rfl, by decide⟩ ⟨rfl, rfl, by decide⟩ Tryd.underlying3 Tryd.underlying33 Tryd.underlying5 (by kernel_rfl) Tryd.sizeOf33 Tryd.underlying36 ⟨rfl, rfl, by decide⟩ ⟨rfl, rfl, by decide⟩ Tryd.underlying34 Tryd.sizeOf36 (by kernel_rfl) (by kernel_rfl) (by kernel_rfl) _))) ?_
        refine JA.tkc 3 rfl (.none rfl) (fun _ => (Ev.move rfl)) ?_
        refine JA.know (d := 52) (b := true) rfl ?_ ?_
        · first | rfl | exact decide_eq_true rfl | exact beq_self_eq_true _
        refine JA.tkc 4 rfl (.yes rfl rfl rfl) (fun _ => (Ev.move rfl)) ?_
        refine JA.tkc 5 rfl (.yes rfl rfl rfl) (fun _ => (Ev.move rfl)) ?_
        refine JA.tkc 6 rfl (.yes rfl rfl rfl) (fun _ => (Ev.bin rfl rfl eql_int)) ?_
        refine JA.tkc 7 rfl (.none rfl) (fun _ => (Ev.pickT rfl rfl)) ?_
        refine JA.tkc 8 rfl (.none rfl) (fun _ => (Ev.move rfl)) ?_
        refine JA.know (d := 57) (b := true) rfl ?_ ?_
        · first | rfl | exact decide_eq_true rfl | exact beq_self_eq_true _
        refine JA.tkc 9 rfl (.yes rfl rfl rfl) (fun _ => (Ev.move rfl)) ?_
        refine JA.tkc 10 rfl (.yes rfl rfl rfl) (fun _ => (Ev.move rfl)) ?_
        refine JA.tkc 11 rfl (.yes rfl rfl rfl) (fun _ => (Ev.bin rfl rfl (eql_bool Tryd.underlying4))) ?_
        refine JA.tkc 12 rfl (.none rfl) (fun _ => (Ev.pickT rfl rfl)) ?_
        refine JA.tkc 13 rfl (.none rfl) (fun _ => (Ev.move rfl)) ?_
        refine JA.know (d := 62) (b := true) rfl ?_ ?_
        · first | rfl | exact decide_eq_true rfl | exact beq_self_eq_true _
        refine JA.tkc 14 rfl (.yes rfl rfl rfl) (fun _ => (Ev.move rfl)) ?_
        refine JA.tkc 15 rfl (.yes rfl rfl rfl) (fun _ => (Ev.move rfl)) ?_
        refine JA.tkc 16 rfl (.yes rfl rfl rfl) (fun _ => (Ev.bin rfl rfl eql_int)) ?_
        refine JA.tkc 17 rfl (.none rfl) (fun _ => (Ev.pickT rfl rfl)) ?_
        refine JA.tkc 18 rfl (.none rfl) (fun _ => (Ev.move rfl)) ?_
        refine JA.know (d := 67) (b := true) rfl ?_ ?_
        · first | rfl | exact decide_eq_true rfl | exact beq_self_eq_true _
        exact JA.wk (hmid10 (none, none) trivial)
      refine JA.mid (X := Option Row × Option Row) (fun ⟨r1, r2⟩ => True) (fun ⟨r1, r2⟩ => [(50, .agg (Hd.cl (sgH g x (xs.map Et.e))).toArray), (9, .pointer (some ⟨b9, 0, none⟩)), (12, .int .i64 (sgE g x (xs.map Et.e))), (14, .int .i64 (sgE g x (xs.map Et.e))), (15, .bool (vfR g y (txt h) h.r h.s)), (16, .int .i64 (scE g [h.s] [y, h.r])), (17, .bool (vfR g y (txt h) h.r h.s)), (18, .int .i64 (scE g [h.s] [y, h.r])), (11, .pointer (some ⟨b11, 0, none⟩)), (13, .pointer (some ⟨b13, 0, none⟩))]) (fun ⟨r1, r2⟩ => ([(b13, Obj.cells (Hd.cl (sgH g x (xs.map Et.e))).toArray 38 (0, 0)), (b11, Obj.cells (Hd.cl (sgH g x (xs.map Et.e))).toArray 38 (0, 0)), (b9, Obj.cells (Hd.cl h).toArray 38 (0, 0))])) 27 #[false, true, false, false, false, false, false, false, false, false, false, false, false, false, false, false, false, false, false, false, false, false, false, false, false, false, false, false] ?_ (fun hmid12 => ?_)
      · -- state [1]
        rintro ⟨r1, r2⟩ _
        refine JA.one 0 ?_
        refine JO.val rfl rfl rfl (.none rfl) (Ev.loadB rfl memK Tryd.underlying38 rfl Tryd.sizeOf38 (Hd.size _)) ?_
        refine JA.tkc 2 rfl (.none rfl) (fun _ => (Ev.bin rfl rfl (eql_head Tryd.underlying38 ⟨rfl, rfl, by decide⟩ ⟨rfl, rfl, by decide⟩ ⟨rfl, rfl, by decide⟩ Tryd.underlying3 Tryd.underlying33 Tryd.underlying5 (by kernel_rfl) Tryd.sizeOf33 Tryd.underlying36 ⟨rfl, rfl, by decide⟩ ⟨rfl, rfl, by decide⟩ Tryd.underlying34 Tryd.sizeOf36 (by kernel_rfl) (by kernel_rfl) (by kernel_rfl) _))) ?_
        refine JA.tkc 3 rfl (.none rfl) (fun _ => (Ev.move rfl)) ?_
        refine JA.know (d := 52) (b := true) rfl ?_ ?_
        · first | rfl | exact decide_eq_true rfl | exact beq_self_eq_true _
        refine JA.tkc 4 rfl (.yes rfl rfl rfl) (fun _ => (Ev.move rfl)) ?_
        refine JA.tkc 5 rfl (.yes rfl rfl rfl) (fun _ => (Ev.move rfl)) ?_
        refine JA.tkc 6 rfl (.yes rfl rfl rfl) (fun _ => (Ev.bin rfl rfl eql_int)) ?_
        refine JA.tkc 7 rfl (.none rfl) (fun _ => (Ev.pickT rfl rfl)) ?_
        refine JA.tkc 8 rfl (.none rfl) (fun _ => (Ev.move rfl)) ?_
        refine JA.know (d := 57) (b := true) rfl ?_ ?_
        · first | rfl | exact decide_eq_true rfl | exact beq_self_eq_true _
        refine JA.tkc 9 rfl (.yes rfl rfl rfl) (fun _ => (Ev.move rfl)) ?_
        refine JA.tkc 10 rfl (.yes rfl rfl rfl) (fun _ => (Ev.move rfl)) ?_
        refine JA.tkc 11 rfl (.yes rfl rfl rfl) (fun _ => (Ev.bin rfl rfl (eql_bool Tryd.underlying4))) ?_
        refine JA.tkc 12 rfl (.none rfl) (fun _ => (Ev.pickT rfl rfl)) ?_
        refine JA.tkc 13 rfl (.none rfl) (fun _ => (Ev.move rfl)) ?_
        refine JA.know (d := 62) (b := true) rfl ?_ ?_
        · first | rfl | exact decide_eq_true rfl | exact beq_self_eq_true _
        refine JA.tkc 14 rfl (.yes rfl rfl rfl) (fun _ => (Ev.move rfl)) ?_
        refine JA.tkc 15 rfl (.yes rfl rfl rfl) (fun _ => (Ev.move rfl)) ?_
        refine JA.tkc 16 rfl (.yes rfl rfl rfl) (fun _ => (Ev.bin rfl rfl eql_int)) ?_
        refine JA.tkc 17 rfl (.none rfl) (fun _ => (Ev.pickT rfl rfl)) ?_
        refine JA.tkc 18 rfl (.none rfl) (fun _ => (Ev.move rfl)) ?_
        refine JA.know (d := 67) (b := true) rfl ?_ ?_
        · first | rfl | exact decide_eq_true rfl | exact beq_self_eq_true _
        exact JA.wk (hmid10 (none, none) trivial)
      refine JA.branch [0, 1] (by kernel_rfl) rfl ?_
      refine JAll.cons rfl ?_ ?_
      · -- 0
        refine JO.val rfl rfl rfl (.none rfl) (Ev.loadB rfl memK Tryd.underlying38 rfl Tryd.sizeOf38 (Hd.size _)) ?_
        exact JA.wk (hmid11 (none, none) trivial)
      refine JAll.cons rfl ?_ JAll.nil
      refine JO.val rfl rfl rfl (.none rfl) (Ev.loadB rfl memK Tryd.underlying38 rfl Tryd.sizeOf38 (Hd.size _)) ?_
      exact JA.wk (hmid12 (none, none) trivial)
    rintro _
    refine JQ.thenN ?_
    refine JC.ret ?_
    refine JQ.end1 (H' := []) (.inl rfl) rfl (.tmp rfl) ?_ ?_
    · exact Sub.k
    · exact rfl

end Go.Proofs.YtopaednfjjjnbaaDoor
