/-
  Places counted, distinct, in a batch: the reference.
-/
import Derived.Test.YtjjoenbighmfoaaDoorSmp5Mt
namespace Go.Proofs.YtjjoenbighmfoaaDoor
open Go Go.RowKit
set_option maxRecDepth 100000

theorem cntP_yes {l : List Pl} {i : Nat} {x p : Pl} (hx : l[i]? = some x) (h : x = p) : cntP (l.take (i + 1)) p = cntP (l.take i) p + 1 := by
  rw [List.take_add_one, hx]
  show cntP (l.take i ++ [x]) p = _
  rw [cntP_snoc, if_pos h]
theorem cntP_no {l : List Pl} {i : Nat} {x p : Pl} (hx : l[i]? = some x) (h : ¬ x = p) : cntP (l.take (i + 1)) p = cntP (l.take i) p := by
  rw [List.take_add_one, hx]
  show cntP (l.take i ++ [x]) p = _
  rw [cntP_snoc, if_neg h, Int.add_zero]
theorem un_take {l : List Pl} {i : Nat} {x : Pl} (hx : l[i]? = some x) : unL (l.take (i + 1)) = insU (unL (l.take i)) x := by
  rw [List.take_add_one, hx]
  exact unL_snoc _ _
theorem getD_of {l : List Pl} {i : Nat} {x : Pl} (hx : l[i]? = some x) : l.getD i (0, 0) = x := by rw [List.getD_eq_getElem?_getD, hx]; rfl
theorem posI_on {out : List Pl} {p : Pl} {k : Nat} (hk : 0 < k) (h : ltP p (out.getD (k - 1) (0, 0))) : posI out p k = posI out p (k - 1) := by
  obtain ⟨j, rfl⟩ : ∃ j, k = j + 1 := ⟨k - 1, by omega⟩
  replace h : ltP p (out.getD j (0, 0)) := h
  rw [posI, if_pos h]
  rfl
theorem posI_stop {out : List Pl} {p : Pl} {k : Nat} (hk : 0 < k) (h : ¬ ltP p (out.getD (k - 1) (0, 0))) : posI out p k = k := by
  obtain ⟨j, rfl⟩ : ∃ j, k = j + 1 := ⟨k - 1, by omega⟩
  replace h : ¬ ltP p (out.getD j (0, 0)) := h
  rw [posI, if_neg h]
theorem pf_ins (a b : List Pl) (x : Pl) : ([] ++ pf a) ++ pf [x] ++ pf b = pf (a ++ x :: b) := by simp [pf]
theorem Row.vwP {e : TypeId} {s n : Nat} {xs : List Value} {r : Option Row} (h : Row.ok s n xs r) :
    ∃ oa cap, Row.v n r = .slice oa n cap ∧ (oa = none → cap = 0) ∧ n ≤ cap ∧ cap ≤ maxLen ∧ ∀ {w0 : World} {H : Blocks} (w : World), Hp w0 H w → (∀ p ∈ Row.b e r, p ∈ H) → Cs w oa n cap xs := by
  cases r with
  | none =>
    obtain ⟨rfl, rfl⟩ := h
    exact ⟨none, 0, rfl, fun _ => rfl, Nat.le_refl _, Nat.zero_le _, fun _ _ _ => cs_nil⟩
  | some r =>
    refine ⟨some ⟨r.g, 0, none⟩, r.cap, rfl, fun h => (by cases h), h.2.1, h.2.2.1, fun w hw hm => ⟨h.2.1, h.2.2.1, fun h => (by cases h), fun a ha => ?_⟩⟩
    cases ha
    refine Mem.own hw (hm _ (List.mem_cons_self ..)) fun j v hj => ?_
    rw [← h.2.2.2.2, List.getElem?_take] at hj
    split at hj
    · simpa using hj
    · cases hj
theorem drop_vw {ps : List Pl} {oa : Option Addr} {cap l : Nat} (hl : l ≤ ps.length) (hle : ps.length ≤ cap) (htop : cap ≤ maxLen) (hem : oa = none → cap = 0) :
    ∃ ob, sub3 oa l ps.length cap 2 = .slice ob (ps.drop l).length (cap - l) ∧ (ob = none → (ps.drop l).length = 0) ∧ ∀ w', Pz w' oa cap ps → ∀ a, ob = some a → Mem w' a (pf (ps.drop l)) := by
  refine ⟨if cap = l then oa else oa.map (·.add (l * 2)), by rw [List.length_drop]; rfl, fun h0 => ?_, fun w' h' b hb => ?_⟩
  · rw [List.length_drop]
    split at h0
    · omega
    · have : oa = none := by cases oa <;> simp_all
      have := hem this
      omega
  · split at hb
    · have : ps.drop l = [] := List.eq_nil_of_length_eq_zero (by rw [List.length_drop]; omega)
      rw [this]
      intro j v hj
      simp [pf] at hj
    · cases oa with
      | none => simp at hb
      | some a =>
        obtain rfl := Option.some.inj hb
        have h1 := (h'.mem a rfl).cut (l * 2) (pf ps).length
        rw [pf_drop, List.take_of_length_le (by rw [pf_length, pf_length, List.length_drop]; omega)] at h1
        exact h1
section
variable {c : Cx} {σ : Slots} {H : Blocks} {ty : TypeId} {pos : String} {af : Array Edge} {gd : Option (Nat × Bool)} {dst : Option Nat}
theorem Ev.fldP {T : TypeId} {x : Operand} {a : Addr} {i : Nat} (off : Nat) (hx : ev σ x = some (.pointer (some a))) (h : ∀ a w, (Instr.fieldAt T (.pointer (some a)) i).run c.P w = .ok (.pointer (some (a.add off))) w) :
    Ev c σ H ⟨dst, .fieldAddr T x i, ty, pos, af, gd⟩ (.pointer (some (a.add off))) := fun A w hf _ => by
  have e : execOp A.eval ⟨dst, .fieldAddr T x i, ty, pos, af, gd⟩ = (do pure (Next.value (← Instr.fieldAt T (A.eval x) i))) := rfl
  rw [e, hf.ev hx]
  simp only [Sem.run_bind, h, Result.andThen_ok, Sem.run_pure]
end
theorem JL.skipW {c : Cx} {ops : Array Oper} {σ : Slots} {H : Blocks} {l : List Oper} {Q : Post1} {o : Oper} {d : Nat} (hd : o.dst = some d) (hdn : Nat.blt d c.n = true) (g : ∀ a, Fr c.n c.ds σ a → Region.wanted o (yielded ops a.tmps) = false) (h : JL c ops ((d, undef) :: σ) H l Q) : JL c ops σ H (o :: l) Q := fun a w hf hw => by
  unfold wpListIn
  rw [if_neg (by rw [g a hf]; simp)]
  exact ⟨fun _ _ => trivial, h _ _ (by rw [hd]; exact hf.put (Nat.le_of_ble_eq_true hdn) _) hw⟩

theorem ahead_any (p q : Pl) (w : World) :
    Calls Tryd.prog 35 #[.agg (plc p).toArray, .agg (plc q).toArray] w (Ret w (fun v _ => v = .bool (decide (ltP p q)))) := by
  refine enter (vs := [.agg (plc p).toArray, .agg (plc q).toArray]) Tryd.func35 rfl Tryd.ntmps35 rfl ?_
  refine JC.seq ?_
  refine JC.region ?_
  refine JL.new rfl rfl rfl (.none rfl) (En.boxA rfl) (fun b2 hb2 => ?_)
  refine JL.new rfl rfl rfl (.none rfl) (En.boxA rfl) (fun b3 hb3 => ?_)
  refine JL.asg ?_
  refine JL.nil ?_
  refine JQ.thenN ?_
  refine JC.seq ?_
  refine JC.region ?_
  refine JL.val rfl rfl rfl (.none rfl) (Ev.fld 0 rfl (fun _ _ => by kernel_rfl)) ?_
  refine JL.val rfl rfl rfl (.none rfl) (Ev.load1 rfl Tryd.underlying3 rfl (Rd.own memK rfl)) ?_
  refine JL.val rfl rfl rfl (.none rfl) (Ev.fld 0 rfl (fun _ _ => by kernel_rfl)) ?_
  refine JL.val rfl rfl rfl (.none rfl) (Ev.load1 rfl Tryd.underlying3 rfl (Rd.own memK rfl)) ?_
  refine JL.val rfl rfl rfl (.none rfl) (Ev.bin rfl rfl lss_int) ?_
  refine JL.mv ?_
  refine JL.split (d := 10) rfl (fun hA => ?_) (fun hA => ?_)
  · -- guard 10 true
    have hA := of_decide_eq_true hA
    refine JL.skip rfl rfl (.noF rfl rfl rfl) ?_
    refine JL.skip rfl rfl (.noF rfl rfl rfl) ?_
    refine JL.skip rfl rfl (.noF rfl rfl rfl) ?_
    refine JL.skip rfl rfl (.noF rfl rfl rfl) ?_
    refine JL.skip rfl rfl (.noF rfl rfl rfl) ?_
    refine JL.skip rfl rfl (.noF rfl rfl rfl) ?_
    refine JL.skipW rfl rfl (wantU rfl rfl rfl) ?_
    refine JL.skipW rfl rfl (wantU rfl rfl rfl) ?_
    refine JL.skipW rfl rfl (wantU rfl rfl rfl) ?_
    refine JL.skipW rfl rfl (wantU rfl rfl rfl) ?_
    refine JL.skipW rfl rfl (wantU rfl rfl rfl) ?_
    refine JL.skip rfl rfl (.noF rfl rfl rfl) ?_
    refine JL.val rfl rfl rfl (.none rfl) (Ev.pickT rfl rfl) ?_
    refine JL.asg ?_
    refine JL.nil ?_
    refine JQ.thenN ?_
    refine JC.ret ?_
    refine JQ.end1 (H' := []) (.inl rfl) rfl (.tmp rfl) ?_ ?_
    · exact Sub.k
    · first | exact congrArg Value.bool (decide_eq_true (by unfold ltP; omega)).symm | exact congrArg Value.bool (decide_eq_decide.2 (by unfold ltP; omega)) | exact congrArg Value.bool (decide_eq_false (by unfold ltP; omega)).symm
  · -- guard 10 false
    have hA := of_decide_eq_false hA
    refine JL.val rfl rfl rfl (.yes rfl rfl rfl) (Ev.fld 0 rfl (fun _ _ => by kernel_rfl)) ?_
    refine JL.val rfl rfl rfl (.yes rfl rfl rfl) (Ev.load1 rfl Tryd.underlying3 rfl (Rd.own memK rfl)) ?_
    refine JL.val rfl rfl rfl (.yes rfl rfl rfl) (Ev.fld 0 rfl (fun _ _ => by kernel_rfl)) ?_
    refine JL.val rfl rfl rfl (.yes rfl rfl rfl) (Ev.load1 rfl Tryd.underlying3 rfl (Rd.own memK rfl)) ?_
    refine JL.val rfl rfl rfl (.yes rfl rfl rfl) (Ev.bin rfl rfl eql_int) ?_
    refine JL.val rfl rfl rfl (.yes rfl rfl rfl) (Ev.move rfl) ?_
    refine JL.split (d := 16) rfl (fun hB => ?_) (fun hB => ?_)
    · -- guard 16 true
      have hB := of_decide_eq_true hB
      refine JL.val rfl rfl rfl (.yes rfl rfl rfl) (Ev.fld 1 rfl (fun _ _ => by kernel_rfl)) ?_
      refine JL.val rfl rfl rfl (.yes rfl rfl rfl) (Ev.load1 rfl Tryd.underlying3 rfl (Rd.own memK rfl)) ?_
      refine JL.val rfl rfl rfl (.yes rfl rfl rfl) (Ev.fld 1 rfl (fun _ _ => by kernel_rfl)) ?_
      refine JL.val rfl rfl rfl (.yes rfl rfl rfl) (Ev.load1 rfl Tryd.underlying3 rfl (Rd.own memK rfl)) ?_
      refine JL.val rfl rfl rfl (.yes rfl rfl rfl) (Ev.bin rfl rfl lss_int) ?_
      refine JL.val rfl rfl rfl (.yes rfl rfl rfl) (Ev.pickT rfl rfl) ?_
      refine JL.val rfl rfl rfl (.none rfl) (Ev.pickF rfl rfl) ?_
      refine JL.asg ?_
      refine JL.nil ?_
      refine JQ.thenN ?_
      refine JC.ret ?_
      refine JQ.end1 (H' := []) (.inl rfl) rfl (.tmp rfl) ?_ ?_
      · exact Sub.k
      · first | exact congrArg Value.bool (decide_eq_true (by unfold ltP; omega)).symm | exact congrArg Value.bool (decide_eq_decide.2 (by unfold ltP; omega)) | exact congrArg Value.bool (decide_eq_false (by unfold ltP; omega)).symm
    · -- guard 16 false
      have hB := of_decide_eq_false hB
      refine JL.skip rfl rfl (.noT rfl rfl rfl) ?_
      refine JL.skip rfl rfl (.noT rfl rfl rfl) ?_
      refine JL.skip rfl rfl (.noT rfl rfl rfl) ?_
      refine JL.skip rfl rfl (.noT rfl rfl rfl) ?_
      refine JL.skip rfl rfl (.noT rfl rfl rfl) ?_
      refine JL.val rfl rfl rfl (.yes rfl rfl rfl) (Ev.pickF rfl rfl) ?_
      refine JL.val rfl rfl rfl (.none rfl) (Ev.pickF rfl rfl) ?_
      refine JL.asg ?_
      refine JL.nil ?_
      refine JQ.thenN ?_
      refine JC.ret ?_
      refine JQ.end1 (H' := []) (.inl rfl) rfl (.tmp rfl) ?_ ?_
      · exact Sub.k
      · first | exact congrArg Value.bool (decide_eq_true (by unfold ltP; omega)).symm | exact congrArg Value.bool (decide_eq_decide.2 (by unfold ltP; omega)) | exact congrArg Value.bool (decide_eq_false (by unfold ltP; omega)).symm

theorem rCount_any (oa : Option Addr) (cap : Nat) (l : List Pl) (p : Pl) (w : World) (hs : Pz w oa cap l) (hl : l.length ≤ 1100000) :
    Calls Tryd.prog 23 #[.slice oa l.length cap, .agg (plc p).toArray] w (Ret w (fun v _ => v = .int .i64 (cntP l p))) := by
  refine enter (vs := [.slice oa l.length cap, .agg (plc p).toArray]) Tryd.func23 rfl Tryd.ntmps23 rfl ?_
  refine JC.seq ?_
  refine JC.region ?_
  refine JL.new rfl rfl rfl (.none rfl) (En.boxA rfl) (fun b3 hb3 => ?_)
  refine JL.asg ?_
  refine JL.nil ?_
  refine JQ.thenN ?_
  refine JC.seq ?_
  refine JC.region ?_
  refine JL.asg ?_
  refine JL.nil ?_
  refine JQ.thenN ?_
  refine JC.seq ?_
  refine JC.seq ?_
  refine JC.region ?_
  refine JL.asg ?_
  refine JL.nil ?_
  refine JQ.thenN ?_
  refine JC.block ?_
  refine JC.loop (X := Nat)
    (fun i => [(0, .slice oa l.length cap), (3, .pointer (some ⟨b3, 0, none⟩)), (5, .int .i64 (cntP (l.take i) p)), (6, .int .i64 (i : Int))])
    (fun i => [(b3, Obj.cells (plc p).toArray 27 (0, 0))])
    (fun i => i ≤ l.length)
    (fun i => l.length - i) 0 ?_ ?_ ?_ ?_
  · exact Keeps.k
  · exact Sub.all
  · exact Nat.zero_le _
  rintro i hi
  refine JC.seq ?_
  refine JC.seq ?_
  refine JC.region ?_
  refine JL.mv ?_
  refine JL.mv ?_
  refine JL.val rfl rfl rfl (.none rfl) (Ev.lenS rfl Tryd.underlying22) ?_
  refine JL.val rfl rfl rfl (.none rfl) (Ev.bin rfl rfl lss_int) ?_
  refine JL.nil ?_
  refine JQ.thenN ?_
  refine JC.cond rfl (fun hc1 => ?_) (fun hc1 => ?_)
  · -- t10 True
    replace hc1 := of_decide_eq_true hc1
    obtain ⟨a, rfl⟩ := hs.get_some (by omega)
    obtain ⟨x, hx⟩ := get_some (l := l) (k := i) (by omega)
    have hcb := cntP_le (l.take i) p
    have htl : (l.take i).length ≤ l.length := by rw [List.length_take]; omega
    refine JC.skip ?_
    refine JQ.thenN ?_
    refine JC.seq ?_
    refine JC.block ?_
    refine JC.seq ?_
    refine JC.regionQ (by kernel_rfl) (by kernel_rfl) ?_
    refine JW.val rfl rfl (.none rfl) (Ev.move rfl) ?_
    refine JW.val rfl rfl (.none rfl) (Ev.move rfl) ?_
    refine JW.val rfl rfl (.none rfl) (Ev.idxS rfl rfl Tryd.underlying22 Tryd.sizeOf27 (k := i) rfl (by omega)) ?_
    refine JW.val rfl rfl (.none rfl) (Ev.loadA (l := plc x) rfl Tryd.underlying27 rfl Tryd.sizeOf27 (Rds.old ((hs.mem _ rfl).plAt hx)) rfl) ?_
    refine JW.val rfl rfl (.none rfl) (Ev.loadB rfl memK Tryd.underlying27 rfl Tryd.sizeOf27 rfl) ?_
    refine JW.val rfl rfl (.none rfl) (Ev.bin rfl rfl (eql_pl Tryd.underlying27 Tryd.underlying3 Tryd.underlying3 (by kernel_rfl) (by kernel_rfl) (by decide) (by decide) _ _)) ?_
    refine JW.nilQ ?_
    refine JQ.thenN ?_
    refine JC.cond rfl (fun hq => ?_) (fun hq => ?_)
    · -- t18 True
      replace hq := of_decide_eq_true hq
      refine JC.region ?_
      refine JL.mv ?_
      refine JL.val rfl rfl rfl (.none rfl) (Ev.cast (v' := .int .i64 (cntP (l.take (i + 1)) p)) (congrArg (Value.int .i64) (cntP_yes hx hq).symm) (Ev.bin rfl rfl (add_i64 (by omega)))) ?_
      refine JL.asg ?_
      refine JL.nil ?_
      refine JQ.blockN ?_
      refine JQ.thenN ?_
      refine JC.region ?_
      refine JL.mv ?_
      refine JL.val rfl rfl rfl (.none rfl) (Ev.bin rfl rfl (add_i64 (by omega))) ?_
      refine JL.asg ?_
      refine JL.nil ?_
      refine JQ.loopN (i + 1) ?_ ?_ ?_ ?_
      · exact Keeps.k
      · first | exact Sub.all | exact Sub.of_cnt (fun a => by (try dsimp only); simp only [cntA]; omega)
      · omega
      · show l.length - (i + 1) < l.length - i; omega
    · -- t18 False
      replace hq := of_decide_eq_false hq
      refine JC.re (d := 5) rfl (congrArg (Value.int .i64) (cntP_no hx hq).symm) ?_
      refine JC.skip ?_
      refine JQ.blockN ?_
      refine JQ.thenN ?_
      refine JC.region ?_
      refine JL.mv ?_
      refine JL.val rfl rfl rfl (.none rfl) (Ev.bin rfl rfl (add_i64 (by omega))) ?_
      refine JL.asg ?_
      refine JL.nil ?_
      refine JQ.loopN (i + 1) ?_ ?_ ?_ ?_
      · exact Keeps.k
      · first | exact Sub.all | exact Sub.of_cnt (fun a => by (try dsimp only); simp only [cntA]; omega)
      · omega
      · show l.length - (i + 1) < l.length - i; omega
  · -- t10 False
    replace hc1 := of_decide_eq_false hc1
    obtain rfl : i = l.length := by omega
    refine JC.exit ?_
    refine JQ.thenE ?_
    refine JQ.thenE ?_
    refine JQ.blockE ?_
    refine JQ.thenN ?_
    refine JC.seq ?_
    refine JC.region ?_
    refine JL.mv ?_
    refine JL.asg ?_
    refine JL.nil ?_
    refine JQ.thenN ?_
    refine JC.ret ?_
    refine JQ.end1 (H' := []) (.inl rfl) rfl (.tmp rfl) ?_ ?_
    · exact Sub.k
    · rw [List.take_length]

theorem rUnique_any (oa : Option Addr) (cap : Nat) (l : List Pl) (w : World) (hs : Pz w oa cap l) (hl : l.length ≤ 1100000) :
    Calls Tryd.prog 24 #[.slice oa l.length cap] w (Ret w (fun v H => ∃ r : Option Row, v = Row.v (unL l).length r ∧ H = Row.b 27 r ∧ Row.ok 2 (unL l).length (pf (unL l)) r)) := by
  refine enter (vs := [.slice oa l.length cap]) Tryd.func24 rfl Tryd.ntmps24 rfl ?_
  refine JC.seq ?_
  refine JC.region ?_
  refine JL.asg ?_
  refine JL.nil ?_
  refine JQ.thenN ?_
  refine JC.seq ?_
  refine JC.region ?_
  refine JL.asg ?_
  refine JL.nil ?_
  refine JQ.thenN ?_
  refine JC.seq ?_
  refine JC.seq ?_
  refine JC.region ?_
  refine JL.asg ?_
  refine JL.nil ?_
  refine JQ.thenN ?_
  refine JC.block ?_
  refine JC.loop (X := Nat × List Pl × Option Row)
    (fun ⟨i, out, r⟩ => [(0, .slice oa l.length cap), (3, Row.v out.length r), (4, .int .i64 (i : Int))])
    (fun ⟨i, out, r⟩ => Row.b 27 r)
    (fun ⟨i, out, r⟩ => i ≤ l.length ∧ out = unL (l.take i) ∧ Row.ok 2 out.length (pf out) r)
    (fun ⟨i, out, r⟩ => l.length - i) (0, [], none) ?_ ?_ ?_ ?_
  · exact Keeps.k
  · exact Sub.all
  · exact ⟨Nat.zero_le _, rfl, Row.ok0⟩
  rintro ⟨i, out, r⟩ ⟨hi, ho, hr⟩
  refine JC.seq ?_
  refine JC.seq ?_
  refine JC.region ?_
  refine JL.mv ?_
  refine JL.mv ?_
  refine JL.val rfl rfl rfl (.none rfl) (Ev.lenS rfl Tryd.underlying22) ?_
  refine JL.val rfl rfl rfl (.none rfl) (Ev.bin rfl rfl lss_int) ?_
  refine JL.nil ?_
  refine JQ.thenN ?_
  refine JC.cond rfl (fun hc1 => ?_) (fun hc1 => ?_)
  · -- t10 True
    replace hc1 := of_decide_eq_true hc1
    obtain ⟨a, rfl⟩ := hs.get_some (by omega)
    obtain ⟨x, hx⟩ := get_some (l := l) (k := i) (by omega)
    have hol : out.length ≤ i := by rw [ho]; exact Nat.le_trans (unL_le _) (by rw [List.length_take]; omega)
    refine JC.skip ?_
    refine JQ.thenN ?_
    refine JC.seq ?_
    refine JC.block ?_
    refine JC.seq ?_
    refine JC.seq ?_
    refine JC.region ?_
    obtain ⟨o1, c1, e1, hem1, hle1, htp1, hC1⟩ := Row.vwP (e := 27) hr
    refine JL.re (d := 3) rfl e1 ?_
    refine JL.mv ?_
    refine JL.mv ?_
    refine JL.mv ?_
    refine JL.val rfl rfl rfl (.none rfl) (Ev.idxS rfl rfl Tryd.underlying22 Tryd.sizeOf27 (k := i) rfl (by omega)) ?_
    refine JL.val rfl rfl rfl (.none rfl) (Ev.loadA (l := plc x) rfl Tryd.underlying27 rfl Tryd.sizeOf27 (Rds.old ((hs.mem _ rfl).plAt hx)) rfl) ?_
    refine JL.callV rfl (.none rfl) rfl Tryd.call23 (fun w1 hw1 => rCount_any o1 c1 out x w1 (hC1 w1 hw1 (fun p hp => by first | exact hp | simp [hp])) (by omega)) ?_
    refine JL.val rfl rfl rfl (.none rfl) (Ev.bin rfl rfl gtr_int) ?_
    refine JL.nil ?_
    refine JQ.thenN ?_
    refine JC.cond rfl (fun hin => ?_) (fun hin => ?_)
    · -- t19 True
      replace hin := of_decide_eq_true hin
      have hin : x ∈ out := cntP_pos.1 hin
      refine JC.re (d := 3) rfl e1.symm ?_
      refine JC.exit ?_
      refine JQ.thenE ?_
      refine JQ.blockE ?_
      refine JQ.thenN ?_
      refine JC.region ?_
      refine JL.mv ?_
      refine JL.val rfl rfl rfl (.none rfl) (Ev.bin rfl rfl (add_i64 (by omega))) ?_
      refine JL.asg ?_
      refine JL.nil ?_
      refine JQ.loopN (i + 1, out, r) ?_ ?_ ?_ ?_
      · exact Keeps.k
      · first | exact Sub.all | exact Sub.of_cnt (fun a => by (try dsimp only); simp only [cntA]; omega)
      · exact ⟨by omega, by rw [un_take hx, ← ho, insU, if_pos hin], hr⟩
      · show l.length - (i + 1) < l.length - i; omega
    · -- t19 False
      replace hin := of_decide_eq_false hin
      have hin : x ∉ out := fun h => hin (cntP_pos.2 h)
      refine JC.skip ?_
      refine JQ.thenN ?_
      refine JC.seq ?_
      refine JC.region ?_
      refine JL.mv ?_
      refine JL.val rfl rfl rfl (.none rfl) (Ev.lenS rfl Tryd.underlying22) ?_
      refine JL.asg ?_
      refine JL.nil ?_
      refine JQ.thenN ?_
      refine JC.seq ?_
      refine JC.block ?_
      refine JC.loop (X := Nat)
        (fun k => [(0, .slice (some a) l.length cap), (3, .slice o1 out.length c1), (4, .int .i64 (i : Int)), (5, .int .i64 (k : Int))])
        (fun k => Row.b 27 r)
        (fun k => k ≤ out.length ∧ posI out x out.length = posI out x k)
        (fun k => k) out.length ?_ ?_ ?_ ?_
      · exact Keeps.k
      · exact Sub.all
      · exact ⟨Nat.le_refl _, rfl⟩
      rintro k ⟨hkl, hk⟩
      refine JC.seq ?_
      refine JC.seq ?_
      refine JC.regionQ (by kernel_rfl) (by kernel_rfl) ?_
      refine JW.val rfl rfl (.none rfl) (Ev.move rfl) ?_
      refine JW.val rfl rfl (.none rfl) (Ev.bin rfl rfl gtr_int) ?_
      refine JW.val rfl rfl (.none rfl) (Ev.move rfl) ?_
      refine JW.split (d := 24) rfl (fun hA => ?_) (fun hA => ?_)
      · -- guard 24 true
        have hA := of_decide_eq_true hA
        obtain ⟨y, hy⟩ := get_some (l := out) (k := k - 1) (by omega)
        obtain ⟨a1, rfl⟩ : ∃ a, o1 = some a := by cases o1 with | none => (have := hem1 rfl; omega) | some a => exact ⟨a, rfl⟩
        refine JW.val rfl rfl (.yes rfl rfl rfl) (Ev.move rfl) ?_
        refine JW.val rfl rfl (.yes rfl rfl rfl) (Ev.move rfl) ?_
        refine JW.val rfl rfl (.yes rfl rfl rfl) (Ev.idxS rfl rfl Tryd.underlying22 Tryd.sizeOf27 (k := i) rfl (by omega)) ?_
        refine JW.val rfl rfl (.yes rfl rfl rfl) (Ev.loadA (l := plc x) rfl Tryd.underlying27 rfl Tryd.sizeOf27 (Rds.old ((hs.mem _ rfl).plAt hx)) rfl) ?_
        refine JW.val rfl rfl (.yes rfl rfl rfl) (Ev.move rfl) ?_
        refine JW.val rfl rfl (.yes rfl rfl rfl) (Ev.move rfl) ?_
        refine JW.val rfl rfl (.yes rfl rfl rfl) (Ev.bin rfl rfl (sub_i64 (by omega))) ?_
        refine JW.val rfl rfl (.yes rfl rfl rfl) (Ev.idxS rfl rfl Tryd.underlying22 Tryd.sizeOf27 (k := k - 1) (by omega) (by omega)) ?_
        refine JW.val rfl rfl (.yes rfl rfl rfl) (Ev.loadA (l := plc y) rfl Tryd.underlying27 rfl Tryd.sizeOf27 (fun w hw => ((hC1 w hw (fun p hp => by first | exact hp | simp [hp])).mem a1 rfl).plAt hy) rfl) ?_
        refine JW.call rfl (.yes rfl rfl rfl) rfl Tryd.call35 (fun w1 hw1 => ahead_any x y w1) ?_
        refine JW.val rfl rfl (.none rfl) (Ev.pickT rfl rfl) ?_
        refine JW.nilQ ?_
        refine JQ.thenN ?_
        refine JC.cond rfl (fun hlt => ?_) (fun hlt => ?_)
        · -- t35 True
          replace hlt := of_decide_eq_true hlt
          have hlt := (by rwa [getD_of hy] : ltP x (out.getD (k - 1) (0, 0)))
          refine JC.skip ?_
          refine JQ.thenN ?_
          refine JC.block ?_
          refine JC.region ?_
          refine JL.mv ?_
          refine JL.val rfl rfl rfl (.none rfl) (Ev.cast (v' := .int .i64 ((k - 1 : Nat) : Int)) (congrArg (Value.int .i64) (by omega)) (Ev.bin rfl rfl (sub_i64 (by omega)))) ?_
          refine JL.asg ?_
          refine JL.nil ?_
          refine JQ.blockN ?_
          refine JQ.loopN (k - 1) ?_ ?_ ?_ ?_
          · exact Keeps.k
          · first | exact Sub.all | exact Sub.of_cnt (fun a => by (try dsimp only); simp only [cntA]; omega)
          · exact ⟨by omega, hk.trans (posI_on (by omega) hlt)⟩
          · show k - 1 < k; omega
        · -- t35 False
          replace hlt := of_decide_eq_false hlt
          have hpk : posI out x out.length = k := hk.trans (posI_stop (by omega) (by rwa [getD_of hy]))
          refine JC.exit ?_
          refine JQ.thenE ?_
          refine JQ.thenE ?_
          refine JQ.blockE ?_
          refine JQ.thenN ?_
          refine JC.seq ?_
          refine JC.region ?_
          refine JL.asg ?_
          refine JL.nil ?_
          refine JQ.thenN ?_
          refine JC.seq ?_
          refine JC.region ?_
          obtain ⟨ob, hsub, hob, hD⟩ := drop_vw (l := k) hkl hle1 htp1 hem1
          have hlk : (out.take k).length = k := by rw [List.length_take]; omega
          have hlen : 0 + k + 1 + (out.drop k).length = (out.take k ++ x :: out.drop k).length := by rw [List.length_append, List.length_cons, hlk]; omega
          have hld : (out.drop k).length = out.length - k := List.length_drop
          refine JL.mv ?_
          refine JL.mv ?_
          refine JL.mv ?_
          refine JL.val rfl rfl rfl (.none rfl) (Ev.cast (v' := .slice _ k c1) (sub3_0) (Ev.sliceHi rfl rfl Tryd.underlying22 Tryd.sizeOf27 (h := k) rfl (by omega))) ?_
          refine JL.gen rfl rfl rfl (.none rfl) (Eg.append (H0 := Row.b 27 r) (r := none) (n := 0) (m := k) (xs := []) (news := pf (out.take k)) (z := (.agg #[.int .i64 0, .int .i64 0])) (s := 2) (bytes := 16) rfl rfl rfl Cut.k Tryd.underlying22 (by kernel_rfl) rfl (by decide) (by decide) ⟨rfl, rfl⟩ (by rw [pf_length, hlk]) (fun a ha w hw => (Pz.take (hC1 w hw (fun p hp => by first | exact hp | simp [hp])) hkl).mem a ha) (fun h => by have := hem1 h; omega) (pf_one _) (by omega)) ?_
          rintro _ _ ⟨rx, rfl, rfl, hrx, _⟩
          refine JL.asg ?_
          refine JL.nil ?_
          refine JQ.thenN ?_
          refine JC.seq ?_
          refine JC.region ?_
          refine JL.mv ?_
          refine JL.mv ?_
          refine JL.mv ?_
          refine JL.val rfl rfl rfl (.none rfl) (Ev.idxS rfl rfl Tryd.underlying22 Tryd.sizeOf27 (k := i) rfl (by omega)) ?_
          refine JL.val rfl rfl rfl (.none rfl) (Ev.loadA (l := plc x) rfl Tryd.underlying27 rfl Tryd.sizeOf27 (Rds.old ((hs.mem _ rfl).plAt hx)) rfl) ?_
          refine JL.new rfl rfl rfl (.none rfl) (En.bs1Pl (p := x) rfl Tryd.underlying22 Tryd.sizeOf27 Tryd.zeroValue27) (fun b48 hb48 => ?_)
          refine JL.gen rfl rfl rfl (.none rfl) (Eg.append1 (r := rx) (n := 0 + k) (xs := [] ++ pf (out.take k)) (news := pf [x]) (z := (.agg #[.int .i64 0, .int .i64 0])) (s := 2) (bytes := 16) rfl rfl rfl Cut.k Tryd.underlying22 (by kernel_rfl) rfl (by decide) (by decide) hrx (Rds.all memK) rfl (by decide) (pf_one _) (by omega)) ?_
          rintro _ _ ⟨ry, rfl, rfl, hry⟩
          refine JL.asg ?_
          refine JL.nil ?_
          refine JQ.thenN ?_
          refine JC.region ?_
          refine JL.mv ?_
          refine JL.mv ?_
          refine JL.mv ?_
          refine JL.val rfl rfl rfl (.none rfl) (Ev.sliceLo rfl rfl Tryd.underlying22 Tryd.sizeOf27 (l := k) rfl hkl) ?_
          refine JL.re (d := 53) rfl hsub ?_
          refine JL.gen rfl rfl rfl (.none rfl) (Eg.append (r := ry) (n := 0 + k + 1) (m := (out.drop k).length) (xs := ([] ++ pf (out.take k)) ++ pf [x]) (news := pf (out.drop k)) (z := (.agg #[.int .i64 0, .int .i64 0])) (s := 2) (bytes := 16) rfl rfl rfl Cut.k Tryd.underlying22 (by kernel_rfl) rfl (by decide) (by decide) hry (pf_length _) (fun a ha w hw => hD w (hC1 w hw (fun p hp => by first | exact hp | simp [hp])) a ha) hob (pf_one _) (by omega)) ?_
          rintro _ _ ⟨rz, rfl, rfl, hrz, _⟩
          rw [hlen]
          rw [hlen, pf_ins] at hrz
          refine JL.asg ?_
          refine JL.nil ?_
          refine JQ.blockN ?_
          refine JQ.thenN ?_
          refine JC.region ?_
          refine JL.mv ?_
          refine JL.val rfl rfl rfl (.none rfl) (Ev.bin rfl rfl (add_i64 (by omega))) ?_
          refine JL.asg ?_
          refine JL.nil ?_
          refine JQ.loopN (i + 1, out.take k ++ x :: out.drop k, rz) ?_ ?_ ?_ ?_
          · exact Keeps.k
          · first | exact Sub.all | exact Sub.of_cnt (fun a => by (try dsimp only); simp only [cntA]; omega)
          · exact ⟨by omega, by rw [un_take hx, ← ho, insU, if_neg hin, hpk], hrz⟩
          · show l.length - (i + 1) < l.length - i; omega
      · -- guard 24 false
        have hA := of_decide_eq_false hA
        have hpk : posI out x out.length = k := hk.trans (by obtain rfl : k = 0 := (by omega); rfl)
        refine JW.skip rfl rfl (.noT rfl rfl rfl) ?_
        refine JW.skip rfl rfl (.noT rfl rfl rfl) ?_
        refine JW.skip rfl rfl (.noT rfl rfl rfl) ?_
        refine JW.skip rfl rfl (.noT rfl rfl rfl) ?_
        refine JW.skip rfl rfl (.noT rfl rfl rfl) ?_
        refine JW.skip rfl rfl (.noT rfl rfl rfl) ?_
        refine JW.skip rfl rfl (.noT rfl rfl rfl) ?_
        refine JW.skip rfl rfl (.noT rfl rfl rfl) ?_
        refine JW.skip rfl rfl (.noT rfl rfl rfl) ?_
        refine JW.skip rfl rfl (.noT rfl rfl rfl) ?_
        refine JW.val rfl rfl (.none rfl) (Ev.pickF rfl rfl) ?_
        refine JW.nilQ ?_
        refine JQ.thenN ?_
        refine JC.condF rfl ?_
        refine JC.exit ?_
        refine JQ.thenE ?_
        refine JQ.thenE ?_
        refine JQ.blockE ?_
        refine JQ.thenN ?_
        refine JC.seq ?_
        refine JC.region ?_
        refine JL.asg ?_
        refine JL.nil ?_
        refine JQ.thenN ?_
        refine JC.seq ?_
        refine JC.region ?_
        obtain ⟨ob, hsub, hob, hD⟩ := drop_vw (l := k) hkl hle1 htp1 hem1
        have hlk : (out.take k).length = k := by rw [List.length_take]; omega
        have hlen : 0 + k + 1 + (out.drop k).length = (out.take k ++ x :: out.drop k).length := by rw [List.length_append, List.length_cons, hlk]; omega
        have hld : (out.drop k).length = out.length - k := List.length_drop
        refine JL.mv ?_
        refine JL.mv ?_
        refine JL.mv ?_
        refine JL.val rfl rfl rfl (.none rfl) (Ev.cast (v' := .slice _ k c1) (sub3_0) (Ev.sliceHi rfl rfl Tryd.underlying22 Tryd.sizeOf27 (h := k) rfl (by omega))) ?_
        refine JL.gen rfl rfl rfl (.none rfl) (Eg.append (H0 := Row.b 27 r) (r := none) (n := 0) (m := k) (xs := []) (news := pf (out.take k)) (z := (.agg #[.int .i64 0, .int .i64 0])) (s := 2) (bytes := 16) rfl rfl rfl Cut.k Tryd.underlying22 (by kernel_rfl) rfl (by decide) (by decide) ⟨rfl, rfl⟩ (by rw [pf_length, hlk]) (fun a ha w hw => (Pz.take (hC1 w hw (fun p hp => by first | exact hp | simp [hp])) hkl).mem a ha) (fun h => by have := hem1 h; omega) (pf_one _) (by omega)) ?_
        rintro _ _ ⟨rx, rfl, rfl, hrx, _⟩
        refine JL.asg ?_
        refine JL.nil ?_
        refine JQ.thenN ?_
        refine JC.seq ?_
        refine JC.region ?_
        refine JL.mv ?_
        refine JL.mv ?_
        refine JL.mv ?_
        refine JL.val rfl rfl rfl (.none rfl) (Ev.idxS rfl rfl Tryd.underlying22 Tryd.sizeOf27 (k := i) rfl (by omega)) ?_
        refine JL.val rfl rfl rfl (.none rfl) (Ev.loadA (l := plc x) rfl Tryd.underlying27 rfl Tryd.sizeOf27 (Rds.old ((hs.mem _ rfl).plAt hx)) rfl) ?_
        refine JL.new rfl rfl rfl (.none rfl) (En.bs1Pl (p := x) rfl Tryd.underlying22 Tryd.sizeOf27 Tryd.zeroValue27) (fun b48 hb48 => ?_)
        refine JL.gen rfl rfl rfl (.none rfl) (Eg.append1 (r := rx) (n := 0 + k) (xs := [] ++ pf (out.take k)) (news := pf [x]) (z := (.agg #[.int .i64 0, .int .i64 0])) (s := 2) (bytes := 16) rfl rfl rfl Cut.k Tryd.underlying22 (by kernel_rfl) rfl (by decide) (by decide) hrx (Rds.all memK) rfl (by decide) (pf_one _) (by omega)) ?_
        rintro _ _ ⟨ry, rfl, rfl, hry⟩
        refine JL.asg ?_
        refine JL.nil ?_
        refine JQ.thenN ?_
        refine JC.region ?_
        refine JL.mv ?_
        refine JL.mv ?_
        refine JL.mv ?_
        refine JL.val rfl rfl rfl (.none rfl) (Ev.sliceLo rfl rfl Tryd.underlying22 Tryd.sizeOf27 (l := k) rfl hkl) ?_
        refine JL.re (d := 53) rfl hsub ?_
        refine JL.gen rfl rfl rfl (.none rfl) (Eg.append (r := ry) (n := 0 + k + 1) (m := (out.drop k).length) (xs := ([] ++ pf (out.take k)) ++ pf [x]) (news := pf (out.drop k)) (z := (.agg #[.int .i64 0, .int .i64 0])) (s := 2) (bytes := 16) rfl rfl rfl Cut.k Tryd.underlying22 (by kernel_rfl) rfl (by decide) (by decide) hry (pf_length _) (fun a ha w hw => hD w (hC1 w hw (fun p hp => by first | exact hp | simp [hp])) a ha) hob (pf_one _) (by omega)) ?_
        rintro _ _ ⟨rz, rfl, rfl, hrz, _⟩
        rw [hlen]
        rw [hlen, pf_ins] at hrz
        refine JL.asg ?_
        refine JL.nil ?_
        refine JQ.blockN ?_
        refine JQ.thenN ?_
        refine JC.region ?_
        refine JL.mv ?_
        refine JL.val rfl rfl rfl (.none rfl) (Ev.bin rfl rfl (add_i64 (by omega))) ?_
        refine JL.asg ?_
        refine JL.nil ?_
        refine JQ.loopN (i + 1, out.take k ++ x :: out.drop k, rz) ?_ ?_ ?_ ?_
        · exact Keeps.k
        · first | exact Sub.all | exact Sub.of_cnt (fun a => by (try dsimp only); simp only [cntA]; omega)
        · exact ⟨by omega, by rw [un_take hx, ← ho, insU, if_neg hin, hpk], hrz⟩
        · show l.length - (i + 1) < l.length - i; omega
  · -- t10 False
    replace hc1 := of_decide_eq_false hc1
    obtain rfl : i = l.length := by omega
    refine JC.exit ?_
    refine JQ.thenE ?_
    refine JQ.thenE ?_
    refine JQ.blockE ?_
    refine JQ.thenN ?_
    refine JC.seq ?_
    refine JC.region ?_
    refine JL.mv ?_
    refine JL.asg ?_
    refine JL.nil ?_
    refine JQ.thenN ?_
    refine JC.ret ?_
    refine JQ.end1 (H' := (Row.b 27 r)) (.inl rfl) rfl (.tmp rfl) ?_ ?_
    · exact Sub.all
    · rw [List.take_length] at ho; subst ho; exact ⟨r, rfl, rfl, hr⟩

theorem rInBatch_any (oa : Option Addr) (cap : Nat) (l : List Pl) (n : Int) (w : World) (hs : Pz w oa cap l) (hl : l.length ≤ 1100000) :
    Calls Tryd.prog 25 #[.slice oa l.length cap, .int .i64 n] w (Ret w (fun v H => ∃ r : Option Row, v = Row.v (inB l n).length r ∧ H = Row.b 3 r ∧ Row.ok 1 (inB l n).length (ints (inB l n)) r)) := by
  refine enter (vs := [.slice oa l.length cap, .int .i64 n]) Tryd.func25 rfl Tryd.ntmps25 rfl ?_
  refine JC.seq ?_
  refine JC.region ?_
  refine JL.asg ?_
  refine JL.nil ?_
  refine JQ.thenN ?_
  refine JC.seq ?_
  refine JC.region ?_
  refine JL.asg ?_
  refine JL.nil ?_
  refine JQ.thenN ?_
  refine JC.seq ?_
  refine JC.region ?_
  refine JL.mv ?_
  refine JL.callN rfl (.none rfl) rfl Tryd.call24 (fun w1 hw1 => rUnique_any oa cap l w1 (hs.old hw1) hl) ?_
  rintro _ _ ⟨r1, rfl, rfl, hr1⟩
  obtain ⟨o1, c1, e1, hn1, hC1⟩ := Row.vw (e := 27) hr1
  refine JL.re (d := 9) rfl e1 ?_
  refine JL.asg ?_
  refine JL.nil ?_
  refine JQ.thenN ?_
  refine JC.seq ?_
  refine JC.seq ?_
  refine JC.region ?_
  refine JL.asg ?_
  refine JL.nil ?_
  refine JQ.thenN ?_
  refine JC.block ?_
  refine JC.loop (X := Nat × List Int × Option Row)
    (fun ⟨i, out, r⟩ => [(1, .int .i64 n), (5, Row.v out.length r), (6, .slice o1 (unL l).length c1), (7, .int .i64 (i : Int))])
    (fun ⟨i, out, r⟩ => Row.b 27 r1 ++ Row.b 3 r)
    (fun ⟨i, out, r⟩ => i ≤ (unL l).length ∧ out = inBk (unL l) i n ∧ Row.ok 1 out.length (ints out) r)
    (fun ⟨i, out, r⟩ => (unL l).length - i) (0, [], none) ?_ ?_ ?_ ?_
  · exact Keeps.k
  · exact Sub.of_cnt (fun a => by (try dsimp only); simp only [cntA]; omega)
  · exact ⟨Nat.zero_le _, rfl, Row.ok0⟩
  rintro ⟨i, out, r⟩ ⟨hi, ho, hr⟩
  refine JC.seq ?_
  refine JC.seq ?_
  refine JC.region ?_
  refine JL.mv ?_
  refine JL.mv ?_
  refine JL.val rfl rfl rfl (.none rfl) (Ev.lenS rfl Tryd.underlying22) ?_
  refine JL.val rfl rfl rfl (.none rfl) (Ev.bin rfl rfl lss_int) ?_
  refine JL.nil ?_
  refine JQ.thenN ?_
  refine JC.cond rfl (fun hc1 => ?_) (fun hc1 => ?_)
  · -- t13 True
    replace hc1 := of_decide_eq_true hc1
    have hul := unL_le l
    obtain ⟨a1, rfl⟩ : ∃ a, o1 = some a := by cases o1 with | none => (have := hn1 rfl; omega) | some a => exact ⟨a, rfl⟩
    obtain ⟨x, hx⟩ := get_some (l := unL l) (k := i) (by omega)
    have hol := inBk_le (unL l) i n
    rw [← ho] at hol
    refine JC.skip ?_
    refine JQ.thenN ?_
    refine JC.seq ?_
    refine JC.block ?_
    refine JC.seq ?_
    refine JC.region ?_
    refine JL.mv ?_
    refine JL.mv ?_
    refine JL.val rfl rfl rfl (.none rfl) (Ev.idxS rfl rfl Tryd.underlying22 Tryd.sizeOf27 (k := i) rfl (by omega)) ?_
    refine JL.val rfl rfl rfl (.none rfl) (Ev.fldP 0 rfl (fun _ _ => by kernel_rfl)) ?_
    refine JL.val rfl rfl rfl (.none rfl) (Ev.load1 rfl Tryd.underlying3 rfl (fun w hw => ((hC1 w hw (fun p hp => by first | exact hp | simp [hp])).mem a1 rfl).plF hx 0 rfl)) ?_
    refine JL.mv ?_
    refine JL.val rfl rfl rfl (.none rfl) (Ev.bin rfl rfl eql_int) ?_
    refine JL.nil ?_
    refine JQ.thenN ?_
    refine JC.cond rfl (fun hq => ?_) (fun hq => ?_)
    · -- t22 True
      replace hq := of_decide_eq_true hq
      refine JC.region ?_
      refine JL.mv ?_
      refine JL.mv ?_
      refine JL.mv ?_
      refine JL.val rfl rfl rfl (.none rfl) (Ev.idxS rfl rfl Tryd.underlying22 Tryd.sizeOf27 (k := i) rfl (by omega)) ?_
      refine JL.val rfl rfl rfl (.none rfl) (Ev.fldP 1 rfl (fun _ _ => by kernel_rfl)) ?_
      refine JL.val rfl rfl rfl (.none rfl) (Ev.load1 rfl Tryd.underlying3 rfl (fun w hw => ((hC1 w hw (fun p hp => by first | exact hp | simp [hp])).mem a1 rfl).plF hx 1 rfl)) ?_
      refine JL.new rfl rfl rfl (.none rfl) (En.bsN (e := 3) rfl (fun _ => by kernel_rfl)) (fun b29 hb29 => ?_)
      refine JL.gen rfl rfl rfl (.none rfl) (Eg.append1 (z := (.int .i64 0)) (s := 1) (bytes := 8) rfl rfl rfl Cut.k Tryd.underlying28 (by kernel_rfl) rfl (by decide) (by decide) hr (Rds.all memK) rfl (by decide) (ints_one [x.2]) (by omega)) ?_
      rintro _ _ ⟨r30, rfl, rfl, hr30⟩
      refine JL.asg ?_
      refine JL.nil ?_
      refine JQ.blockN ?_
      refine JQ.thenN ?_
      refine JC.region ?_
      refine JL.mv ?_
      refine JL.val rfl rfl rfl (.none rfl) (Ev.bin rfl rfl (add_i64 (by omega))) ?_
      refine JL.asg ?_
      refine JL.nil ?_
      refine JQ.loopN (i + 1, out ++ [x.2], some r30) ?_ ?_ ?_ ?_
      · (dsimp only; (try rw [List.length_append, List.length_singleton]); exact Keeps.k)
      · exact Sub.of_cnt (fun a => by (try dsimp only); simp only [cntA]; omega)
      · exact ⟨by omega, by rw [ho]; exact (inBk_yes hx hq).symm, by rw [List.length_append, ints_snoc]; exact hr30⟩
      · show (unL l).length - (i + 1) < (unL l).length - i; omega
    · -- t22 False
      replace hq := of_decide_eq_false hq
      refine JC.skip ?_
      refine JQ.blockN ?_
      refine JQ.thenN ?_
      refine JC.region ?_
      refine JL.mv ?_
      refine JL.val rfl rfl rfl (.none rfl) (Ev.bin rfl rfl (add_i64 (by omega))) ?_
      refine JL.asg ?_
      refine JL.nil ?_
      refine JQ.loopN (i + 1, out, r) ?_ ?_ ?_ ?_
      · (dsimp only; (try rw [List.length_append, List.length_singleton]); exact Keeps.k)
      · exact Sub.of_cnt (fun a => by (try dsimp only); simp only [cntA]; omega)
      · exact ⟨by omega, by rw [ho]; exact (inBk_no hx hq).symm, hr⟩
      · show (unL l).length - (i + 1) < (unL l).length - i; omega
  · -- t13 False
    replace hc1 := of_decide_eq_false hc1
    obtain rfl : i = (unL l).length := by omega
    refine JC.exit ?_
    refine JQ.thenE ?_
    refine JQ.thenE ?_
    refine JQ.blockE ?_
    refine JQ.thenN ?_
    refine JC.seq ?_
    refine JC.region ?_
    refine JL.mv ?_
    refine JL.asg ?_
    refine JL.nil ?_
    refine JQ.thenN ?_
    refine JC.ret ?_
    refine JQ.end1 (H' := (Row.b 3 r)) (.inl rfl) rfl (.tmp rfl) ?_ ?_
    · exact Sub.of_cnt (fun a => by (try dsimp only); simp only [cntA]; omega)
    · rw [inBk_all] at ho; subst ho; exact ⟨r, rfl, rfl, hr⟩

end Go.Proofs.YtjjoenbighmfoaaDoor
