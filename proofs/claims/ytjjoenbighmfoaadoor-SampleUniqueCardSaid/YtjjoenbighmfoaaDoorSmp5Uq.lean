/-
  Places counted, distinct, in a batch: the program.
-/
import Derived.Test.YtjjoenbighmfoaaDoorSmp4Uq
namespace Go.Proofs.YtjjoenbighmfoaaDoor
open Go Go.RowKit
set_option maxRecDepth 100000

theorem cnt_take {l : List Pl} {i : Nat} {x : Pl} (hx : l[i]? = some x) : cntL (l.take (i + 1)) = bump (cntL (l.take i)) x := by
  rw [List.take_add_one, hx]
  exact cntL_snoc _ _
def inBk (u : List Pl) (i : Nat) (n : Int) : List Int := ((u.take i).filter fun p => decide (p.1 = n)).map Prod.snd
def inB (l : List Pl) (n : Int) : List Int := ((unL l).filter fun p => decide (p.1 = n)).map Prod.snd
theorem inBk_all (l : List Pl) (n : Int) : inBk (unL l) (unL l).length n = inB l n := by rw [inBk, List.take_length]; rfl
theorem inBk_le (u : List Pl) (i : Nat) (n : Int) : (inBk u i n).length ≤ u.length := by
  rw [inBk, List.length_map]
  exact Nat.le_trans (List.length_filter_le _ _) (by rw [List.length_take]; omega)
section
variable {u : List Pl} {i : Nat} {n : Int} {x : Pl}
theorem inBk_yes (hx : u[i]? = some x) (hq : x.1 = n) : inBk u (i + 1) n = inBk u i n ++ [x.2] := by
  rw [inBk, List.take_add_one, hx, List.filter_append, List.map_append]
  simp [inBk, hq]
theorem inBk_no (hx : u[i]? = some x) (hq : ¬ x.1 = n) : inBk u (i + 1) n = inBk u i n := by
  rw [inBk, List.take_add_one, hx, List.filter_append, List.map_append]
  simp [inBk, hq]
theorem ints_snoc (l : List Int) (z : Int) : ints (l ++ [z]) = ints l ++ [.int .i64 z] := by simp [ints]
end

theorem counted_any (oa : Option Addr) (cap : Nat) (l : List Pl) (w : World) (hs : Pz w oa cap l) (hl : l.length ≤ 1100000) :
    Calls Tryd.prog 28 #[.slice oa l.length cap] w (Ret w (fun v H => ∃ (b : Nat) (es : Array MapEntry) (clock : Nat), v = .map (some b) ∧ H = [(b, Obj.map es clock)] ∧ PmOk es clock (cntL l))) := by
  refine enter (vs := [.slice oa l.length cap]) Tryd.func28 rfl Tryd.ntmps28 rfl ?_
  refine JC.seq ?_
  refine JC.region ?_
  refine JL.asg ?_
  refine JL.nil ?_
  refine JQ.thenN ?_
  refine JC.seq ?_
  refine JC.region ?_
  refine JL.new rfl rfl rfl (.none rfl) (En.makeMapP) (fun b6 hb6 => ?_)
  refine JL.asg ?_
  refine JL.nil ?_
  refine JQ.thenN ?_
  refine JC.seq ?_
  refine JC.seq ?_
  refine JC.region ?_
  refine JL.mv ?_
  refine JL.val rfl rfl rfl (.none rfl) (Ev.lenS rfl Tryd.underlying22) ?_
  refine JL.mv ?_
  refine JL.nil ?_
  refine JQ.thenN ?_
  refine JC.block ?_
  refine JC.loop (X := Nat × Array MapEntry × Nat)
    (fun ⟨i, es, clock⟩ => [(3, .map (some b6)), (7, .slice oa l.length cap), (8, .int .i64 (l.length : Int)), (9, .int .i64 (i : Int))])
    (fun ⟨i, es, clock⟩ => [(b6, Obj.map es clock)])
    (fun ⟨i, es, clock⟩ => i ≤ l.length ∧ PmOk es clock (cntL (l.take i)))
    (fun ⟨i, es, clock⟩ => l.length - i) (0, #[], 0) ?_ ?_ ?_ ?_
  · exact Keeps.k
  · exact Sub.all
  · exact ⟨Nat.zero_le _, pm_nil⟩
  rintro ⟨i, es, clock⟩ ⟨hi, hm⟩
  refine JC.seq ?_
  refine JC.region ?_
  refine JL.val rfl rfl rfl (.none rfl) (Ev.bin rfl rfl lss_int) ?_
  refine JL.nil ?_
  refine JQ.thenN ?_
  refine JC.seq ?_
  refine JC.cond rfl (fun hc1 => ?_) (fun hc1 => ?_)
  · -- t10 True
    replace hc1 := of_decide_eq_true hc1
    obtain ⟨a, rfl⟩ := hs.get_some (by omega)
    obtain ⟨x, hx⟩ := get_some (l := l) (k := i) (by omega)
    have hlk := hm.look x
    have hcb := cntP_le (l.take i) x
    rw [← cntL_get] at hcb
    have htl : (l.take i).length ≤ l.length := by rw [List.length_take]; omega
    refine JC.skip ?_
    refine JQ.thenN ?_
    refine JC.seq ?_
    refine JC.block ?_
    refine JC.seq ?_
    refine JC.region ?_
    refine JL.val rfl rfl rfl (.none rfl) (Ev.idxS rfl rfl Tryd.underlying22 Tryd.sizeOf27 (k := i) rfl (by omega)) ?_
    refine JL.val rfl rfl rfl (.none rfl) (Ev.loadA (l := plc x) rfl Tryd.underlying27 rfl Tryd.sizeOf27 (Rds.old ((hs.mem _ rfl).plAt hx)) rfl) ?_
    refine JL.new rfl rfl rfl (.none rfl) (En.allocZ (cs := (plc (0, 0)).toArray) Tryd.zeroValue27 rfl) (fun b5 hb5 => ?_)
    refine JL.sto rfl rfl (.none rfl) (Es.storeA rfl rfl Tryd.sizeOf27 Upd.k rfl rfl (plc_one _)) ?_
    refine JL.nil ?_
    refine JQ.thenN ?_
    refine JC.regionA (by kernel_rfl) ?_
    refine JA.tk 0 rfl (.none rfl) (fun _ => (Ev.move rfl)) ?_
    refine JA.one 1 ?_
    refine JO.val rfl rfl rfl (.none rfl) (Ev.loadB rfl memK Tryd.underlying27 rfl Tryd.sizeOf27 rfl) ?_
    refine JA.branch [2, 4] (by kernel_rfl) rfl ?_
    refine JAll.cons rfl ?_ ?_
    · -- 2
      refine JO.val rfl rfl rfl (.none rfl) (Ev.lookQ rfl rfl Tryd.underlying53 Tryd.underlying27 Tryd.underlying3 Tryd.underlying3 (by kernel_rfl) (by decide) (by decide) Tryd.zeroValue3 memK hlk) ?_
      refine JA.tk 3 rfl (.none rfl) (fun _ => (Ev.bin rfl rfl (add_i64 (by omega)))) ?_
      refine JA.one 4 ?_
      refine JO.gen rfl rfl rfl (.none rfl) (Eg.entryP rfl rfl Tryd.underlying53 Tryd.underlying27 Tryd.underlying3 Tryd.underlying3 (by kernel_rfl) (by decide) (by decide) Tryd.zeroValue3 Cut.k hm) ?_
      rintro _ _ ⟨es2, clock2, s2, rfl, rfl, hmid⟩
      have hlk := hmid.look
      obtain ⟨es3, hm3, hst⟩ := hmid.stamp
      refine JA.tk 5 rfl (.none rfl) (fun _ => (Ev.ex1 rfl)) ?_
      refine JA.one 6 ?_
      refine JO.sto rfl rfl (.none rfl) (Es.stampP rfl rfl rfl Cut.k hst) ?_
      refine JA.done (by kernel_rfl) ?_
      refine JQ.blockN ?_
      refine JQ.thenN ?_
      refine JC.region ?_
      refine JL.val rfl rfl rfl (.none rfl) (Ev.bin rfl rfl (add_i64 (by omega))) ?_
      refine JL.mv ?_
      refine JL.nil ?_
      refine JQ.loopN (i + 1, es3, clock2) ?_ ?_ ?_ ?_
      · exact Keeps.k
      · exact Sub.of_cnt (fun a => by (try dsimp only); simp only [cntA]; omega)
      · exact ⟨by omega, by rw [cnt_take hx]; exact hm3⟩
      · show l.length - (i + 1) < l.length - i; omega
    refine JAll.cons rfl ?_ JAll.nil
    refine JO.gen rfl rfl rfl (.none rfl) (Eg.entryP rfl rfl Tryd.underlying53 Tryd.underlying27 Tryd.underlying3 Tryd.underlying3 (by kernel_rfl) (by decide) (by decide) Tryd.zeroValue3 Cut.k hm) ?_
    rintro _ _ ⟨es2, clock2, s2, rfl, rfl, hmid⟩
    have hlk := hmid.look
    obtain ⟨es3, hm3, hst⟩ := hmid.stamp
    refine JA.tk 5 rfl (.none rfl) (fun _ => (Ev.ex1 rfl)) ?_
    refine JA.one 2 ?_
    refine JO.val rfl rfl rfl (.none rfl) (Ev.lookQ rfl rfl Tryd.underlying53 Tryd.underlying27 Tryd.underlying3 Tryd.underlying3 (by kernel_rfl) (by decide) (by decide) Tryd.zeroValue3 memK hlk) ?_
    refine JA.tk 3 rfl (.none rfl) (fun _ => (Ev.bin rfl rfl (add_i64 (by omega)))) ?_
    refine JA.one 6 ?_
    refine JO.sto rfl rfl (.none rfl) (Es.stampP rfl rfl rfl Cut.k hst) ?_
    refine JA.done (by kernel_rfl) ?_
    refine JQ.blockN ?_
    refine JQ.thenN ?_
    refine JC.region ?_
    refine JL.val rfl rfl rfl (.none rfl) (Ev.bin rfl rfl (add_i64 (by omega))) ?_
    refine JL.mv ?_
    refine JL.nil ?_
    refine JQ.loopN (i + 1, es3, clock2) ?_ ?_ ?_ ?_
    · exact Keeps.k
    · exact Sub.of_cnt (fun a => by (try dsimp only); simp only [cntA]; omega)
    · exact ⟨by omega, by rw [cnt_take hx]; exact hm3⟩
    · show l.length - (i + 1) < l.length - i; omega
  · -- t10 False
    replace hc1 := of_decide_eq_false hc1
    obtain rfl : i = l.length := by omega
    refine JC.exit ?_
    refine JQ.thenE ?_
    refine JQ.thenE ?_
    refine JQ.blockE ?_
    refine JQ.thenN ?_
    refine JC.seq ?_
    refine JC.region ?_
    refine JL.mv ?_
    refine JL.asg ?_
    refine JL.nil ?_
    refine JQ.thenN ?_
    refine JC.ret ?_
    refine JQ.end1 (H' := [(b6, Obj.map es clock)]) (.inl rfl) rfl (.tmp rfl) ?_ ?_
    · exact Sub.all
    · rw [List.take_length] at hm; exact ⟨b6, es, clock, rfl, rfl, hm⟩

theorem sCount_any (oa : Option Addr) (cap : Nat) (l : List Pl) (p : Pl) (w : World) (hs : Pz w oa cap l) (hl : l.length ≤ 1100000) :
    Calls Tryd.prog 11 #[.slice oa l.length cap, .agg (plc p).toArray] w (Ret w (fun v _ => v = .int .i64 (cntP l p))) := by
  refine enter (vs := [.slice oa l.length cap, .agg (plc p).toArray]) Tryd.func11 rfl Tryd.ntmps11 rfl ?_
  refine JC.seq ?_
  refine JC.region ?_
  refine JL.new rfl rfl rfl (.none rfl) (En.boxA rfl) (fun b3 hb3 => ?_)
  refine JL.asg ?_
  refine JL.nil ?_
  refine JQ.thenN ?_
  refine JC.seq ?_
  refine JC.regionA (by kernel_rfl) ?_
  refine JA.tk 0 rfl (.none rfl) (fun _ => (Ev.move rfl)) ?_
  refine JA.branch [1, 2] (by kernel_rfl) rfl ?_
  refine JAll.cons rfl ?_ ?_
  · -- 1
    refine JO.callN rfl (.none rfl) rfl Tryd.call28 (fun w1 hw1 => counted_any oa cap l w1 (hs.old hw1) hl) ?_
    rintro _ _ ⟨bm, es, clock, rfl, rfl, hm⟩
    have hlk := hm.look p
    refine JA.one 2 ?_
    refine JO.val rfl rfl rfl (.none rfl) (Ev.loadB rfl memK Tryd.underlying27 rfl Tryd.sizeOf27 rfl) ?_
    refine JA.one 3 ?_
    refine JO.val rfl rfl rfl (.none rfl) (Ev.lookQ rfl rfl Tryd.underlying53 Tryd.underlying27 Tryd.underlying3 Tryd.underlying3 (by kernel_rfl) (by decide) (by decide) Tryd.zeroValue3 memK hlk) ?_
    refine JA.tk 4 rfl (.none rfl) (fun _ => (Ev.assign rfl)) ?_
    refine JA.done (by kernel_rfl) ?_
    refine JQ.thenN ?_
    refine JC.ret ?_
    refine JQ.end1 (H' := []) (.inl rfl) rfl (.tmp rfl) ?_ ?_
    · exact Sub.k
    · exact congrArg (Value.int .i64) (cntL_get _ _)
  refine JAll.cons rfl ?_ JAll.nil
  refine JO.val rfl rfl rfl (.none rfl) (Ev.loadB rfl memK Tryd.underlying27 rfl Tryd.sizeOf27 rfl) ?_
  refine JA.one 1 ?_
  refine JO.callN rfl (.none rfl) rfl Tryd.call28 (fun w1 hw1 => counted_any oa cap l w1 (hs.old hw1) hl) ?_
  rintro _ _ ⟨bm, es, clock, rfl, rfl, hm⟩
  have hlk := hm.look p
  refine JA.one 3 ?_
  refine JO.val rfl rfl rfl (.none rfl) (Ev.lookQ rfl rfl Tryd.underlying53 Tryd.underlying27 Tryd.underlying3 Tryd.underlying3 (by kernel_rfl) (by decide) (by decide) Tryd.zeroValue3 memK hlk) ?_
  refine JA.tk 4 rfl (.none rfl) (fun _ => (Ev.assign rfl)) ?_
  refine JA.done (by kernel_rfl) ?_
  refine JQ.thenN ?_
  refine JC.ret ?_
  refine JQ.end1 (H' := []) (.inl rfl) rfl (.tmp rfl) ?_ ?_
  · exact Sub.k
  · exact congrArg (Value.int .i64) (cntL_get _ _)

theorem sUnique_any (oa : Option Addr) (cap : Nat) (l : List Pl) (w : World) (hs : Pz w oa cap l) (hl : l.length ≤ 1100000) :
    Calls Tryd.prog 10 #[.slice oa l.length cap] w (Ret w (fun v H => ∃ r : Option Row, v = Row.v (unL l).length r ∧ H = Row.b 27 r ∧ Row.ok 2 (unL l).length (pf (unL l)) r)) := by
  refine enter (vs := [.slice oa l.length cap]) Tryd.func10 rfl Tryd.ntmps10 rfl ?_
  refine JC.seq ?_
  refine JC.region ?_
  refine JL.asg ?_
  refine JL.nil ?_
  refine JQ.thenN ?_
  refine JC.seq ?_
  refine JC.seq ?_
  refine JC.region ?_
  refine JL.mv ?_
  refine JL.callN rfl (.none rfl) rfl Tryd.call28 (fun w1 hw1 => counted_any oa cap l w1 (hs.old hw1) hl) ?_
  rintro _ _ ⟨bm, es, clock, rfl, rfl, hm⟩
  refine JL.new rfl rfl rfl (.none rfl) (En.rangeP rfl Tryd.underlying53 memK) (fun b6 hb6 => ?_)
  refine JL.nil ?_
  refine JQ.thenN ?_
  refine JC.block ?_
  refine JC.loop (X := Array Nat × List Pl × Option Row)
    (fun ⟨seen, out, r⟩ => [(2, Row.v out.length r), (6, .pointer (some ⟨b6, 0, none⟩))])
    (fun ⟨seen, out, r⟩ => Row.b 27 r ++ [(b6, Obj.mapIter (some bm) clock seen clock), (bm, Obj.map es clock)])
    (fun ⟨seen, out, r⟩ => Row.ok 2 out.length (pf out) r ∧ UnI es (cntL l) seen out)
    (fun ⟨seen, out, r⟩ => (cntL l).length - out.length) (#[], [], none) ?_ ?_ ?_ ?_
  · exact Keeps.k
  · exact Sub.all
  · exact ⟨Row.ok0, UnI.zero⟩
  rintro ⟨seen, out, r⟩ ⟨hr, hI⟩
  refine JC.seq ?_
  refine JC.region ?_
  refine JL.gen rfl rfl rfl (.none rfl) (Eg.nextP (b := bm) (es := es) rfl memK Cut.k hm.lt) ?_
  rintro _ _ ⟨t, e, rfl, rfl, hT, hF⟩
  rw [List.append_assoc]
  refine JL.val rfl rfl rfl (.none rfl) (Ev.extract rfl (nx0 _ _ _)) ?_
  refine JL.nil ?_
  refine JQ.thenN ?_
  refine JC.seq ?_
  refine JC.cond rfl (fun ht => ?_) (fun ht => ?_)
  · -- t8 True
    subst ht
    rw [if_pos rfl]
    obtain ⟨he, hns⟩ := hT rfl
    obtain ⟨p, hpk, hpe⟩ := hm.keyOf he
    have hst := hI.step hm (cntL_nodup l) he hns hpe hpk
    have hob := hst.le
    rw [List.length_append, List.length_singleton] at hob
    have hcl := cntL_le l
    refine JC.skip ?_
    refine JQ.thenN ?_
    refine JC.block ?_
    refine JC.seq ?_
    refine JC.region ?_
    refine JL.val rfl rfl rfl (.none rfl) (Ev.entryOf (seen := seen) (e := e) (es := es) (clock := clock) (b := bm) (i := b6) rfl memK memK he hm.nd) ?_
    refine JL.re (d := 9) (v' := .tuple #[.agg (plc p).toArray, e.val]) rfl (by rw [hpe]; rfl) ?_
    refine JL.val rfl rfl rfl (.none rfl) (Ev.ex0 rfl) ?_
    refine JL.new rfl rfl rfl (.none rfl) (En.allocZ (cs := (plc (0, 0)).toArray) Tryd.zeroValue27 rfl) (fun b3 hb3 => ?_)
    refine JL.sto rfl rfl (.none rfl) (Es.storeA rfl rfl Tryd.sizeOf27 Upd.k rfl rfl (plc_one _)) ?_
    refine JL.nil ?_
    refine JQ.thenN ?_
    refine JC.region ?_
    refine JL.mv ?_
    refine JL.val rfl rfl rfl (.none rfl) (Ev.loadB rfl memK Tryd.underlying27 rfl Tryd.sizeOf27 rfl) ?_
    refine JL.new rfl rfl rfl (.none rfl) (En.bs1Pl (p := p) rfl Tryd.underlying22 Tryd.sizeOf27 Tryd.zeroValue27) (fun b13 hb13 => ?_)
    refine JL.gen rfl rfl rfl (.none rfl) (Eg.append1 (r := r) (n := out.length) (xs := pf out) (news := pf [p]) (z := (.agg #[.int .i64 0, .int .i64 0])) (s := 2) (bytes := 16) rfl rfl rfl Cut.k Tryd.underlying22 (by kernel_rfl) rfl (by decide) (by decide) hr (Rds.all memK) rfl (by decide) (pf_one _) (by omega)) ?_
    rintro _ _ ⟨rn, rfl, rfl, hrn⟩
    refine JL.asg ?_
    refine JL.nil ?_
    refine JQ.blockN ?_
    refine JQ.loopN (seen.push e.born, out ++ [p], some rn) ?_ ?_ ?_ ?_
    · (dsimp only; rw [List.length_append, List.length_singleton]; exact Keeps.k)
    · exact Sub.of_cnt (fun a => by (try dsimp only); simp only [cntA]; omega)
    · exact ⟨by rw [List.length_append, pf_append]; exact hrn, hst⟩
    · show (cntL l).length - (out ++ [p]).length < (cntL l).length - out.length; rw [List.length_append, List.length_singleton]; omega
  · -- t8 False
    subst ht
    rw [if_neg (by decide)]
    have hF := hF rfl
    have hso := hI.done hm hF
    have hle := hI.le
    have hcl := cntL_le l
    refine JC.exit ?_
    refine JQ.thenE ?_
    refine JQ.thenE ?_
    refine JQ.blockE ?_
    refine JQ.thenN ?_
    refine JC.seq ?_
    refine JC.region ?_
    refine JL.mv ?_
    refine JL.call rfl (.none rfl) rfl Tryd.call29 (fun w1 hw1 => sort_any (w0 := w) Cut.k hr (by omega) hw1) ?_
    rintro _ _ ⟨rfl, r2, hv2, rfl, hr2⟩
    refine JL.nil ?_
    refine JQ.thenN ?_
    refine JC.seq ?_
    refine JC.region ?_
    refine JL.mv ?_
    refine JL.asg ?_
    refine JL.nil ?_
    refine JQ.thenN ?_
    refine JC.ret ?_
    refine JQ.end1 (H' := (Row.b 27 r2)) (.inl rfl) rfl (.tmp rfl) ?_ ?_
    · exact Sub.of_cnt (fun a => by (try dsimp only); simp only [cntA]; omega)
    · rw [hso] at hr2; have hlen : out.length = (unL l).length := (by rw [← hso, srtP_length]); rw [hlen] at hr2 hv2; exact ⟨r2, by rw [hlen]; exact hv2.symm, rfl, hr2⟩

theorem sInBatch_any (oa : Option Addr) (cap : Nat) (l : List Pl) (n : Int) (w : World) (hs : Pz w oa cap l) (hl : l.length ≤ 1100000) :
    Calls Tryd.prog 12 #[.slice oa l.length cap, .int .i64 n] w (Ret w (fun v H => ∃ r : Option Row, v = Row.v (inB l n).length r ∧ H = Row.b 3 r ∧ Row.ok 1 (inB l n).length (ints (inB l n)) r)) := by
  refine enter (vs := [.slice oa l.length cap, .int .i64 n]) Tryd.func12 rfl Tryd.ntmps12 rfl ?_
  refine JC.seq ?_
  refine JC.region ?_
  refine JL.asg ?_
  refine JL.nil ?_
  refine JQ.thenN ?_
  refine JC.seq ?_
  refine JC.seq ?_
  refine JC.region ?_
  refine JL.mv ?_
  refine JL.callN rfl (.none rfl) rfl Tryd.call10 (fun w1 hw1 => sUnique_any oa cap l w1 (hs.old hw1) hl) ?_
  rintro _ _ ⟨r1, rfl, rfl, hr1⟩
  obtain ⟨o1, c1, e1, hn1, hC1⟩ := Row.vw (e := 27) hr1
  refine JL.re (d := 8) rfl e1 ?_
  refine JL.val rfl rfl rfl (.none rfl) (Ev.lenS rfl Tryd.underlying22) ?_
  refine JL.mv ?_
  refine JL.nil ?_
  refine JQ.thenN ?_
  refine JC.block ?_
  refine JC.loop (X := Nat × List Int × Option Row)
    (fun ⟨i, out, r⟩ => [(1, .int .i64 n), (4, Row.v out.length r), (8, .slice o1 (unL l).length c1), (9, .int .i64 ((unL l).length : Int)), (10, .int .i64 (i : Int))])
    (fun ⟨i, out, r⟩ => Row.b 27 r1 ++ Row.b 3 r)
    (fun ⟨i, out, r⟩ => i ≤ (unL l).length ∧ out = inBk (unL l) i n ∧ Row.ok 1 out.length (ints out) r)
    (fun ⟨i, out, r⟩ => (unL l).length - i) (0, [], none) ?_ ?_ ?_ ?_
  · exact Keeps.k
  · exact Sub.of_cnt (fun a => by (try dsimp only); simp only [cntA]; omega)
  · exact ⟨Nat.zero_le _, rfl, Row.ok0⟩
  rintro ⟨i, out, r⟩ ⟨hi, ho, hr⟩
  refine JC.seq ?_
  refine JC.region ?_
  refine JL.val rfl rfl rfl (.none rfl) (Ev.bin rfl rfl lss_int) ?_
  refine JL.nil ?_
  refine JQ.thenN ?_
  refine JC.seq ?_
  refine JC.cond rfl (fun hc1 => ?_) (fun hc1 => ?_)
  · -- t11 True
    replace hc1 := of_decide_eq_true hc1
    have hul := unL_le l
    obtain ⟨a1, rfl⟩ : ∃ a, o1 = some a := by cases o1 with | none => (have := hn1 rfl; omega) | some a => exact ⟨a, rfl⟩
    obtain ⟨x, hx⟩ := get_some (l := unL l) (k := i) (by omega)
    have hol := inBk_le (unL l) i n
    rw [← ho] at hol
    refine JC.skip ?_
    refine JQ.thenN ?_
    refine JC.seq ?_
    refine JC.block ?_
    refine JC.seq ?_
    refine JC.region ?_
    refine JL.val rfl rfl rfl (.none rfl) (Ev.idxS rfl rfl Tryd.underlying22 Tryd.sizeOf27 (k := i) rfl (by omega)) ?_
    refine JL.val rfl rfl rfl (.none rfl) (Ev.loadA (l := plc x) rfl Tryd.underlying27 rfl Tryd.sizeOf27 (fun w hw => ((hC1 w hw (fun p hp => by simp [hp])).mem a1 rfl).plAt hx) rfl) ?_
    refine JL.new rfl rfl rfl (.none rfl) (En.allocZ (cs := (plc (0, 0)).toArray) Tryd.zeroValue27 rfl) (fun b6 hb6 => ?_)
    refine JL.sto rfl rfl (.none rfl) (Es.storeA rfl rfl Tryd.sizeOf27 Upd.k rfl rfl (plc_one _)) ?_
    refine JL.nil ?_
    refine JQ.thenN ?_
    refine JC.seq ?_
    refine JC.region ?_
    refine JL.val rfl rfl rfl (.none rfl) (Ev.fld 0 rfl (fun _ _ => by kernel_rfl)) ?_
    refine JL.val rfl rfl rfl (.none rfl) (Ev.load1 rfl Tryd.underlying3 rfl (Rd.own memK rfl)) ?_
    refine JL.mv ?_
    refine JL.val rfl rfl rfl (.none rfl) (Ev.bin rfl rfl eql_int) ?_
    refine JL.nil ?_
    refine JQ.thenN ?_
    refine JC.cond rfl (fun hq => ?_) (fun hq => ?_)
    · -- t17 True
      replace hq := of_decide_eq_true hq
      refine JC.region ?_
      refine JL.mv ?_
      refine JL.val rfl rfl rfl (.none rfl) (Ev.fld 1 rfl (fun _ _ => by kernel_rfl)) ?_
      refine JL.val rfl rfl rfl (.none rfl) (Ev.load1 rfl Tryd.underlying3 rfl (Rd.own memK rfl)) ?_
      refine JL.new rfl rfl rfl (.none rfl) (En.bsN (e := 3) rfl (fun _ => by kernel_rfl)) (fun b21 hb21 => ?_)
      refine JL.gen rfl rfl rfl (.none rfl) (Eg.append1 (z := (.int .i64 0)) (s := 1) (bytes := 8) rfl rfl rfl Cut.k Tryd.underlying28 (by kernel_rfl) rfl (by decide) (by decide) hr (Rds.all memK) rfl (by decide) (ints_one [x.2]) (by omega)) ?_
      rintro _ _ ⟨r22, rfl, rfl, hr22⟩
      refine JL.asg ?_
      refine JL.nil ?_
      refine JQ.blockN ?_
      refine JQ.thenN ?_
      refine JC.region ?_
      refine JL.val rfl rfl rfl (.none rfl) (Ev.bin rfl rfl (add_i64 (by omega))) ?_
      refine JL.mv ?_
      refine JL.nil ?_
      refine JQ.loopN (i + 1, out ++ [x.2], some r22) ?_ ?_ ?_ ?_
      · (dsimp only; (try rw [List.length_append, List.length_singleton]); exact Keeps.k)
      · exact Sub.of_cnt (fun a => by (try dsimp only); simp only [cntA]; omega)
      · exact ⟨by omega, by rw [ho]; exact (inBk_yes hx hq).symm, by rw [List.length_append, ints_snoc]; exact hr22⟩
      · show (unL l).length - (i + 1) < (unL l).length - i; omega
    · -- t17 False
      replace hq := of_decide_eq_false hq
      refine JC.skip ?_
      refine JQ.blockN ?_
      refine JQ.thenN ?_
      refine JC.region ?_
      refine JL.val rfl rfl rfl (.none rfl) (Ev.bin rfl rfl (add_i64 (by omega))) ?_
      refine JL.mv ?_
      refine JL.nil ?_
      refine JQ.loopN (i + 1, out, r) ?_ ?_ ?_ ?_
      · (dsimp only; (try rw [List.length_append, List.length_singleton]); exact Keeps.k)
      · exact Sub.of_cnt (fun a => by (try dsimp only); simp only [cntA]; omega)
      · exact ⟨by omega, by rw [ho]; exact (inBk_no hx hq).symm, hr⟩
      · show (unL l).length - (i + 1) < (unL l).length - i; omega
  · -- t11 False
    replace hc1 := of_decide_eq_false hc1
    obtain rfl : i = (unL l).length := by omega
    refine JC.exit ?_
    refine JQ.thenE ?_
    refine JQ.thenE ?_
    refine JQ.blockE ?_
    refine JQ.thenN ?_
    refine JC.seq ?_
    refine JC.region ?_
    refine JL.mv ?_
    refine JL.asg ?_
    refine JL.nil ?_
    refine JQ.thenN ?_
    refine JC.ret ?_
    refine JQ.end1 (H' := (Row.b 3 r)) (.inl rfl) rfl (.tmp rfl) ?_ ?_
    · exact Sub.of_cnt (fun a => by (try dsimp only); simp only [cntA]; omega)
    · rw [inBk_all] at ho; subst ho; exact ⟨r, rfl, rfl, hr⟩

end Go.Proofs.YtjjoenbighmfoaaDoor
