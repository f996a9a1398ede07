/-
  Fields joined, in the program and in the reference.
-/
import Derived.Test.YtegcdgpkoombmaaDoorOct2
namespace Go.Proofs.YtegcdgpkoombmaaDoor
open Go Go.RowKit
set_option maxRecDepth 100000

theorem Cut.tl {A X : Blocks} : Cut A (X ++ A) X := by
  induction X with
  | nil => exact .last
  | cons x X ih => exact .there ih
theorem sub_left {A B : Blocks} : Sub A (A ++ B) := by
  induction A with
  | nil => exact .nil
  | cons x A ih => exact .cons .here ih
theorem Row.bs {w0 : World} {e : TypeId} {n : Nat} {l : List UInt8} {r : Option Row} (h : Row.ok 1 n (l.map u8) r) : ∃ oa cap, Row.v n r = .slice oa l.length cap ∧ ∀ {H : Blocks} (w : World), Hp w0 H w → (∀ p ∈ Row.b e r, p ∈ H) → Bs w oa cap l := by
  cases r with
  | none =>
    obtain ⟨rfl, h2⟩ := h
    obtain rfl : l = [] := by simpa using h2
    exact ⟨none, 0, rfl, fun _ _ _ => bs_nil⟩
  | some r =>
    have hn : n = l.length := by have := h.1; simpa using this.symm
    subst hn
    exact ⟨some ⟨r.g, 0, none⟩, r.cap, rfl, fun w hw hm => ⟨h.2.1, h.2.2.1, fun h => (by cases h), fun a ha => by
      cases ha
      refine Mem.own hw (hm _ (List.mem_cons_self ..)) fun j v hj => ?_
      rw [← h.2.2.2.2, List.getElem?_take] at hj
      split at hj
      · simpa using hj
      · cases hj⟩⟩

theorem rJoin_any (oa : Option Addr) (cap : Nat) (ps : List Part) (w : World) (hps : Ps w oa cap ps) (hn : ps.length ≤ 1000) (hpl : ∀ p ∈ ps, p.l.length ≤ 100000) :
    Calls Tryd.prog 28 #[.slice oa ps.length cap] w (Ret w (fun v H => ∃ r : Option Row, v = .tuple #[Row.v (joinO ps).length r, .int .i64 (if 16384 < tot ps ps.length then 4 else 0)] ∧ H = Row.b 5 r ∧ Row.ok 1 (joinO ps).length ((joinO ps).map u8) r)) := by
  refine enter (vs := [.slice oa ps.length cap]) Tryd.func28 rfl Tryd.ntmps28 rfl ?_
  refine JC.seq ?_
  -- region 0
  refine JC.region ?_
  refine JL.val rfl rfl rfl (.none rfl) (Ev.assign rfl) ?_
  refine JL.val rfl rfl rfl (.none rfl) (Ev.assign rfl) ?_
  refine JL.nil ?_
  refine JQ.thenN ?_
  refine JC.seq ?_
  -- region 1
  refine JC.region ?_
  refine JL.val rfl rfl rfl (.none rfl) (Ev.assign rfl) ?_
  refine JL.nil ?_
  refine JQ.thenN ?_
  refine JC.seq ?_
  refine JC.seq ?_
  -- region 2
  refine JC.region ?_
  refine JL.val rfl rfl rfl (.none rfl) (Ev.assign rfl) ?_
  refine JL.nil ?_
  refine JQ.thenN ?_
  refine JC.block ?_
  refine JC.loop (X := Nat)
    (fun k => [(0, .slice oa ps.length cap), (4, .int .i64 (tot ps k : Int)), (5, .int .i64 (k : Int))])
    (fun k => [])
    (fun k => k ≤ ps.length ∧ tot ps k ≤ 16384)
    (fun k => ps.length - k) 0 ?_ ?_ ?_ ?_
  · exact Keeps.get (by repeat (first | exact Keeps.nil | refine Keeps.cons rfl ?_))
  · first | exact Sub.all | exact Sub.of_cnt (fun a => by simp only [cnt_append, cnt_cons, cnt_nil, List.nil_append, List.append_nil]; omega) | repeat (first | exact Sub.nil | refine Sub.cons (by first | exact .here | exact .there .here | exact .there (.there .here) | exact .there (.there (.there .here)) | exact .there (.there (.there (.there .here)))) ?_ | exact Sub.all)
  · exact ⟨Nat.zero_le _, Nat.zero_le _⟩
  rintro k ⟨hk, hkt⟩
  refine JC.seq ?_
  refine JC.seq ?_
  -- region 3
  refine JC.region ?_
  refine JL.val rfl rfl rfl (.none rfl) (Ev.move rfl) ?_
  refine JL.val rfl rfl rfl (.none rfl) (Ev.move rfl) ?_
  refine JL.val rfl rfl rfl (.none rfl) (Ev.lenS rfl Tryd.underlying22) ?_
  refine JL.val rfl rfl rfl (.none rfl) (Ev.bin rfl rfl lss_int) ?_
  refine JL.nil ?_
  refine JQ.thenN ?_
  refine JC.cond rfl (fun hc1 => ?_) (fun hc1 => ?_)
  · -- t11 True
    replace hc1 := of_decide_eq_true hc1
    have hkn : k < ps.length := by omega
    obtain ⟨p, hp⟩ : ∃ p, ps[k]? = some p := ⟨ps[k], List.getElem?_eq_getElem hkn⟩
    have hat := Part.at hp
    have hmp := List.mem_of_getElem? hp
    have hpb := hpl p hmp
    have hts := tot_succ ps hp
    have htl := tot_le ps (k + 1)
    obtain ⟨a, rfl⟩ := hps.get_some (by omega)
    refine JC.skip ?_
    refine JQ.thenN ?_
    refine JC.seq ?_
    refine JC.block ?_
    refine JC.seq ?_
    -- region 5
    refine JC.region ?_
    refine JL.val rfl rfl rfl (.none rfl) (Ev.move rfl) ?_
    refine JL.val rfl rfl rfl (.none rfl) (Ev.bin rfl rfl (add_i64 (by omega))) ?_
    refine JL.val rfl rfl rfl (.none rfl) (Ev.move rfl) ?_
    refine JL.val rfl rfl rfl (.none rfl) (Ev.move rfl) ?_
    refine JL.val rfl rfl rfl (.none rfl) (Ev.idxS1 rfl rfl Tryd.underlying22 Tryd.sizeOf23 (k := k) rfl (by omega)) ?_
    refine JL.val rfl rfl rfl (.none rfl) (Ev.load1 rfl Tryd.underlying23 rfl (Rd.old ((hps.mem a rfl) k _ hat))) ?_
    refine JL.val rfl rfl rfl (.none rfl) (Ev.lenS rfl Tryd.underlying23) ?_
    refine JL.val rfl rfl rfl (.none rfl) (Ev.bin rfl rfl (add_i64 (by omega))) ?_
    refine JL.val rfl rfl rfl (.none rfl) (Ev.assign rfl) ?_
    refine JL.re (d := 4) (v' := .int .i64 (tot ps (k + 1) : Int)) rfl (congrArg (Value.int .i64) (by omega)) ?_
    refine JL.re (d := 4) (v' := .int .i64 (tot ps (k + 1) : Int)) rfl rfl ?_
    refine JL.nil ?_
    refine JQ.thenN ?_
    refine JC.seq ?_
    -- region 6
    refine JC.region ?_
    refine JL.val rfl rfl rfl (.none rfl) (Ev.move rfl) ?_
    refine JL.val rfl rfl rfl (.none rfl) (Ev.bin rfl rfl gtr_int) ?_
    refine JL.nil ?_
    refine JQ.thenN ?_
    refine JC.cond rfl (fun hc2 => ?_) (fun hc2 => ?_)
    · -- t23 True
      replace hc2 := of_decide_eq_true hc2
      have hbad : 16384 < tot ps ps.length := by omega
      refine JC.seq ?_
      -- region 7
      refine JC.region ?_
      refine JL.val rfl rfl rfl (.none rfl) (Ev.assign rfl) ?_
      refine JL.val rfl rfl rfl (.none rfl) (Ev.assign rfl) ?_
      refine JL.nil ?_
      refine JQ.thenN ?_
      refine JC.ret ?_
      refine JQ.blockR ?_
      refine JQ.thenR ?_
      refine JQ.thenR ?_
      refine JQ.blockR ?_
      refine JQ.thenR ?_
      refine JQ.end2 (H' := []) (.inl rfl) rfl (.tmp rfl) (.tmp rfl) ?_ ?_
      · first | exact Sub.all | exact Sub.nil
      · exact ⟨none, by rw [joinO_bad hbad, if_pos hbad]; rfl, rfl, by rw [joinO_bad hbad]; exact ⟨rfl, rfl⟩⟩
    · -- t23 False
      replace hc2 := of_decide_eq_false hc2
      refine JC.skip ?_
      refine JQ.blockN ?_
      refine JQ.thenN ?_
      -- region 4
      refine JC.region ?_
      refine JL.val rfl rfl rfl (.none rfl) (Ev.move rfl) ?_
      refine JL.val rfl rfl rfl (.none rfl) (Ev.bin rfl rfl (add_i64 (by omega))) ?_
      refine JL.val rfl rfl rfl (.none rfl) (Ev.assign rfl) ?_
      refine JL.nil ?_
      refine JQ.loopN (k + 1) ?_ ?_ ?_ ?_
      · exact Keeps.get (by repeat (first | exact Keeps.nil | refine Keeps.cons rfl ?_))
      · first | exact Sub.all | exact Sub.of_cnt (fun a => by simp only [cnt_append, cnt_cons, cnt_nil, List.nil_append, List.append_nil]; omega) | repeat (first | exact Sub.nil | refine Sub.cons (by first | exact .here | exact .there .here | exact .there (.there .here) | exact .there (.there (.there .here)) | exact .there (.there (.there (.there .here)))) ?_ | exact Sub.all)
      · exact ⟨by omega, by omega⟩
      · omega
  · -- t11 False
    replace hc1 := of_decide_eq_false hc1
    obtain rfl : k = ps.length := by omega
    have hok : ¬ 16384 < tot ps ps.length := by omega
    refine JC.exit ?_
    refine JQ.thenE ?_
    refine JQ.thenE ?_
    refine JQ.blockE ?_
    refine JQ.thenN ?_
    refine JC.seq ?_
    -- region 8
    refine JC.region ?_
    refine JL.val rfl rfl rfl (.none rfl) (Ev.assign rfl) ?_
    refine JL.nil ?_
    refine JQ.thenN ?_
    refine JC.seq ?_
    refine JC.seq ?_
    -- region 9
    refine JC.region ?_
    refine JL.val rfl rfl rfl (.none rfl) (Ev.assign rfl) ?_
    refine JL.nil ?_
    refine JQ.thenN ?_
    refine JC.block ?_
    refine JC.loop (X := Nat × Option Row)
      (fun ⟨j, q⟩ => [(0, .slice oa ps.length cap), (6, Row.v (tot ps j) q), (7, .int .i64 (j : Int))])
      (fun ⟨j, q⟩ => Row.b 5 q)
      (fun ⟨j, q⟩ => j ≤ ps.length ∧ Row.ok 1 (tot ps j) ((jn ps j).map u8) q)
      (fun ⟨j, q⟩ => ps.length - j) (0, none) ?_ ?_ ?_ ?_
    · exact Keeps.get (by repeat (first | exact Keeps.nil | refine Keeps.cons rfl ?_))
    · exact Sub.nil
    · exact ⟨Nat.zero_le _, rfl, rfl⟩
    rintro ⟨j, q⟩ ⟨hj, hq⟩
    refine JC.seq ?_
    refine JC.seq ?_
    -- region 10
    refine JC.region ?_
    refine JL.val rfl rfl rfl (.none rfl) (Ev.move rfl) ?_
    refine JL.val rfl rfl rfl (.none rfl) (Ev.move rfl) ?_
    refine JL.val rfl rfl rfl (.none rfl) (Ev.lenS rfl Tryd.underlying22) ?_
    refine JL.val rfl rfl rfl (.none rfl) (Ev.bin rfl rfl lss_int) ?_
    refine JL.nil ?_
    refine JQ.thenN ?_
    refine JC.cond rfl (fun hc3 => ?_) (fun hc3 => ?_)
    · -- t27 True
      replace hc3 := of_decide_eq_true hc3
      have hkn : j < ps.length := by omega
      obtain ⟨p, hp⟩ : ∃ p, ps[j]? = some p := ⟨ps[j], List.getElem?_eq_getElem hkn⟩
      have hat := Part.at hp
      have hmp := List.mem_of_getElem? hp
      have hpb := hpl p hmp
      have hts := tot_succ ps hp
      have htl := tot_le ps (j + 1)
      obtain ⟨a, rfl⟩ := hps.get_some (by omega)
      refine JC.skip ?_
      refine JQ.thenN ?_
      refine JC.seq ?_
      refine JC.block ?_
      -- region 12
      refine JC.region ?_
      refine JL.val rfl rfl rfl (.none rfl) (Ev.move rfl) ?_
      refine JL.val rfl rfl rfl (.none rfl) (Ev.move rfl) ?_
      refine JL.val rfl rfl rfl (.none rfl) (Ev.move rfl) ?_
      refine JL.val rfl rfl rfl (.none rfl) (Ev.idxS1 rfl rfl Tryd.underlying22 Tryd.sizeOf23 (k := j) rfl (by omega)) ?_
      refine JL.val rfl rfl rfl (.none rfl) (Ev.load1 rfl Tryd.underlying23 rfl (Rd.old ((hps.mem a rfl) j _ hat))) ?_
      refine JL.callN rfl (.none rfl) rfl Tryd.call36 (fun w1 hw1 => field_any p.o p.cap p.l w1 ((hps.each p hmp).old hw1) (by omega)) ?_
      rintro _ _ ⟨r1, rfl, rfl, hr1⟩
      obtain ⟨oq, cq, eq1, hq0, hq1⟩ := Row.sl (e := 5) hr1
      refine JL.re (d := 35) rfl eq1 ?_
      refine JL.gen rfl rfl rfl (.none rfl) (Eg.append (r := q) (n := tot ps j) (m := (fieldB p.l).length) (xs := (jn ps j).map u8) (news := ((fieldB p.l).map u8)) (z := (.int .u8 0)) (s := 1) (bytes := 1) rfl rfl rfl Cut.tl Tryd.underlying23 (by kernel_rfl) rfl (by decide) (by decide) hq (by simp) (fun ad had => hq1 _ _ (fun x hx => List.mem_append_left _ hx) ad had) (fun h => hq0 h) (u8s_one _) (by rw [fieldB_length]; omega)) ?_
      rintro _ _ ⟨q3, rfl, rfl, hq3, hn1⟩
      refine JL.val rfl rfl rfl (.none rfl) (Ev.assign rfl) ?_
      refine JL.nil ?_
      refine JQ.blockN ?_
      refine JQ.thenN ?_
      -- region 11
      refine JC.region ?_
      refine JL.val rfl rfl rfl (.none rfl) (Ev.move rfl) ?_
      refine JL.val rfl rfl rfl (.none rfl) (Ev.bin rfl rfl (add_i64 (by omega))) ?_
      refine JL.val rfl rfl rfl (.none rfl) (Ev.assign rfl) ?_
      refine JL.nil ?_
      refine JQ.re (d := 6) (v' := Row.v (tot ps (j + 1)) q3) rfl (by rw [hts, fieldB_length, Nat.add_assoc]) ?_
      refine JQ.loopN (j + 1, q3) ?_ ?_ ?_ ?_
      · exact Keeps.get (by repeat (first | exact Keeps.nil | refine Keeps.cons rfl ?_))
      · exact Sub.tailAll
      · exact ⟨by omega, by rw [hts, jn_succ ps hp, Nat.add_assoc, ← fieldB_length]; simpa using hq3⟩
      · show ps.length - (j + 1) < ps.length - j; omega
    · -- t27 False
      replace hc3 := of_decide_eq_false hc3
      obtain rfl : j = ps.length := by omega
      refine JC.exit ?_
      refine JQ.thenE ?_
      refine JQ.thenE ?_
      refine JQ.blockE ?_
      refine JQ.thenN ?_
      refine JC.seq ?_
      -- region 13
      refine JC.region ?_
      refine JL.val rfl rfl rfl (.none rfl) (Ev.move rfl) ?_
      refine JL.val rfl rfl rfl (.none rfl) (Ev.assign rfl) ?_
      refine JL.val rfl rfl rfl (.none rfl) (Ev.assign rfl) ?_
      refine JL.nil ?_
      refine JQ.thenN ?_
      refine JC.ret ?_
      refine JQ.end2 (H' := (Row.b 5 q)) (.inl rfl) rfl (.tmp rfl) (.tmp rfl) ?_ ?_
      · first | exact Sub.all | exact Sub.nil
      · exact ⟨q, by rw [joinO_ok hok, if_neg hok]; rfl, rfl, by rw [joinO_ok hok]; exact hq⟩

theorem Join_any (oa : Option Addr) (cap : Nat) (ps : List Part) (w : World) (hps : Ps w oa cap ps) (hn : ps.length ≤ 1000) (hpl : ∀ p ∈ ps, p.l.length ≤ 100000) :
    Calls Tryd.prog 26 #[.slice oa ps.length cap] w (Ret w (fun v H => ∃ r : Option Row, v = .tuple #[Row.v (joinO ps).length r, .int .i64 (if 16384 < tot ps ps.length then 4 else 0)] ∧ H = Row.b 5 r ∧ Row.ok 1 (joinO ps).length ((joinO ps).map u8) r)) := by
  refine enter (vs := [.slice oa ps.length cap]) Tryd.func26 rfl Tryd.ntmps26 rfl ?_
  refine JC.seq ?_
  -- region 0
  refine JC.region ?_
  refine JL.val rfl rfl rfl (.none rfl) (Ev.assign rfl) ?_
  refine JL.val rfl rfl rfl (.none rfl) (Ev.assign rfl) ?_
  refine JL.nil ?_
  refine JQ.thenN ?_
  refine JC.seq ?_
  refine JC.seq ?_
  -- region 1
  refine JC.region ?_
  refine JL.val rfl rfl rfl (.none rfl) (Ev.move rfl) ?_
  refine JL.val rfl rfl rfl (.none rfl) (Ev.lenS rfl Tryd.underlying22) ?_
  refine JL.val rfl rfl rfl (.none rfl) (Ev.move rfl) ?_
  refine JL.nil ?_
  refine JQ.thenN ?_
  refine JC.block ?_
  refine JC.loop (X := Nat × Option Row)
    (fun ⟨k, q⟩ => [(2, Row.v (tot ps k) q), (3, .int .i64 0), (6, .slice oa ps.length cap), (7, .int .i64 (ps.length : Int)), (8, .int .i64 (k : Int))])
    (fun ⟨k, q⟩ => Row.b 5 q)
    (fun ⟨k, q⟩ => k ≤ ps.length ∧ tot ps k ≤ 16384 ∧ Row.ok 1 (tot ps k) ((jn ps k).map u8) q)
    (fun ⟨k, q⟩ => ps.length - k) (0, none) ?_ ?_ ?_ ?_
  · exact Keeps.get (by repeat (first | exact Keeps.nil | refine Keeps.cons rfl ?_))
  · exact Sub.nil
  · exact ⟨Nat.zero_le _, Nat.zero_le _, rfl, rfl⟩
  rintro ⟨k, q⟩ ⟨hk, hkt, hq⟩
  refine JC.seq ?_
  -- region 2
  refine JC.region ?_
  refine JL.val rfl rfl rfl (.none rfl) (Ev.bin rfl rfl lss_int) ?_
  refine JL.nil ?_
  refine JQ.thenN ?_
  refine JC.seq ?_
  refine JC.cond rfl (fun hc1 => ?_) (fun hc1 => ?_)
  · -- t9 True
    replace hc1 := of_decide_eq_true hc1
    have hkn : k < ps.length := by omega
    obtain ⟨p, hp⟩ : ∃ p, ps[k]? = some p := ⟨ps[k], List.getElem?_eq_getElem hkn⟩
    have hat := Part.at hp
    have hmp := List.mem_of_getElem? hp
    have hpb := hpl p hmp
    have hts := tot_succ ps hp
    have htl := tot_le ps (k + 1)
    obtain ⟨a, rfl⟩ := hps.get_some (by omega)
    obtain ⟨ob, cb, e1, hB⟩ := Row.bs (w0 := w) (e := 5) (l := jn ps k) hq
    refine JC.skip ?_
    refine JQ.thenN ?_
    refine JC.seq ?_
    refine JC.block ?_
    refine JC.seq ?_
    -- region 3
    refine JC.region ?_
    refine JL.val rfl rfl rfl (.none rfl) (Ev.idxS1 rfl rfl Tryd.underlying22 Tryd.sizeOf23 (k := k) rfl (by omega)) ?_
    refine JL.val rfl rfl rfl (.none rfl) (Ev.load1 rfl Tryd.underlying23 rfl (Rd.old ((hps.mem a rfl) k _ hat))) ?_
    refine JL.val rfl rfl rfl (.none rfl) (Ev.assign rfl) ?_
    refine JL.nil ?_
    refine JQ.thenN ?_
    refine JC.seq ?_
    -- region 4
    refine JC.region ?_
    refine JL.val rfl rfl rfl (.none rfl) (Ev.move rfl) ?_
    refine JL.re (d := 13) rfl e1 ?_
    refine JL.val rfl rfl rfl (.none rfl) (Ev.move rfl) ?_
    refine JL.callN rfl (.none rfl) rfl Tryd.call34 (fun w1 hw1 => putField_any ob p.o cb p.cap (jn ps k) p.l w1 (hB w1 hw1 (fun x hx => hx)) ((hps.each p hmp).old hw1) (by show tot ps k ≤ _; omega) (by omega)) ?_
    rintro _ _ ⟨q3, rfl, rfl, hq3⟩
    refine JL.val rfl rfl rfl (.none rfl) (Ev.move rfl) ?_
    refine JL.val rfl rfl rfl (.none rfl) (Ev.ex0 rfl) ?_
    refine JL.val rfl rfl rfl (.none rfl) (Ev.ex1 rfl) ?_
    refine JL.val rfl rfl rfl (.none rfl) (Ev.assign rfl) ?_
    refine JL.val rfl rfl rfl (.none rfl) (Ev.assign rfl) ?_
    refine JL.nil ?_
    refine JQ.thenN ?_
    refine JC.seq ?_
    -- region 5
    refine JC.region ?_
    refine JL.val rfl rfl rfl (.none rfl) (Ev.move rfl) ?_
    refine JL.val rfl rfl rfl (.none rfl) (Ev.bin rfl rfl neq_int) ?_
    refine JL.nil ?_
    refine JQ.thenN ?_
    refine JC.cond rfl (fun hc2 => ?_) (fun hc2 => ?_)
    · -- t19 True
      have hb1 : (65535 < p.l.length ∨ 16384 < (jn ps k).length + 2 + p.l.length) := Classical.byContradiction fun h => by rw [if_neg h] at hc2; simp at hc2
      have hbad : 16384 < tot ps ps.length := by have : (jn ps k).length = tot ps k := rfl; omega
      refine JC.seq ?_
      -- region 6
      refine JC.region ?_
      refine JL.val rfl rfl rfl (.none rfl) (Ev.move rfl) ?_
      refine JL.val rfl rfl rfl (.none rfl) (Ev.assign rfl) ?_
      refine JL.val rfl rfl rfl (.none rfl) (Ev.assign rfl) ?_
      refine JL.nil ?_
      refine JQ.thenN ?_
      refine JC.ret ?_
      refine JQ.blockR ?_
      refine JQ.thenR ?_
      refine JQ.thenR ?_
      refine JQ.blockR ?_
      refine JQ.thenR ?_
      refine JQ.end2 (H' := []) (.inl rfl) rfl (.tmp rfl) (.tmp rfl) ?_ ?_
      · first | exact Sub.all | exact Sub.nil
      · exact ⟨none, by rw [joinO_bad hbad, if_pos hbad]; show Value.tuple #[_, .int .i64 (if _ then 4 else 0)] = _; rw [if_pos hb1]; rfl, rfl, by rw [joinO_bad hbad]; exact ⟨rfl, rfl⟩⟩
    · -- t19 False
      have hb1 : ¬ (65535 < p.l.length ∨ 16384 < (jn ps k).length + 2 + p.l.length) := fun h => by rw [if_pos h] at hc2; simp at hc2
      refine JC.skip ?_
      refine JQ.blockN ?_
      refine JQ.thenN ?_
      -- region 7
      refine JC.region ?_
      refine JL.val rfl rfl rfl (.none rfl) (Ev.bin rfl rfl (add_i64 (by omega))) ?_
      refine JL.val rfl rfl rfl (.none rfl) (Ev.move rfl) ?_
      refine JL.nil ?_
      refine JQ.re (d := 2) (v' := Row.v (tot ps (k + 1)) q3) rfl (by rw [putF_ok hb1, ← jn_succ ps hp]; rfl) ?_
      refine JQ.re (d := 3) (v' := .int .i64 0) rfl (by show Value.int .i64 (if _ then 4 else 0) = _; rw [if_neg hb1]) ?_
      refine JQ.loopN (k + 1, q3) ?_ ?_ ?_ ?_
      · exact Keeps.get (by repeat (first | exact Keeps.nil | refine Keeps.cons rfl ?_))
      · first | exact Sub.all | exact sub_left
      · exact ⟨by omega, by have : (jn ps k).length = tot ps k := rfl; omega, by rw [putF_ok hb1, ← jn_succ ps hp] at hq3; exact hq3⟩
      · show ps.length - (k + 1) < ps.length - k; omega
  · -- t9 False
    replace hc1 := of_decide_eq_false hc1
    obtain rfl : k = ps.length := by omega
    have hok : ¬ 16384 < tot ps ps.length := by omega
    refine JC.exit ?_
    refine JQ.thenE ?_
    refine JQ.thenE ?_
    refine JQ.blockE ?_
    refine JQ.thenN ?_
    refine JC.seq ?_
    -- region 8
    refine JC.region ?_
    refine JL.val rfl rfl rfl (.none rfl) (Ev.move rfl) ?_
    refine JL.val rfl rfl rfl (.none rfl) (Ev.assign rfl) ?_
    refine JL.val rfl rfl rfl (.none rfl) (Ev.assign rfl) ?_
    refine JL.nil ?_
    refine JQ.thenN ?_
    refine JC.ret ?_
    refine JQ.end2 (H' := (Row.b 5 q)) (.inl rfl) rfl (.tmp rfl) (.tmp rfl) ?_ ?_
    · first | exact Sub.all | exact Sub.nil
    · exact ⟨q, by rw [joinO_ok hok, if_neg hok]; rfl, rfl, by rw [joinO_ok hok]; exact hq⟩

end Go.Proofs.YtegcdgpkoombmaaDoor
