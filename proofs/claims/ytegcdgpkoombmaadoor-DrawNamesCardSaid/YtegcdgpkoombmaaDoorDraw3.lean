/-
  Fields mixed: the digest of their join, in the program and in the reference.
-/
import Derived.Test.YtegcdgpkoombmaaDoorOct3
import Derived.Test.YtegcdgpkoombmaaDoorRef3
import Derived.Test.YtegcdgpkoombmaaDoorTwin
namespace Go.Proofs.YtegcdgpkoombmaaDoor
open Go Go.RowKit
set_option maxRecDepth 100000

theorem jn_map (ps : List Part) (k : Nat) : jn ps k = ((ps.map (·.l)).take k).flatMap fieldB := by
  unfold jn
  rw [← List.map_take, List.flatMap_map]
def mixD (ps : List Part) : List UInt8 := if 16384 < tot ps ps.length then List.replicate 32 0 else shaO (jn ps ps.length)
def mixE (ps : List Part) : Int := if 16384 < tot ps ps.length then 4 else if 8192 < (jn ps ps.length).length then 4 else 0
theorem mixD_bad {ps : List Part} (h : 16384 < tot ps ps.length) : mixD ps = List.replicate 32 0 := if_pos h
theorem mixE_bad {ps : List Part} (h : 16384 < tot ps ps.length) : mixE ps = 4 := if_pos h
theorem mixD_ok {ps : List Part} (h : ¬ 16384 < tot ps ps.length) : mixD ps = shaO (jn ps ps.length) := if_neg h
theorem mixE_ok {ps : List Part} (h : ¬ 16384 < tot ps ps.length) : mixE ps = if 8192 < (jn ps ps.length).length then 4 else 0 := if_neg h
theorem mixD_length (ps : List Part) : (mixD ps).length = 32 := by
  unfold mixD
  split
  · rfl
  · exact shaO_length _
theorem jn_congr {ps qs : List Part} (h : ps.map (·.l) = qs.map (·.l)) : jn ps ps.length = jn qs qs.length := by
  have hl : ps.length = qs.length := by have := congrArg List.length h; simpa using this
  rw [jn_map, jn_map, h, hl]
theorem mixD_congr {ps qs : List Part} (h : ps.map (·.l) = qs.map (·.l)) : mixD ps = mixD qs := by
  unfold mixD tot; rw [jn_congr h]
theorem mixE_congr {ps qs : List Part} (h : ps.map (·.l) = qs.map (·.l)) : mixE ps = mixE qs := by
  unfold mixE tot; rw [jn_congr h]

/-- The parts that the call holds in rows of its own. -/
def ptOf : Option Row → Nat → List UInt8 → Part
  | none, _, l => ⟨none, 0, l⟩
  | some r, _, l => ⟨some ⟨r.g, 0, none⟩, r.cap, l⟩
def pts (ts : List (Option Row)) (ps : List Part) : List Part := List.zipWith (fun t p => ptOf t p.l.length p.l) ts ps
theorem ptOf_l (t : Option Row) (n : Nat) (l : List UInt8) : (ptOf t n l).l = l := by cases t <;> rfl
theorem ptOf_v {t : Option Row} {l : List UInt8} (h : Row.ok 1 l.length (l.map u8) t) : (ptOf t l.length l).v = Row.v l.length t := by
  cases t with
  | none =>
    obtain ⟨h1, _⟩ := h
    simp [ptOf, Part.v, Row.v, h1]
  | some r => rfl
theorem pts_length {ts : List (Option Row)} {ps : List Part} (h : ts.length = ps.length) : (pts ts ps).length = ps.length := by simp [pts, h]
theorem pts_map {ts : List (Option Row)} {ps : List Part} (h : ts.length = ps.length) : (pts ts ps).map (·.l) = ps.map (·.l) := by
  apply List.ext_getElem?
  intro i
  simp only [pts, List.getElem?_map, List.getElem?_zipWith]
  rcases Nat.lt_or_ge i ps.length with h1 | h1
  · have h2 : i < ts.length := by omega
    simp [h1, h2, ptOf_l]
  · have h2 : ts.length ≤ i := by omega
    simp [List.getElem?_eq_none h1, List.getElem?_eq_none h2]
theorem pts_succ {ts : List (Option Row)} {ps : List Part} {i : Nat} {p : Part} {r : Option Row} (h : ts.length = i) (hp : ps[i]? = some p) : pts (ts ++ [r]) ps = pts ts ps ++ [ptOf r p.l.length p.l] := by
  subst h
  unfold pts
  obtain ⟨h1, h2⟩ := List.getElem?_eq_some_iff.1 hp
  conv => lhs; rw [← List.take_append_drop ts.length ps]
  rw [List.zipWith_append (by simp; omega), List.drop_eq_getElem_cons h1, h2]
  simp only [List.zipWith_cons_cons, List.zipWith_nil_left]
  congr 1
  conv => rhs; rw [← List.take_append_drop ts.length ps]
  have e : ts = ts ++ [] := by simp
  conv => rhs; rw [e, List.zipWith_append (by simp; omega)]
  simp
theorem pts_ok {ts : List (Option Row)} {ps : List Part} {i : Nat} {p : Part} {r1 : Option Row} (h : ts.length = i) (hr : ∀ (j : Nat) t p, ts[j]? = some t → ps[j]? = some p → Row.ok 1 p.l.length (p.l.map u8) t) (hp : ps[i]? = some p) (h1 : Row.ok 1 p.l.length (p.l.map u8) r1) :
    ∀ (j : Nat) t p, (ts ++ [r1])[j]? = some t → ps[j]? = some p → Row.ok 1 p.l.length (p.l.map u8) t := by
  intro j t q ht hq
  rcases Nat.lt_or_ge j ts.length with hj | hj
  · rw [List.getElem?_append_left hj] at ht; exact hr j t q ht hq
  · rw [List.getElem?_append_right hj] at ht
    have e : j = i := by
      have := (List.getElem?_eq_some_iff.1 ht).1
      simp at this
      omega
    subst e
    rw [hp] at hq
    obtain rfl := Option.some.inj hq
    rw [h, Nat.sub_self] at ht
    obtain rfl := Option.some.inj ht
    exact h1
theorem ps_of_pts {w0 w : World} {H : Blocks} {e : TypeId} {oo : Option Addr} {co : Nat} {ts : List (Option Row)} {ps : List Part} (hc : Cs w oo ps.length co ((pts ts ps).map Part.v)) (h : ts.length = ps.length)
    (hr : ∀ (j : Nat) t p, ts[j]? = some t → ps[j]? = some p → Row.ok 1 p.l.length (p.l.map u8) t) (hw : Hp w0 H w) (hm : ∀ x, x ∈ ts.flatMap (Row.b e) → x ∈ H) : Ps w oo co (pts ts ps) := by
  refine ⟨by rw [pts_length h]; exact hc.le, hc.top, hc.empty, hc.mem, fun q hq => ?_⟩
  obtain ⟨j, hj⟩ := List.getElem?_of_mem hq
  simp only [pts, List.getElem?_zipWith] at hj
  cases ht : ts[j]? with
  | none => simp [ht] at hj
  | some t =>
    cases hp : ps[j]? with
    | none => simp [ht, hp] at hj
    | some p =>
      simp only [ht, hp] at hj
      obtain rfl := Option.some.inj hj
      have h1 := hr j t p ht hp
      obtain ⟨oa, cap, e1, _, hC⟩ := Row.vw (e := e) h1
      have h2 := hC w hw (fun x hx => hm x (List.mem_flatMap.2 ⟨t, List.mem_of_getElem? ht, hx⟩))
      cases t with
      | none =>
        obtain ⟨h3, h4⟩ := h1
        have h5 : p.l = [] := by simpa using h3
        rw [ptOf_l]
        show Bs w none 0 p.l
        rw [h5]
        exact bs_nil
      | some r =>
        rw [Row.v] at e1
        obtain ⟨rfl, _, rfl⟩ := Value.slice.inj e1
        exact h2.bs rfl

theorem Mix_any (oa : Option Addr) (cap : Nat) (ps : List Part) (w : World) (hps : Ps w oa cap ps) (hn : ps.length ≤ 1000) (hpl : ∀ p ∈ ps, p.l.length ≤ 100000) (hk : KMem 1 w) (hf : FMem 0 w) :
    Calls Tryd.prog 12 #[.slice oa ps.length cap] w (Ret w (fun v _ => v = .tuple #[.agg (arr8 (mixD ps)), .int .i64 (mixE ps)])) := by
  refine enter (vs := [.slice oa ps.length cap]) Tryd.func12 rfl Tryd.ntmps12 rfl ?_
  refine JC.seq ?_
  -- region 0
  refine JC.region ?_
  refine JL.new rfl rfl rfl (.none rfl) (En.allocZ (cs := arr8 (List.replicate 32 0)) Tryd.zeroValue25 rfl) (fun b2 hb2 => ?_)
  refine JL.val rfl rfl rfl (.none rfl) (Ev.assign rfl) ?_
  refine JL.nil ?_
  refine JQ.thenN ?_
  refine JC.seq ?_
  -- region 1
  refine JC.region ?_
  refine JL.val rfl rfl rfl (.none rfl) (Ev.move rfl) ?_
  refine JL.callN rfl (.none rfl) rfl Tryd.call26 (fun w1 hw1 => Join_any oa cap ps w1 (hps.old hw1) hn hpl) ?_
  rintro _ _ ⟨r, rfl, rfl, hr⟩
  refine JL.val rfl rfl rfl (.none rfl) (Ev.move rfl) ?_
  refine JL.val rfl rfl rfl (.none rfl) (Ev.ex0 rfl) ?_
  refine JL.val rfl rfl rfl (.none rfl) (Ev.ex1 rfl) ?_
  refine JL.val rfl rfl rfl (.none rfl) (Ev.assign rfl) ?_
  refine JL.val rfl rfl rfl (.none rfl) (Ev.assign rfl) ?_
  refine JL.nil ?_
  refine JQ.thenN ?_
  refine JC.seq ?_
  refine JC.seq ?_
  -- region 2
  refine JC.region ?_
  refine JL.val rfl rfl rfl (.none rfl) (Ev.move rfl) ?_
  refine JL.val rfl rfl rfl (.none rfl) (Ev.bin rfl rfl neq_int) ?_
  refine JL.nil ?_
  refine JQ.thenN ?_
  refine JC.cond rfl (fun hc1 => ?_) (fun hc1 => ?_)
  · -- t11 True
    have hbad : 16384 < tot ps ps.length := Classical.byContradiction fun h => by rw [if_neg h] at hc1; simp at hc1
    refine JC.seq ?_
    -- region 3
    refine JC.region ?_
    refine JL.val rfl rfl rfl (.none rfl) (Ev.loadB rfl (by repeat (first | exact List.Mem.head _ | refine List.Mem.tail _ ?_ | refine List.mem_append_right _ ?_ | assumption)) Tryd.underlying25 rfl Tryd.sizeOf25 rfl) ?_
    refine JL.val rfl rfl rfl (.none rfl) (Ev.move rfl) ?_
    refine JL.sto rfl rfl (.none rfl) (Es.storeA rfl rfl Tryd.sizeOf25 (by repeat (first | exact .here | apply Upd.there | apply Upd.left)) rfl rfl (arr8_one _)) ?_
    refine JL.val rfl rfl rfl (.none rfl) (Ev.assign rfl) ?_
    refine JL.nil ?_
    refine JQ.thenN ?_
    refine JC.ret ?_
    refine JQ.thenR ?_
    refine JQ.end2 (H' := []) (.inl rfl) rfl (.agg rfl (by repeat (first | exact List.Mem.head _ | refine List.Mem.tail _ ?_ | refine List.mem_append_right _ ?_ | assumption)) Tryd.underlying25 rfl Tryd.sizeOf25 (by first | rfl | rw [arr8_size, shaO_length])) (.tmp rfl) ?_ ?_
    · first | exact Sub.all | exact Sub.of_cnt (fun a => by simp only [cnt_append, cnt_cons, cnt_nil, List.nil_append, List.append_nil]; omega) | repeat (first | exact Sub.nil | refine Sub.cons (by first | exact .here | exact .there .here | exact .there (.there .here) | exact .there (.there (.there .here)) | exact .there (.there (.there (.there .here)))) ?_ | exact Sub.all)
    · rw [mixD_bad hbad, mixE_bad hbad, if_pos hbad]
  · -- t11 False
    have hok : ¬ 16384 < tot ps ps.length := fun h => by rw [if_pos h] at hc1; simp at hc1
    refine JC.skip ?_
    refine JQ.thenN ?_
    refine JC.seq ?_
    -- region 4
    refine JC.region ?_
    obtain ⟨ox, cx, ex, hx0, hC⟩ := Row.vw (e := 5) hr
    refine JL.re (d := 4) rfl ex ?_
    refine JL.val rfl rfl rfl (.none rfl) (Ev.move rfl) ?_
    refine JL.callV rfl (.none rfl) rfl Tryd.call27 (fun w1 hw1 => Sum_any ox cx (joinO ps) w1 ((hC w1 hw1 (fun p hp => by simp [hp])).bs rfl) (by rw [joinO_ok hok]; show tot ps ps.length ≤ _; omega) (hk.old hw1) (hf.old hw1)) ?_
    refine JL.val rfl rfl rfl (.none rfl) (Ev.ex0 rfl) ?_
    refine JL.val rfl rfl rfl (.none rfl) (Ev.ex1 rfl) ?_
    refine JL.sto rfl rfl (.none rfl) (Es.storeA rfl rfl Tryd.sizeOf25 (by repeat (first | exact .here | apply Upd.there | apply Upd.left)) (by rw [arr8_size, shaO_length]) rfl (arr8_one _)) ?_
    refine JL.val rfl rfl rfl (.none rfl) (Ev.assign rfl) ?_
    refine JL.nil ?_
    refine JQ.thenN ?_
    refine JC.ret ?_
    refine JQ.end2 (H' := []) (.inl rfl) rfl (.agg rfl (by repeat (first | exact List.Mem.head _ | refine List.Mem.tail _ ?_ | refine List.mem_append_right _ ?_ | assumption)) Tryd.underlying25 rfl Tryd.sizeOf25 (by first | rfl | rw [arr8_size, shaO_length])) (.tmp rfl) ?_ ?_
    · first | exact Sub.all | exact Sub.of_cnt (fun a => by simp only [cnt_append, cnt_cons, cnt_nil, List.nil_append, List.append_nil]; omega) | repeat (first | exact Sub.nil | refine Sub.cons (by first | exact .here | exact .there .here | exact .there (.there .here) | exact .there (.there (.there .here)) | exact .there (.there (.there (.there .here)))) ?_ | exact Sub.all)
    · rw [mixD_ok hok, mixE_ok hok, joinO_ok hok]

theorem rMix_any (oa : Option Addr) (cap : Nat) (ps : List Part) (w : World) (hps : Ps w oa cap ps) (hn : ps.length ≤ 1000) (hpl : ∀ p ∈ ps, p.l.length ≤ 100000) :
    Calls Tryd.prog 13 #[.slice oa ps.length cap] w (Ret w (fun v _ => v = .tuple #[.agg (arr8 (mixD ps)), .int .i64 (mixE ps)])) := by
  refine enter (vs := [.slice oa ps.length cap]) Tryd.func13 rfl Tryd.ntmps13 rfl ?_
  refine JC.seq ?_
  -- region 0
  refine JC.region ?_
  refine JL.new rfl rfl rfl (.none rfl) (En.allocZ (cs := arr8 (List.replicate 32 0)) Tryd.zeroValue25 rfl) (fun b2 hb2 => ?_)
  refine JL.val rfl rfl rfl (.none rfl) (Ev.assign rfl) ?_
  refine JL.nil ?_
  refine JQ.thenN ?_
  refine JC.seq ?_
  -- region 1
  refine JC.region ?_
  refine JL.val rfl rfl rfl (.none rfl) (Ev.move rfl) ?_
  refine JL.callN rfl (.none rfl) rfl Tryd.call28 (fun w1 hw1 => rJoin_any oa cap ps w1 (hps.old hw1) hn hpl) ?_
  rintro _ _ ⟨r, rfl, rfl, hr⟩
  refine JL.val rfl rfl rfl (.none rfl) (Ev.move rfl) ?_
  refine JL.val rfl rfl rfl (.none rfl) (Ev.ex0 rfl) ?_
  refine JL.val rfl rfl rfl (.none rfl) (Ev.ex1 rfl) ?_
  refine JL.val rfl rfl rfl (.none rfl) (Ev.assign rfl) ?_
  refine JL.val rfl rfl rfl (.none rfl) (Ev.assign rfl) ?_
  refine JL.nil ?_
  refine JQ.thenN ?_
  refine JC.seq ?_
  refine JC.seq ?_
  -- region 2
  refine JC.region ?_
  refine JL.val rfl rfl rfl (.none rfl) (Ev.move rfl) ?_
  refine JL.val rfl rfl rfl (.none rfl) (Ev.bin rfl rfl neq_int) ?_
  refine JL.nil ?_
  refine JQ.thenN ?_
  refine JC.cond rfl (fun hc1 => ?_) (fun hc1 => ?_)
  · -- t12 True
    have hbad : 16384 < tot ps ps.length := Classical.byContradiction fun h => by rw [if_neg h] at hc1; simp at hc1
    refine JC.seq ?_
    -- region 3
    refine JC.region ?_
    refine JL.val rfl rfl rfl (.none rfl) (Ev.bu0 Tryd.underlying25 Tryd.sizeOf5 Tryd.zeroValue25) ?_
    refine JL.val rfl rfl rfl (.none rfl) (Ev.move rfl) ?_
    refine JL.sto rfl rfl (.none rfl) (Es.storeA rfl rfl Tryd.sizeOf25 (by repeat (first | exact .here | apply Upd.there | apply Upd.left)) rfl rfl (by intro u hu; exact arr8_one (List.replicate 32 0) u hu)) ?_
    refine JL.val rfl rfl rfl (.none rfl) (Ev.assign rfl) ?_
    refine JL.nil ?_
    refine JQ.thenN ?_
    refine JC.ret ?_
    refine JQ.thenR ?_
    refine JQ.end2 (H' := []) (.inl rfl) rfl (.agg rfl (by repeat (first | exact List.Mem.head _ | refine List.Mem.tail _ ?_ | refine List.mem_append_right _ ?_ | assumption)) Tryd.underlying25 rfl Tryd.sizeOf25 (by first | rfl | rw [arr8_size, sha_length])) (.tmp rfl) ?_ ?_
    · first | exact Sub.all | exact Sub.of_cnt (fun a => by simp only [cnt_append, cnt_cons, cnt_nil, List.nil_append, List.append_nil]; omega) | repeat (first | exact Sub.nil | refine Sub.cons (by first | exact .here | exact .there .here | exact .there (.there .here) | exact .there (.there (.there .here)) | exact .there (.there (.there (.there .here)))) ?_ | exact Sub.all)
    · rw [mixD_bad hbad, mixE_bad hbad, if_pos hbad]; rfl
  · -- t12 False
    have hok : ¬ 16384 < tot ps ps.length := fun h => by rw [if_pos h] at hc1; simp at hc1
    obtain ⟨ox, cx, ex, hx0, hC⟩ := Row.vw (e := 5) hr
    refine JC.re (d := 4) rfl ex ?_
    refine JC.skip ?_
    refine JQ.thenN ?_
    refine JC.seq ?_
    refine JC.seq ?_
    -- region 4
    refine JC.region ?_
    refine JL.val rfl rfl rfl (.none rfl) (Ev.move rfl) ?_
    refine JL.val rfl rfl rfl (.none rfl) (Ev.lenS rfl Tryd.underlying23) ?_
    refine JL.val rfl rfl rfl (.none rfl) (Ev.bin rfl rfl gtr_int) ?_
    refine JL.nil ?_
    refine JQ.thenN ?_
    refine JC.cond rfl (fun hc2 => ?_) (fun hc2 => ?_)
    · -- t17 True
      replace hc2 := of_decide_eq_true hc2
      have hbig : 8192 < (joinO ps).length := by omega
      refine JC.seq ?_
      -- region 5
      refine JC.region ?_
      refine JL.val rfl rfl rfl (.none rfl) (Ev.bu0 Tryd.underlying25 Tryd.sizeOf5 Tryd.zeroValue25) ?_
      refine JL.sto rfl rfl (.none rfl) (Es.storeA rfl rfl Tryd.sizeOf25 (by repeat (first | exact .here | apply Upd.there | apply Upd.left)) rfl rfl (by intro u hu; exact arr8_one (List.replicate 32 0) u hu)) ?_
      refine JL.val rfl rfl rfl (.none rfl) (Ev.assign rfl) ?_
      refine JL.nil ?_
      refine JQ.thenN ?_
      refine JC.ret ?_
      refine JQ.thenR ?_
      refine JQ.end2 (H' := []) (.inl rfl) rfl (.agg rfl (by repeat (first | exact List.Mem.head _ | refine List.Mem.tail _ ?_ | refine List.mem_append_right _ ?_ | assumption)) Tryd.underlying25 rfl Tryd.sizeOf25 (by first | rfl | rw [arr8_size, sha_length])) (.tmp rfl) ?_ ?_
      · first | exact Sub.all | exact Sub.of_cnt (fun a => by simp only [cnt_append, cnt_cons, cnt_nil, List.nil_append, List.append_nil]; omega) | repeat (first | exact Sub.nil | refine Sub.cons (by first | exact .here | exact .there .here | exact .there (.there .here) | exact .there (.there (.there .here)) | exact .there (.there (.there (.there .here)))) ?_ | exact Sub.all)
      · rw [mixD_ok hok, mixE_ok hok, ← joinO_ok hok, shaO_big hbig, if_pos hbig]; rfl
    · -- t17 False
      replace hc2 := of_decide_eq_false hc2
      have hsm : ¬ 8192 < (joinO ps).length := by omega
      refine JC.skip ?_
      refine JQ.thenN ?_
      refine JC.seq ?_
      -- region 6
      refine JC.region ?_
      refine JL.val rfl rfl rfl (.none rfl) (Ev.move rfl) ?_
      refine JL.callV rfl (.none rfl) rfl Tryd.call29 (fun w1 hw1 => of_any ox cx (joinO ps) w1 ((hC w1 hw1 (fun p hp => by simp [hp])).bs rfl) (by rw [joinO_ok hok]; show tot ps ps.length ≤ _; omega)) ?_
      refine JL.sto rfl rfl (.none rfl) (Es.storeA rfl rfl Tryd.sizeOf25 (by repeat (first | exact .here | apply Upd.there | apply Upd.left)) (by rw [arr8_size, sha_length]) rfl (arr8_one _)) ?_
      refine JL.val rfl rfl rfl (.none rfl) (Ev.assign rfl) ?_
      refine JL.nil ?_
      refine JQ.thenN ?_
      refine JC.ret ?_
      refine JQ.end2 (H' := []) (.inl rfl) rfl (.agg rfl (by repeat (first | exact List.Mem.head _ | refine List.Mem.tail _ ?_ | refine List.mem_append_right _ ?_ | assumption)) Tryd.underlying25 rfl Tryd.sizeOf25 (by first | rfl | rw [arr8_size, sha_length])) (.tmp rfl) ?_ ?_
      · first | exact Sub.all | exact Sub.of_cnt (fun a => by simp only [cnt_append, cnt_cons, cnt_nil, List.nil_append, List.append_nil]; omega) | repeat (first | exact Sub.nil | refine Sub.cons (by first | exact .here | exact .there .here | exact .there (.there .here) | exact .there (.there (.there .here)) | exact .there (.there (.there (.there .here)))) ?_ | exact Sub.all)
      · rw [mixD_ok hok, mixE_ok hok, ← joinO_ok hok, shaO_small hsm, if_neg hsm]

theorem sameFields_any (oa ob : Option Addr) (ca cb : Nat) (ps qs : List Part) (w : World) (hps : Ps w oa ca ps) (hqs : Ps w ob cb qs) (hn : ps.length ≤ 1000000) :
    Calls Tryd.prog 14 #[.slice oa ps.length ca, .slice ob qs.length cb] w (Ret w (fun v _ => v = .bool (decide (ps.map (·.l) = qs.map (·.l))))) := by
  refine enter (vs := [.slice oa ps.length ca, .slice ob qs.length cb]) Tryd.func14 rfl Tryd.ntmps14 rfl ?_
  refine JC.seq ?_
  -- region 0
  refine JC.region ?_
  refine JL.val rfl rfl rfl (.none rfl) (Ev.assign rfl) ?_
  refine JL.nil ?_
  refine JQ.thenN ?_
  refine JC.seq ?_
  refine JC.seq ?_
  -- region 1
  refine JC.region ?_
  refine JL.val rfl rfl rfl (.none rfl) (Ev.move rfl) ?_
  refine JL.val rfl rfl rfl (.none rfl) (Ev.lenS rfl Tryd.underlying22) ?_
  refine JL.val rfl rfl rfl (.none rfl) (Ev.move rfl) ?_
  refine JL.val rfl rfl rfl (.none rfl) (Ev.lenS rfl Tryd.underlying22) ?_
  refine JL.val rfl rfl rfl (.none rfl) (Ev.bin rfl rfl neq_int) ?_
  refine JL.nil ?_
  refine JQ.thenN ?_
  refine JC.cond rfl (fun hc1 => ?_) (fun hc1 => ?_)
  · -- t10 True
    replace hc1 := of_decide_eq_true hc1
    have hne : ps.length ≠ qs.length := by omega
    refine JC.seq ?_
    -- region 2
    refine JC.region ?_
    refine JL.val rfl rfl rfl (.none rfl) (Ev.assign rfl) ?_
    refine JL.nil ?_
    refine JQ.thenN ?_
    refine JC.ret ?_
    refine JQ.thenR ?_
    refine JQ.end1 (H' := []) (.inl rfl) rfl (.tmp rfl) ?_ ?_
    · first | exact Sub.all | exact Sub.of_cnt (fun a => by simp only [cnt_append, cnt_cons, cnt_nil, List.nil_append, List.append_nil]; omega) | repeat (first | exact Sub.nil | refine Sub.cons (by first | exact .here | exact .there .here | exact .there (.there .here) | exact .there (.there (.there .here)) | exact .there (.there (.there (.there .here)))) ?_ | exact Sub.all)
    · exact congrArg Value.bool (decide_eq_false (fun h => hne (by have := congrArg List.length h; simpa using this))).symm
  · -- t10 False
    replace hc1 := of_decide_eq_false hc1
    have hlen : ps.length = qs.length := by omega
    refine JC.skip ?_
    refine JQ.thenN ?_
    refine JC.seq ?_
    refine JC.seq ?_
    -- region 3
    refine JC.region ?_
    refine JL.val rfl rfl rfl (.none rfl) (Ev.assign rfl) ?_
    refine JL.nil ?_
    refine JQ.thenN ?_
    refine JC.block ?_
    refine JC.loop (X := Nat)
      (fun k => [(0, .slice oa ps.length ca), (1, .slice ob qs.length cb), (5, .int .i64 (k : Int))])
      (fun k => [])
      (fun k => k ≤ ps.length ∧ ∀ j, j < k → (ps.map (·.l))[j]? = (qs.map (·.l))[j]?)
      (fun k => ps.length - k) 0 ?_ ?_ ?_ ?_
    · exact Keeps.get (by repeat (first | exact Keeps.nil | refine Keeps.cons rfl ?_))
    · first | exact Sub.all | exact Sub.of_cnt (fun a => by simp only [cnt_append, cnt_cons, cnt_nil, List.nil_append, List.append_nil]; omega) | repeat (first | exact Sub.nil | refine Sub.cons (by first | exact .here | exact .there .here | exact .there (.there .here) | exact .there (.there (.there .here)) | exact .there (.there (.there (.there .here)))) ?_ | exact Sub.all)
    · exact ⟨Nat.zero_le _, fun j hj => by omega⟩
    rintro k ⟨hk, heq⟩
    refine JC.seq ?_
    refine JC.seq ?_
    -- region 4
    refine JC.region ?_
    refine JL.val rfl rfl rfl (.none rfl) (Ev.move rfl) ?_
    refine JL.val rfl rfl rfl (.none rfl) (Ev.move rfl) ?_
    refine JL.val rfl rfl rfl (.none rfl) (Ev.lenS rfl Tryd.underlying22) ?_
    refine JL.val rfl rfl rfl (.none rfl) (Ev.bin rfl rfl lss_int) ?_
    refine JL.nil ?_
    refine JQ.thenN ?_
    refine JC.cond rfl (fun hc2 => ?_) (fun hc2 => ?_)
    · -- t14 True
      replace hc2 := of_decide_eq_true hc2
      have hkn : k < ps.length := by omega
      obtain ⟨p, hp⟩ := get_some hkn
      obtain ⟨q, hq⟩ := get_some (l := qs) (k := k) (by omega)
      have hpa := Part.at hp
      have hqa := Part.at hq
      have hpm := hps.each p (List.mem_of_getElem? hp)
      have hqm := hqs.each q (List.mem_of_getElem? hq)
      obtain ⟨a, rfl⟩ := hps.get_some (by omega)
      obtain ⟨b, rfl⟩ := hqs.get_some (by omega)
      refine JC.skip ?_
      refine JQ.thenN ?_
      refine JC.seq ?_
      refine JC.block ?_
      refine JC.seq ?_
      -- region 6
      refine JC.regionQ (by kernel_rfl) (by kernel_rfl) ?_
      refine JW.val rfl rfl (.none rfl) (Ev.move rfl) ?_
      refine JW.val rfl rfl (.none rfl) (Ev.move rfl) ?_
      refine JW.val rfl rfl (.none rfl) (Ev.idxS1 rfl rfl Tryd.underlying22 Tryd.sizeOf23 (k := k) rfl (by omega)) ?_
      refine JW.val rfl rfl (.none rfl) (Ev.load1 rfl Tryd.underlying23 rfl (Rd.old ((hps.mem a rfl) k _ hpa))) ?_
      refine JW.val rfl rfl (.none rfl) (Ev.str rfl Tryd.underlying23 Tryd.underlying9 Tryd.underlying5 rfl (fun h => by have := hpm.le; have := hpm.empty h; omega) (fun a ha => Rds.old (hpm.mem a ha))) ?_
      refine JW.val rfl rfl (.none rfl) (Ev.move rfl) ?_
      refine JW.val rfl rfl (.none rfl) (Ev.move rfl) ?_
      refine JW.val rfl rfl (.none rfl) (Ev.idxS1 rfl rfl Tryd.underlying22 Tryd.sizeOf23 (k := k) rfl (by omega)) ?_
      refine JW.val rfl rfl (.none rfl) (Ev.load1 rfl Tryd.underlying23 rfl (Rd.old ((hqs.mem b rfl) k _ hqa))) ?_
      refine JW.val rfl rfl (.none rfl) (Ev.str rfl Tryd.underlying23 Tryd.underlying9 Tryd.underlying5 rfl (fun h => by have := hqm.le; have := hqm.empty h; omega) (fun a ha => Rds.old (hqm.mem a ha))) ?_
      refine JW.val rfl rfl (.none rfl) (Ev.bin rfl rfl neq_string) ?_
      refine JW.nilQ ?_
      refine JQ.thenN ?_
      refine JC.cond rfl (fun hc3 => ?_) (fun hc3 => ?_)
      · -- t27 True
        have hd : p.l ≠ q.l := fun h => by simp [h] at hc3
        refine JC.seq ?_
        -- region 7
        refine JC.region ?_
        refine JL.val rfl rfl rfl (.none rfl) (Ev.assign rfl) ?_
        refine JL.nil ?_
        refine JQ.thenN ?_
        refine JC.ret ?_
        refine JQ.blockR ?_
        refine JQ.thenR ?_
        refine JQ.thenR ?_
        refine JQ.blockR ?_
        refine JQ.thenR ?_
        refine JQ.end1 (H' := []) (.inl rfl) rfl (.tmp rfl) ?_ ?_
        · first | exact Sub.all | exact Sub.of_cnt (fun a => by simp only [cnt_append, cnt_cons, cnt_nil, List.nil_append, List.append_nil]; omega) | repeat (first | exact Sub.nil | refine Sub.cons (by first | exact .here | exact .there .here | exact .there (.there .here) | exact .there (.there (.there .here)) | exact .there (.there (.there (.there .here)))) ?_ | exact Sub.all)
        · exact congrArg Value.bool (decide_eq_false (fun h => hd (by have := congrArg (·[k]?) h; simpa [hp, hq] using this))).symm
      · -- t27 False
        have hd : p.l = q.l := by simpa using hc3
        refine JC.skip ?_
        refine JQ.blockN ?_
        refine JQ.thenN ?_
        -- region 5
        refine JC.region ?_
        refine JL.val rfl rfl rfl (.none rfl) (Ev.move rfl) ?_
        refine JL.val rfl rfl rfl (.none rfl) (Ev.bin rfl rfl (add_i64 (by omega))) ?_
        refine JL.val rfl rfl rfl (.none rfl) (Ev.assign rfl) ?_
        refine JL.nil ?_
        refine JQ.loopN (k + 1) ?_ ?_ ?_ ?_
        · exact Keeps.get (by repeat (first | exact Keeps.nil | refine Keeps.cons rfl ?_))
        · first | exact Sub.all | exact Sub.of_cnt (fun a => by simp only [cnt_append, cnt_cons, cnt_nil, List.nil_append, List.append_nil]; omega) | repeat (first | exact Sub.nil | refine Sub.cons (by first | exact .here | exact .there .here | exact .there (.there .here) | exact .there (.there (.there .here)) | exact .there (.there (.there (.there .here)))) ?_ | exact Sub.all)
        · exact ⟨by omega, all_succ heq (by simp [hp, hq, hd])⟩
        · omega
    · -- t14 False
      replace hc2 := of_decide_eq_false hc2
      obtain rfl : k = ps.length := by omega
      refine JC.exit ?_
      refine JQ.thenE ?_
      refine JQ.thenE ?_
      refine JQ.blockE ?_
      refine JQ.thenN ?_
      refine JC.seq ?_
      -- region 8
      refine JC.region ?_
      refine JL.val rfl rfl rfl (.none rfl) (Ev.assign rfl) ?_
      refine JL.nil ?_
      refine JQ.thenN ?_
      refine JC.ret ?_
      refine JQ.end1 (H' := []) (.inl rfl) rfl (.tmp rfl) ?_ ?_
      · first | exact Sub.all | exact Sub.of_cnt (fun a => by simp only [cnt_append, cnt_cons, cnt_nil, List.nil_append, List.append_nil]; omega) | repeat (first | exact Sub.nil | refine Sub.cons (by first | exact .here | exact .there .here | exact .there (.there .here) | exact .there (.there (.there .here)) | exact .there (.there (.there (.there .here)))) ?_ | exact Sub.all)
      · exact congrArg Value.bool (decide_eq_true (eq_upto (by simp [hlen]) (fun j hj => heq j (by simpa using hj)))).symm

theorem lawMixes_any (oa : Option Addr) (cap : Nat) (ps : List Part) (w : World) (hps : Ps w oa cap ps) (hk : KMem 1 w) (hf : FMem 0 w) :
    Calls Tryd.prog 3 #[.slice oa ps.length cap] w (Ret w (fun v _ => v = .bool true)) := by
  refine enter (vs := [.slice oa ps.length cap]) Tryd.func3 rfl Tryd.ntmps3 rfl ?_
  refine JC.seq ?_
  -- region 0
  refine JC.region ?_
  refine JL.val rfl rfl rfl (.none rfl) (Ev.assign rfl) ?_
  refine JL.nil ?_
  refine JQ.thenN ?_
  refine JC.seq ?_
  refine JC.seq ?_
  -- region 1
  refine JC.region ?_
  refine JL.val rfl rfl rfl (.none rfl) (Ev.move rfl) ?_
  refine JL.val rfl rfl rfl (.none rfl) (Ev.lenS rfl Tryd.underlying22) ?_
  refine JL.val rfl rfl rfl (.none rfl) (Ev.bin rfl rfl gtr_int) ?_
  refine JL.nil ?_
  refine JQ.thenN ?_
  refine JC.cond rfl (fun hc1 => ?_) (fun hc1 => ?_)
  · -- t11 True
    replace hc1 := of_decide_eq_true hc1
    refine JC.seq ?_
    -- region 2
    refine JC.region ?_
    refine JL.val rfl rfl rfl (.none rfl) (Ev.assign rfl) ?_
    refine JL.nil ?_
    refine JQ.thenN ?_
    refine JC.ret ?_
    refine JQ.thenR ?_
    refine JQ.end1 (H' := []) (.inl rfl) rfl (.tmp rfl) ?_ ?_
    · first | exact Sub.all | exact Sub.of_cnt (fun a => by simp only [cnt_append, cnt_cons, cnt_nil, List.nil_append, List.append_nil]; omega) | repeat (first | exact Sub.nil | refine Sub.cons (by first | exact .here | exact .there .here | exact .there (.there .here) | exact .there (.there (.there .here)) | exact .there (.there (.there (.there .here)))) ?_ | exact Sub.all)
    · exact rfl
  · -- t11 False
    replace hc1 := of_decide_eq_false hc1
    refine JC.skip ?_
    refine JQ.thenN ?_
    refine JC.seq ?_
    -- region 3
    refine JC.region ?_
    refine JL.val rfl rfl rfl (.none rfl) (Ev.assign rfl) ?_
    refine JL.nil ?_
    refine JQ.thenN ?_
    refine JC.seq ?_
    refine JC.seq ?_
    -- region 4
    refine JC.region ?_
    refine JL.val rfl rfl rfl (.none rfl) (Ev.assign rfl) ?_
    refine JL.nil ?_
    refine JQ.thenN ?_
    refine JC.block ?_
    refine JC.loop (X := Nat × Option Row × List (Option Row))
      (fun ⟨i, q, ts⟩ => [(0, .slice oa ps.length cap), (3, Row.v i q), (4, .int .i64 (i : Int))])
      (fun ⟨i, q, ts⟩ => Row.b 23 q ++ (ts.flatMap (Row.b 5)))
      (fun ⟨i, q, ts⟩ => i ≤ ps.length ∧ Row.ok 1 i ((pts ts ps).map Part.v) q ∧ ts.length = i ∧ (∀ (j : Nat) (t : Option Row) (p : Part), ts[j]? = some t → ps[j]? = some p → Row.ok 1 p.l.length (p.l.map u8) t) ∧ (∀ (j : Nat) (p : Part), j < i → ps[j]? = some p → p.l.length ≤ 70000))
      (fun ⟨i, q, ts⟩ => ps.length - i) (0, none, []) ?_ ?_ ?_ ?_
    · exact Keeps.get (by repeat (first | exact Keeps.nil | refine Keeps.cons rfl ?_))
    · exact Sub.nil
    · exact ⟨Nat.zero_le _, ⟨rfl, rfl⟩, rfl, fun j t p h => by simp at h, fun j p hj => by omega⟩
    rintro ⟨i, q, ts⟩ ⟨hi, hq, hts, hr, hlen⟩
    refine JC.seq ?_
    refine JC.seq ?_
    -- region 5
    refine JC.region ?_
    refine JL.val rfl rfl rfl (.none rfl) (Ev.move rfl) ?_
    refine JL.val rfl rfl rfl (.none rfl) (Ev.move rfl) ?_
    refine JL.val rfl rfl rfl (.none rfl) (Ev.lenS rfl Tryd.underlying22) ?_
    refine JL.val rfl rfl rfl (.none rfl) (Ev.bin rfl rfl lss_int) ?_
    refine JL.nil ?_
    refine JQ.thenN ?_
    refine JC.cond rfl (fun hc2 => ?_) (fun hc2 => ?_)
    · -- t15 True
      replace hc2 := of_decide_eq_true hc2
      have hkn : i < ps.length := by omega
      obtain ⟨p, hp⟩ := get_some hkn
      have hpa := Part.at hp
      have hpm := hps.each p (List.mem_of_getElem? hp)
      obtain ⟨a, rfl⟩ := hps.get_some (by omega)
      refine JC.skip ?_
      refine JQ.thenN ?_
      refine JC.seq ?_
      refine JC.block ?_
      refine JC.seq ?_
      refine JC.seq ?_
      -- region 7
      refine JC.region ?_
      refine JL.val rfl rfl rfl (.none rfl) (Ev.move rfl) ?_
      refine JL.val rfl rfl rfl (.none rfl) (Ev.move rfl) ?_
      refine JL.val rfl rfl rfl (.none rfl) (Ev.idxS1 rfl rfl Tryd.underlying22 Tryd.sizeOf23 (k := i) rfl (by omega)) ?_
      refine JL.val rfl rfl rfl (.none rfl) (Ev.load1 rfl Tryd.underlying23 rfl (Rd.old ((hps.mem a rfl) i _ hpa))) ?_
      refine JL.val rfl rfl rfl (.none rfl) (Ev.lenS rfl Tryd.underlying23) ?_
      refine JL.val rfl rfl rfl (.none rfl) (Ev.bin rfl rfl gtr_int) ?_
      refine JL.nil ?_
      refine JQ.thenN ?_
      refine JC.cond rfl (fun hc3 => ?_) (fun hc3 => ?_)
      · -- t23 True
        replace hc3 := of_decide_eq_true hc3
        refine JC.seq ?_
        -- region 8
        refine JC.region ?_
        refine JL.val rfl rfl rfl (.none rfl) (Ev.assign rfl) ?_
        refine JL.nil ?_
        refine JQ.thenN ?_
        refine JC.ret ?_
        refine JQ.thenR ?_
        refine JQ.blockR ?_
        refine JQ.thenR ?_
        refine JQ.thenR ?_
        refine JQ.blockR ?_
        refine JQ.thenR ?_
        refine JQ.end1 (H' := []) (.inl rfl) rfl (.tmp rfl) ?_ ?_
        · first | exact Sub.all | exact Sub.of_cnt (fun a => by simp only [cnt_append, cnt_cons, cnt_nil, List.nil_append, List.append_nil]; omega) | repeat (first | exact Sub.nil | refine Sub.cons (by first | exact .here | exact .there .here | exact .there (.there .here) | exact .there (.there (.there .here)) | exact .there (.there (.there (.there .here)))) ?_ | exact Sub.all)
        · exact rfl
      · -- t23 False
        replace hc3 := of_decide_eq_false hc3
        have hpl1 : p.l.length ≤ 70000 := by omega
        refine JC.skip ?_
        refine JQ.thenN ?_
        -- region 9
        refine JC.region ?_
        refine JL.val rfl rfl rfl (.none rfl) (Ev.move rfl) ?_
        refine JL.val rfl rfl rfl (.none rfl) (Ev.move rfl) ?_
        refine JL.val rfl rfl rfl (.none rfl) (Ev.move rfl) ?_
        refine JL.val rfl rfl rfl (.none rfl) (Ev.idxS1 rfl rfl Tryd.underlying22 Tryd.sizeOf23 (k := i) rfl (by omega)) ?_
        refine JL.val rfl rfl rfl (.none rfl) (Ev.load1 rfl Tryd.underlying23 rfl (Rd.old ((hps.mem a rfl) i _ hpa))) ?_
        refine JL.callN rfl (.none rfl) rfl Tryd.call11 (fun w1 hw1 => twin_any p.o p.cap p.l w1 (hpm.old hw1) (by omega)) ?_
        rintro _ _ ⟨r1, rfl, rfl, hr1⟩
        obtain ⟨o1, c1, e1, _, _⟩ := Row.vw (e := 5) hr1
        refine JL.re (d := 29) rfl e1 ?_
        refine JL.new rfl rfl rfl (.none rfl) (En.bsN (e := 23) rfl (fun _ => by kernel_rfl)) (fun b30 hb30 => ?_)
        refine JL.gen rfl rfl rfl (.none rfl) (Eg.append1 (z := (.slice none 0 0)) (s := 1) (bytes := 24) rfl rfl rfl (by repeat (first | exact .last | exact .here | apply Cut.past | apply Cut.there)) Tryd.underlying22 (by kernel_rfl) rfl (by decide) (by decide) (by assumption) (Rds.all (by repeat (first | exact List.Mem.head _ | refine List.Mem.tail _ ?_ | refine List.mem_append_right _ ?_ | assumption))) rfl (by decide) (by intro u hu; first | exact u8s_one _ u hu | (simp at hu; subst hu; rfl)) (by omega)) ?_
        rintro _ _ ⟨r31, rfl, rfl, hr31⟩
        refine JL.val rfl rfl rfl (.none rfl) (Ev.assign rfl) ?_
        refine JL.nil ?_
        refine JQ.blockN ?_
        refine JQ.thenN ?_
        -- region 6
        refine JC.region ?_
        refine JL.val rfl rfl rfl (.none rfl) (Ev.move rfl) ?_
        refine JL.val rfl rfl rfl (.none rfl) (Ev.bin rfl rfl (add_i64 (by omega))) ?_
        refine JL.val rfl rfl rfl (.none rfl) (Ev.assign rfl) ?_
        refine JL.nil ?_
        refine JQ.loopN (i + 1, some r31, ts ++ [r1]) ?_ ?_ ?_ ?_
        · exact Keeps.get (by repeat (first | exact Keeps.nil | refine Keeps.cons rfl ?_))
        · exact Sub.of_cnt (fun a => by simp only [List.flatMap_append, List.flatMap_cons, List.flatMap_nil, List.append_nil, cnt_append, cnt_cons, cnt_nil]; omega)
        · exact ⟨by omega, by rw [pts_succ hts hp, List.map_append, List.map_cons, List.map_nil, ptOf_v hr1, e1]; exact hr31, by simp [hts], pts_ok hts hr hp hr1, fun j p1 hj h => by rcases Nat.lt_or_ge j i with h1 | h1; exact hlen j p1 h1 h; obtain rfl : j = i := (by omega); rw [hp] at h; obtain rfl := Option.some.inj h; exact hpl1⟩
        · show ps.length - (i + 1) < ps.length - i; omega
    · -- t15 False
      replace hc2 := of_decide_eq_false hc2
      obtain rfl : i = ps.length := by omega
      have hpl : ∀ p ∈ ps, p.l.length ≤ 70000 := fun p hp => by obtain ⟨j, hj⟩ := List.getElem?_of_mem hp; exact hlen j _ (by have := (List.getElem?_eq_some_iff.1 hj).1; omega) hj
      obtain ⟨oo, co, eo, ho0, hC⟩ := Row.vw (e := 23) hq
      have hptl := pts_length hts
      refine JC.re (d := 3) (v' := .slice oo (pts ts ps).length co) rfl (by rw [hptl]; exact eo) ?_
      have hpm2 := pts_map hts
      have hqpl : ∀ p ∈ pts ts ps, p.l.length ≤ 100000 := fun p hp => by have h1 : p.l ∈ (pts ts ps).map (·.l) := List.mem_map_of_mem hp; rw [hpm2] at h1; obtain ⟨x, hx, hx2⟩ := List.mem_map.1 h1; have h3 : x.l = p.l := hx2; have := hpl x hx; rw [← h3]; omega
      have hO : ∀ {w0 : World} {H : Blocks} (w : World), Hp w0 H w → (∀ x, x ∈ Row.b 23 q → x ∈ H) → (∀ x, x ∈ (ts.flatMap (Row.b 5)) → x ∈ H) → Ps w oo co (pts ts ps) := fun w hw h1 h2 => ps_of_pts (hC w hw h1) hts hr hw h2
      refine JC.exit ?_
      refine JQ.thenE ?_
      refine JQ.thenE ?_
      refine JQ.blockE ?_
      refine JQ.thenN ?_
      refine JC.seq ?_
      -- region 10
      refine JC.region ?_
      refine JL.val rfl rfl rfl (.none rfl) (Ev.move rfl) ?_
      refine JL.callV rfl (.none rfl) rfl Tryd.call12 (fun w1 hw1 => Mix_any oo co (pts ts ps) w1 (hO w1 hw1 (fun x hx => List.mem_append_left _ hx) (fun x hx => List.mem_append_right _ hx)) (by omega) hqpl (hk.old hw1) (hf.old hw1)) ?_
      refine JL.val rfl rfl rfl (.none rfl) (Ev.move rfl) ?_
      refine JL.val rfl rfl rfl (.none rfl) (Ev.ex0 rfl) ?_
      refine JL.val rfl rfl rfl (.none rfl) (Ev.ex1 rfl) ?_
      refine JL.new rfl rfl rfl (.none rfl) (En.allocZ (cs := arr8 (List.replicate 32 0)) Tryd.zeroValue25 rfl) (fun b5 hb5 => ?_)
      refine JL.sto rfl rfl (.none rfl) (Es.storeA rfl rfl Tryd.sizeOf25 (by repeat (first | exact .here | apply Upd.there | apply Upd.left)) (by rw [arr8_size, mixD_length]) rfl (arr8_one _)) ?_
      refine JL.val rfl rfl rfl (.none rfl) (Ev.assign rfl) ?_
      refine JL.nil ?_
      refine JQ.thenN ?_
      refine JC.seq ?_
      -- region 11
      refine JC.region ?_
      refine JL.val rfl rfl rfl (.none rfl) (Ev.move rfl) ?_
      refine JL.callV rfl (.none rfl) rfl Tryd.call13 (fun w1 hw1 => rMix_any oa cap ps w1 (hps.old hw1) (by omega) (fun p hp => Nat.le_trans (hpl p hp) (by decide))) ?_
      refine JL.val rfl rfl rfl (.none rfl) (Ev.move rfl) ?_
      refine JL.val rfl rfl rfl (.none rfl) (Ev.ex0 rfl) ?_
      refine JL.val rfl rfl rfl (.none rfl) (Ev.ex1 rfl) ?_
      refine JL.new rfl rfl rfl (.none rfl) (En.allocZ (cs := arr8 (List.replicate 32 0)) Tryd.zeroValue25 rfl) (fun b7 hb7 => ?_)
      refine JL.sto rfl rfl (.none rfl) (Es.storeA rfl rfl Tryd.sizeOf25 (by repeat (first | exact .here | apply Upd.there | apply Upd.left)) (by rw [arr8_size, mixD_length]) rfl (arr8_one _)) ?_
      refine JL.val rfl rfl rfl (.none rfl) (Ev.assign rfl) ?_
      refine JL.nil ?_
      refine JQ.thenN ?_
      refine JC.seq ?_
      -- region 12
      refine JC.region ?_
      refine JL.val rfl rfl rfl (.none rfl) (Ev.loadB rfl (by repeat (first | exact List.Mem.head _ | refine List.Mem.tail _ ?_ | refine List.mem_append_right _ ?_ | assumption)) Tryd.underlying25 rfl Tryd.sizeOf25 (by rw [arr8_size, mixD_length])) ?_
      refine JL.val rfl rfl rfl (.none rfl) (Ev.loadB rfl (by repeat (first | exact List.Mem.head _ | refine List.Mem.tail _ ?_ | refine List.mem_append_right _ ?_ | assumption)) Tryd.underlying25 rfl Tryd.sizeOf25 (by rw [arr8_size, mixD_length])) ?_
      refine JL.val rfl rfl rfl (.none rfl) (Ev.bin rfl rfl (eql_arr8 (n := 32) Tryd.underlying25 Tryd.underlying5 (by kernel_rfl) (by kernel_rfl) (mixD_length _) (mixD_length _))) ?_
      refine JL.val rfl rfl rfl (.none rfl) (Ev.move rfl) ?_
      refine JL.know (d := 45) (b := true) rfl ?_ ?_
      · exact decide_eq_true (mixD_congr hpm2)
      refine JL.val rfl rfl rfl (.yes rfl rfl rfl) (Ev.move rfl) ?_
      refine JL.val rfl rfl rfl (.yes rfl rfl rfl) (Ev.move rfl) ?_
      refine JL.val rfl rfl rfl (.yes rfl rfl rfl) (Ev.bin rfl rfl eql_int) ?_
      refine JL.val rfl rfl rfl (.none rfl) (Ev.pickT rfl rfl) ?_
      refine JL.val rfl rfl rfl (.none rfl) (Ev.move rfl) ?_
      refine JL.know (d := 50) (b := true) rfl ?_ ?_
      · exact decide_eq_true (mixE_congr hpm2)
      refine JL.val rfl rfl rfl (.yes rfl rfl rfl) (Ev.move rfl) ?_
      refine JL.val rfl rfl rfl (.yes rfl rfl rfl) (Ev.move rfl) ?_
      refine JL.callV rfl (.yes rfl rfl rfl) rfl Tryd.call14 (fun w1 hw1 => sameFields_any oo oa co cap (pts ts ps) ps w1 (hO w1 hw1 (fun x hx => List.mem_cons_of_mem _ (List.mem_cons_of_mem _ (List.mem_append_left _ hx))) (fun x hx => List.mem_cons_of_mem _ (List.mem_cons_of_mem _ (List.mem_append_right _ hx)))) (hps.old hw1) (by omega)) ?_
      refine JL.val rfl rfl rfl (.none rfl) (Ev.pickT rfl rfl) ?_
      refine JL.val rfl rfl rfl (.none rfl) (Ev.assign rfl) ?_
      refine JL.nil ?_
      refine JQ.thenN ?_
      refine JC.ret ?_
      refine JQ.end1 (H' := []) (.inl rfl) rfl (.tmp rfl) ?_ ?_
      · first | exact Sub.all | exact Sub.of_cnt (fun a => by simp only [cnt_append, cnt_cons, cnt_nil, List.nil_append, List.append_nil]; omega) | repeat (first | exact Sub.nil | refine Sub.cons (by first | exact .here | exact .there .here | exact .there (.there .here) | exact .there (.there (.there .here)) | exact .there (.there (.there (.there .here)))) ?_ | exact Sub.all)
      · exact congrArg Value.bool (decide_eq_true hpm2)

end Go.Proofs.YtegcdgpkoombmaaDoor
