/-
  Boards copied and appended to; in the program and in the reference.
-/
import Derived.Test.YtopaednfjjjnbaaDoorBrd2Nm
import Derived.Test.YtopaednfjjjnbaaDoorPackBNm
namespace Go.Proofs.YtopaednfjjjnbaaDoor
open Go Go.RowKit
set_option maxRecDepth 100000

theorem ents_take {xs : List Et} {i : Nat} {x : Et} (h : xs[i]? = some x) : (xs.map Et.e).take i ++ [(x.k, x.l)] = (xs.map Et.e).take (i + 1) := by
  rw [List.take_add_one, List.getElem?_map, h]
  rfl
theorem own_ok {os : List OE} {o : OE} (h : ∀ o ∈ os, o.ok) (ho : o.ok) : ∀ p ∈ os ++ [o], p.ok := fun p hp => by
  rcases List.mem_append.1 hp with hp | hp
  · exact h p hp
  · obtain rfl := List.mem_singleton.1 hp
    exact ho

theorem bytesClone_any (x : Et) (w : World) (hx : Bs w x.o x.cap x.l) (hl : x.l.length ≤ 140737488351232) :
    Calls Tryd.prog 96 #[.slice x.o x.l.length x.cap] w (Ret w (fun v H => ∃ q, v = Row.v x.l.length q ∧ H = Row.b 5 q ∧ Row.ok 1 x.l.length (x.l.map u8) q)) := by
  refine enter (vs := [.slice x.o x.l.length x.cap]) Tryd.func96 rfl Tryd.ntmps96 rfl ?_
  refine JC.seq ?_
  refine JC.region ?_
  refine JL.asg ?_
  refine JL.nil ?_
  refine JQ.thenN ?_
  refine JC.seq ?_
  refine JC.seq ?_
  refine JC.region ?_
  refine JL.mv ?_
  refine JL.val rfl rfl rfl (.none rfl) (Ev.bin rfl rfl (eql_slice_nil Tryd.underlying28)) ?_
  refine JL.nil ?_
  refine JQ.thenN ?_
  refine JC.cond rfl (fun hc1 => ?_) (fun hc1 => ?_)
  · -- t4 True
    have hoa : x.o = none := by simpa using hc1
    have hl0 : x.l = [] := List.eq_nil_of_length_eq_zero (by have := hx.le; have := hx.empty hoa; omega)
    refine JC.seq ?_
    refine JC.region ?_
    refine JL.asg ?_
    refine JL.nil ?_
    refine JQ.thenN ?_
    refine JC.ret ?_
    refine JQ.thenR ?_
    refine JQ.end1 (H' := []) (.inl rfl) rfl (.tmp rfl) ?_ ?_
    · first | exact Sub.nil | exact Sub.all
    · exact ⟨none, by rw [hl0]; rfl, rfl, by rw [hl0]; exact ⟨rfl, rfl⟩⟩
  · -- t4 False
    refine JC.skip ?_
    refine JQ.thenN ?_
    refine JC.seq ?_
    refine JC.region ?_
    refine JL.new rfl rfl rfl (.none rfl) (En.bsN (e := 5) (parts := []) (vs := []) rfl (fun _ => by kernel_rfl)) (fun b5 hb5 => ?_)
    refine JL.mv ?_
    refine JL.gen rfl rfl rfl (.none rfl) (Eg.append (r := (some ⟨b5, 0, #[]⟩)) (n := 0) (m := x.l.length) (xs := []) (news := (x.l.map u8)) (z := (.int .u8 0)) (s := 1) (bytes := 1) rfl rfl rfl Cut.k Tryd.underlying28 (by kernel_rfl) rfl (by decide) (by decide) ⟨rfl, by simp, by simp, rfl, rfl⟩ (by simp) (fun a ha => Rds.old (hx.mem a ha)) (fun h => by have := hx.le; have := hx.empty h; omega) (u8s_one x.l) (by omega)) ?_
    rintro _ _ ⟨q, rfl, rfl, hq, hqn⟩
    refine JL.asg ?_
    refine JL.nil ?_
    refine JQ.thenN ?_
    refine JC.ret ?_
    refine JQ.end1 (H' := (Row.b 5 q)) (.inl rfl) rfl (.tmp rfl) ?_ ?_
    · first | exact Sub.nil | exact Sub.all
    · exact ⟨q, by rw [Nat.zero_add], rfl, by rw [Nat.zero_add] at hq; exact hq⟩

theorem btwin_any (x : Et) (w : World) (hx : Bs w x.o x.cap x.l) (hl : x.l.length ≤ 140737488351232) :
    Calls Tryd.prog 57 #[.agg x.cl.toArray] w (Ret w (fun v H => ∃ q : Option Row, v = .agg (OE.cl ⟨x.k, q, x.l⟩).toArray ∧ H = Row.b 5 q ∧ OE.ok ⟨x.k, q, x.l⟩)) := by
  refine enter (vs := [.agg x.cl.toArray]) Tryd.func57 rfl Tryd.ntmps57 rfl ?_
  refine JC.seq ?_
  refine JC.region ?_
  refine JL.new rfl rfl rfl (.none rfl) (En.boxA rfl) (fun b1 hb1 => ?_)
  refine JL.new rfl rfl rfl (.none rfl) (En.allocZ (cs := #[u8 0, .slice none 0 0]) Tryd.zeroValue30 rfl) (fun b2 hb2 => ?_)
  refine JL.nil ?_
  refine JQ.thenN ?_
  refine JC.seq ?_
  refine JC.regionA (by kernel_rfl) ?_
  refine JA.tk 0 rfl (.none rfl) (fun _ => (Ev.fld 0 rfl (fun _ _ => by kernel_rfl))) ?_
  refine JA.tk 2 rfl (.none rfl) (fun _ => (Ev.fld 1 rfl (fun _ _ => by kernel_rfl))) ?_
  refine JA.branch [1, 3] (by kernel_rfl) rfl ?_
  refine JAll.cons rfl ?_ ?_
  · -- 1
    refine JO.val rfl rfl rfl (.none rfl) (Ev.load1 rfl Tryd.underlying5 rfl (Rd.own memK rfl)) ?_
    refine JA.one 3 ?_
    refine JO.val rfl rfl rfl (.none rfl) (Ev.load1 rfl Tryd.underlying28 rfl (Rd.own memK rfl)) ?_
    refine JA.one 4 ?_
    refine JO.callN rfl (.none rfl) rfl Tryd.call96 (fun w1 hw1 => bytesClone_any x w1 (hx.old hw1) hl) ?_
    rintro _ _ ⟨q, rfl, rfl, hq⟩
    refine JA.one 5 ?_
    refine JO.val rfl rfl rfl (.none rfl) (Ev.bu2 rfl rfl rfl (rowv_cells _ _) Tryd.underlying30 (fun _ => by kernel_rfl) Tryd.zeroValue30) ?_
    refine JA.one 6 ?_
    refine JO.sto rfl rfl (.none rfl) (Es.storeA rfl rfl Tryd.sizeOf30 Upd.k rfl rfl (OE.one ⟨x.k, q, x.l⟩)) ?_
    refine JA.done (by kernel_rfl) ?_
    refine JQ.thenN ?_
    refine JC.ret ?_
    refine JQ.end1 (H' := (Row.b 5 q)) (.inl rfl) rfl (.agg rfl memK Tryd.underlying30 rfl Tryd.sizeOf30 rfl) ?_ ?_
    · exact Sub.of_cnt (fun a => by (try dsimp only); simp only [cntA]; omega)
    · first | exact ⟨q, rfl, rfl, hq⟩ | (rw [Nat.zero_add] at hq; exact ⟨q, by rw [Nat.zero_add]; rfl, rfl, hq⟩)
  refine JAll.cons rfl ?_ JAll.nil
  refine JO.val rfl rfl rfl (.none rfl) (Ev.load1 rfl Tryd.underlying28 rfl (Rd.own memK rfl)) ?_
  refine JA.branch [1, 4] (by kernel_rfl) rfl ?_
  refine JAll.cons rfl ?_ ?_
  · -- 1
    refine JO.val rfl rfl rfl (.none rfl) (Ev.load1 rfl Tryd.underlying5 rfl (Rd.own memK rfl)) ?_
    refine JA.one 4 ?_
    refine JO.callN rfl (.none rfl) rfl Tryd.call96 (fun w1 hw1 => bytesClone_any x w1 (hx.old hw1) hl) ?_
    rintro _ _ ⟨q, rfl, rfl, hq⟩
    refine JA.one 5 ?_
    refine JO.val rfl rfl rfl (.none rfl) (Ev.bu2 rfl rfl rfl (rowv_cells _ _) Tryd.underlying30 (fun _ => by kernel_rfl) Tryd.zeroValue30) ?_
    refine JA.one 6 ?_
    refine JO.sto rfl rfl (.none rfl) (Es.storeA rfl rfl Tryd.sizeOf30 Upd.k rfl rfl (OE.one ⟨x.k, q, x.l⟩)) ?_
    refine JA.done (by kernel_rfl) ?_
    refine JQ.thenN ?_
    refine JC.ret ?_
    refine JQ.end1 (H' := (Row.b 5 q)) (.inl rfl) rfl (.agg rfl memK Tryd.underlying30 rfl Tryd.sizeOf30 rfl) ?_ ?_
    · exact Sub.of_cnt (fun a => by (try dsimp only); simp only [cntA]; omega)
    · first | exact ⟨q, rfl, rfl, hq⟩ | (rw [Nat.zero_add] at hq; exact ⟨q, by rw [Nat.zero_add]; rfl, rfl, hq⟩)
  refine JAll.cons rfl ?_ JAll.nil
  refine JO.callN rfl (.none rfl) rfl Tryd.call96 (fun w1 hw1 => bytesClone_any x w1 (hx.old hw1) hl) ?_
  rintro _ _ ⟨q, rfl, rfl, hq⟩
  refine JA.one 1 ?_
  refine JO.val rfl rfl rfl (.none rfl) (Ev.load1 rfl Tryd.underlying5 rfl (Rd.own memK rfl)) ?_
  refine JA.one 5 ?_
  refine JO.val rfl rfl rfl (.none rfl) (Ev.bu2 rfl rfl rfl (rowv_cells _ _) Tryd.underlying30 (fun _ => by kernel_rfl) Tryd.zeroValue30) ?_
  refine JA.one 6 ?_
  refine JO.sto rfl rfl (.none rfl) (Es.storeA rfl rfl Tryd.sizeOf30 Upd.k rfl rfl (OE.one ⟨x.k, q, x.l⟩)) ?_
  refine JA.done (by kernel_rfl) ?_
  refine JQ.thenN ?_
  refine JC.ret ?_
  refine JQ.end1 (H' := (Row.b 5 q)) (.inl rfl) rfl (.agg rfl memK Tryd.underlying30 rfl Tryd.sizeOf30 rfl) ?_ ?_
  · exact Sub.of_cnt (fun a => by (try dsimp only); simp only [cntA]; omega)
  · first | exact ⟨q, rfl, rfl, hq⟩ | (rw [Nat.zero_add] at hq; exact ⟨q, by rw [Nat.zero_add]; rfl, rfl, hq⟩)

theorem bTwin_any (oa : Option Addr) (cap : Nat) (xs : List Et) (w : World) (hb : Bd w oa cap xs) (hs : ∀ x ∈ xs, x.l.length ≤ 140737488351232) (hmx : xs.length ≤ 1100000) :
    Calls Tryd.prog 36 #[.agg #[.slice oa xs.length cap]] w (Ret w (OwnB 30 5 (xs.map Et.e))) := by
  refine enter (vs := [.agg #[.slice oa xs.length cap]]) Tryd.func36 rfl Tryd.ntmps36 rfl ?_
  refine JC.seq ?_
  refine JC.region ?_
  refine JL.new rfl rfl rfl (.none rfl) (En.boxA rfl) (fun b1 hb1 => ?_)
  refine JL.new rfl rfl rfl (.none rfl) (En.allocZ (cs := #[.slice none 0 0]) Tryd.zeroValue24 rfl) (fun b2 hb2 => ?_)
  refine JL.nil ?_
  refine JQ.thenN ?_
  refine JC.seq ?_
  refine JC.region ?_
  refine JL.new rfl rfl rfl (.none rfl) (En.allocZ (cs := #[.slice none 0 0]) Tryd.zeroValue24 rfl) (fun b3 hb3 => ?_)
  refine JL.nil ?_
  refine JQ.thenN ?_
  refine JC.seq ?_
  refine JC.seq ?_
  refine JC.region ?_
  refine JL.val rfl rfl rfl (.none rfl) (Ev.fld 0 rfl (fun _ _ => by kernel_rfl)) ?_
  refine JL.val rfl rfl rfl (.none rfl) (Ev.load1 rfl Tryd.underlying22 rfl (Rd.own memK rfl)) ?_
  refine JL.val rfl rfl rfl (.none rfl) (Ev.lenS rfl Tryd.underlying22) ?_
  refine JL.mv ?_
  refine JL.nil ?_
  refine JQ.thenN ?_
  refine JC.block ?_
  refine JC.reH (b := b3) (o' := Obj.cells #[Row.v ([] : List OE).length none] 24 (0, 0)) Upd.k rfl ?_
  refine JC.loop (X := Nat × List OE × Option Row)
    (fun ⟨i, os, r⟩ => [(2, .pointer (some ⟨b2, 0, none⟩)), (3, .pointer (some ⟨b3, 0, none⟩)), (7, .slice oa xs.length cap), (8, .int .i64 (xs.length : Int)), (9, .int .i64 (i : Int))])
    (fun ⟨i, os, r⟩ => (b3, Obj.cells #[Row.v os.length r] 24 (0, 0)) :: (b2, Obj.cells #[.slice none 0 0] 24 (0, 0)) :: (Row.b 30 r ++ oeD 5 os))
    (fun ⟨i, os, r⟩ => i ≤ xs.length ∧ os.length = i ∧ Row.ok 2 os.length (oef os) r ∧ (∀ o ∈ os, o.ok) ∧ os.map OE.e = (xs.map Et.e).take i)
    (fun ⟨i, os, r⟩ => xs.length - i) (0, [], none) ?_ ?_ ?_ ?_
  · exact Keeps.k
  · exact Sub.of_cnt (fun a => by (try dsimp only); simp only [show oeD 5 [] = [] from rfl, cntA]; omega)
  · exact ⟨Nat.zero_le _, rfl, Row.ok0, (fun o ho => by cases ho), rfl⟩
  rintro ⟨i, os, r⟩ ⟨hi, hol, hr, hok, he⟩
  refine JC.seq ?_
  refine JC.region ?_
  refine JL.val rfl rfl rfl (.none rfl) (Ev.bin rfl rfl lss_int) ?_
  refine JL.nil ?_
  refine JQ.thenN ?_
  refine JC.seq ?_
  refine JC.cond rfl (fun hc1 => ?_) (fun hc1 => ?_)
  · -- t10 True
    replace hc1 := of_decide_eq_true hc1
    obtain ⟨a, rfl⟩ := hb.get_some (by omega)
    obtain ⟨x, hx⟩ := get_some (l := xs) (k := i) (by omega)
    have hxl := hs x (List.mem_of_getElem? hx)
    refine JC.skip ?_
    refine JQ.thenN ?_
    refine JC.seq ?_
    refine JC.block ?_
    refine JC.seq ?_
    refine JC.region ?_
    refine JL.val rfl rfl rfl (.none rfl) (Ev.idxS rfl rfl Tryd.underlying22 Tryd.sizeOf30 (k := i) rfl (by omega)) ?_
    refine JL.val rfl rfl rfl (.none rfl) (Ev.loadA (l := x.cl) rfl Tryd.underlying30 rfl Tryd.sizeOf30 (Rds.old (hb.at hx)) rfl) ?_
    refine JL.new rfl rfl rfl (.none rfl) (En.allocZ (cs := #[u8 0, .slice none 0 0]) Tryd.zeroValue30 rfl) (fun b5 hb5 => ?_)
    refine JL.sto rfl rfl (.none rfl) (Es.storeA rfl rfl Tryd.sizeOf30 Upd.k szK szK (Et.one x)) ?_
    refine JL.nil ?_
    refine JQ.thenN ?_
    refine JC.regionA (by kernel_rfl) ?_
    refine JA.tk 0 rfl (.none rfl) (fun _ => (Ev.fld 0 rfl (fun _ _ => by kernel_rfl))) ?_
    refine JA.branch [1, 2] (by kernel_rfl) rfl ?_
    refine JAll.cons rfl ?_ ?_
    · -- 1
      refine JO.val rfl rfl rfl (.none rfl) (Ev.load1 (v := Row.v os.length r) rfl Tryd.underlying22 rfl (Rd.own memK rfl)) ?_
      refine JA.one 2 ?_
      refine JO.val rfl rfl rfl (.none rfl) (Ev.lB Tryd.underlying30 Tryd.sizeOf30) ?_
      refine JA.one 3 ?_
      refine JO.callN rfl (.none rfl) rfl Tryd.call57 (fun w1 hw1 => btwin_any x w1 ((hb.bs hx).old hw1) hxl) ?_
      rintro _ _ ⟨q, rfl, rfl, hq⟩
      refine JA.one 4 ?_
      refine JO.new rfl rfl rfl (.none rfl) (En.bs1E (o := ⟨x.k, q, x.l⟩) rfl Tryd.underlying22 Tryd.sizeOf30 Tryd.zeroValue30) (fun b17 hb17 => ?_)
      refine JA.one 5 ?_
      refine JO.gen rfl rfl rfl (.none rfl) (Eg.append1 (r := r) (n := os.length) (xs := oef os) (news := OE.cl ⟨x.k, q, x.l⟩) (z := (.agg #[.int .u8 0, .slice none 0 0])) (s := 2) (bytes := 32) rfl rfl rfl Cut.k Tryd.underlying22 (by kernel_rfl) rfl (by decide) (by decide) hr (Rds.all memK) rfl (by decide) (OE.one _) (by omega)) ?_
      rintro _ _ ⟨rn, rfl, rfl, hrn⟩
      refine JA.tk 6 rfl (.none rfl) (fun _ => (Ev.fld 0 rfl (fun _ _ => by kernel_rfl))) ?_
      refine JA.one 7 ?_
      refine JO.sto rfl rfl (.none rfl) (Es.store0 rfl rfl Tryd.sizeOf22 (rowv_cells _ _) (rowv_one _ _) (by repeat (first | exact .here | apply Upd.there | apply Upd.assoc | apply Upd.left))) ?_
      refine JA.done (by kernel_rfl) ?_
      refine JQ.blockN ?_
      refine JQ.thenN ?_
      refine JC.region ?_
      refine JL.val rfl rfl rfl (.none rfl) (Ev.bin rfl rfl (add_i64 (by omega))) ?_
      refine JL.mv ?_
      refine JL.nil ?_
      refine JQ.loopN (i + 1, os ++ [⟨x.k, q, x.l⟩], some rn) ?_ ?_ ?_ ?_
      · exact Keeps.k
      · (dsimp only; (try rw [oeD_append, oeD_one]); (try rw [List.length_append, List.length_singleton]); exact Sub.of_cnt (fun a => by (try dsimp only); simp only [cntA]; omega))
      · exact ⟨by omega, by rw [List.length_append]; simp; omega, by rw [List.length_append, oef_append, oef_one]; exact hrn, own_ok hok hq, by rw [List.map_append, he]; exact ents_take hx⟩
      · show xs.length - (i + 1) < xs.length - i; omega
    refine JAll.cons rfl ?_ JAll.nil
    refine JO.val rfl rfl rfl (.none rfl) (Ev.lB Tryd.underlying30 Tryd.sizeOf30) ?_
    refine JA.branch [1, 3] (by kernel_rfl) rfl ?_
    refine JAll.cons rfl ?_ ?_
    · -- 1
      refine JO.val rfl rfl rfl (.none rfl) (Ev.load1 (v := Row.v os.length r) rfl Tryd.underlying22 rfl (Rd.own memK rfl)) ?_
      refine JA.one 3 ?_
      refine JO.callN rfl (.none rfl) rfl Tryd.call57 (fun w1 hw1 => btwin_any x w1 ((hb.bs hx).old hw1) hxl) ?_
      rintro _ _ ⟨q, rfl, rfl, hq⟩
      refine JA.one 4 ?_
      refine JO.new rfl rfl rfl (.none rfl) (En.bs1E (o := ⟨x.k, q, x.l⟩) rfl Tryd.underlying22 Tryd.sizeOf30 Tryd.zeroValue30) (fun b17 hb17 => ?_)
      refine JA.one 5 ?_
      refine JO.gen rfl rfl rfl (.none rfl) (Eg.append1 (r := r) (n := os.length) (xs := oef os) (news := OE.cl ⟨x.k, q, x.l⟩) (z := (.agg #[.int .u8 0, .slice none 0 0])) (s := 2) (bytes := 32) rfl rfl rfl Cut.k Tryd.underlying22 (by kernel_rfl) rfl (by decide) (by decide) hr (Rds.all memK) rfl (by decide) (OE.one _) (by omega)) ?_
      rintro _ _ ⟨rn, rfl, rfl, hrn⟩
      refine JA.tk 6 rfl (.none rfl) (fun _ => (Ev.fld 0 rfl (fun _ _ => by kernel_rfl))) ?_
      refine JA.one 7 ?_
      refine JO.sto rfl rfl (.none rfl) (Es.store0 rfl rfl Tryd.sizeOf22 (rowv_cells _ _) (rowv_one _ _) (by repeat (first | exact .here | apply Upd.there | apply Upd.assoc | apply Upd.left))) ?_
      refine JA.done (by kernel_rfl) ?_
      refine JQ.blockN ?_
      refine JQ.thenN ?_
      refine JC.region ?_
      refine JL.val rfl rfl rfl (.none rfl) (Ev.bin rfl rfl (add_i64 (by omega))) ?_
      refine JL.mv ?_
      refine JL.nil ?_
      refine JQ.loopN (i + 1, os ++ [⟨x.k, q, x.l⟩], some rn) ?_ ?_ ?_ ?_
      · exact Keeps.k
      · (dsimp only; (try rw [oeD_append, oeD_one]); (try rw [List.length_append, List.length_singleton]); exact Sub.of_cnt (fun a => by (try dsimp only); simp only [cntA]; omega))
      · exact ⟨by omega, by rw [List.length_append]; simp; omega, by rw [List.length_append, oef_append, oef_one]; exact hrn, own_ok hok hq, by rw [List.map_append, he]; exact ents_take hx⟩
      · show xs.length - (i + 1) < xs.length - i; omega
    refine JAll.cons rfl ?_ JAll.nil
    refine JO.callN rfl (.none rfl) rfl Tryd.call57 (fun w1 hw1 => btwin_any x w1 ((hb.bs hx).old hw1) hxl) ?_
    rintro _ _ ⟨q, rfl, rfl, hq⟩
    refine JA.branch [1, 4] (by kernel_rfl) rfl ?_
    refine JAll.cons rfl ?_ ?_
    · -- 1
      refine JO.val rfl rfl rfl (.none rfl) (Ev.load1 (v := Row.v os.length r) rfl Tryd.underlying22 rfl (Rd.own memK rfl)) ?_
      refine JA.one 4 ?_
      refine JO.new rfl rfl rfl (.none rfl) (En.bs1E (o := ⟨x.k, q, x.l⟩) rfl Tryd.underlying22 Tryd.sizeOf30 Tryd.zeroValue30) (fun b17 hb17 => ?_)
      refine JA.one 5 ?_
      refine JO.gen rfl rfl rfl (.none rfl) (Eg.append1 (r := r) (n := os.length) (xs := oef os) (news := OE.cl ⟨x.k, q, x.l⟩) (z := (.agg #[.int .u8 0, .slice none 0 0])) (s := 2) (bytes := 32) rfl rfl rfl Cut.k Tryd.underlying22 (by kernel_rfl) rfl (by decide) (by decide) hr (Rds.all memK) rfl (by decide) (OE.one _) (by omega)) ?_
      rintro _ _ ⟨rn, rfl, rfl, hrn⟩
      refine JA.tk 6 rfl (.none rfl) (fun _ => (Ev.fld 0 rfl (fun _ _ => by kernel_rfl))) ?_
      refine JA.one 7 ?_
      refine JO.sto rfl rfl (.none rfl) (Es.store0 rfl rfl Tryd.sizeOf22 (rowv_cells _ _) (rowv_one _ _) (by repeat (first | exact .here | apply Upd.there | apply Upd.assoc | apply Upd.left))) ?_
      refine JA.done (by kernel_rfl) ?_
      refine JQ.blockN ?_
      refine JQ.thenN ?_
      refine JC.region ?_
      refine JL.val rfl rfl rfl (.none rfl) (Ev.bin rfl rfl (add_i64 (by omega))) ?_
      refine JL.mv ?_
      refine JL.nil ?_
      refine JQ.loopN (i + 1, os ++ [⟨x.k, q, x.l⟩], some rn) ?_ ?_ ?_ ?_
      · exact Keeps.k
      · (dsimp only; (try rw [oeD_append, oeD_one]); (try rw [List.length_append, List.length_singleton]); exact Sub.of_cnt (fun a => by (try dsimp only); simp only [cntA]; omega))
      · exact ⟨by omega, by rw [List.length_append]; simp; omega, by rw [List.length_append, oef_append, oef_one]; exact hrn, own_ok hok hq, by rw [List.map_append, he]; exact ents_take hx⟩
      · show xs.length - (i + 1) < xs.length - i; omega
    refine JAll.cons rfl ?_ JAll.nil
    refine JO.new rfl rfl rfl (.none rfl) (En.bs1E (o := ⟨x.k, q, x.l⟩) rfl Tryd.underlying22 Tryd.sizeOf30 Tryd.zeroValue30) (fun b17 hb17 => ?_)
    refine JA.one 1 ?_
    refine JO.val rfl rfl rfl (.none rfl) (Ev.load1 (v := Row.v os.length r) rfl Tryd.underlying22 rfl (Rd.own memK rfl)) ?_
    refine JA.one 5 ?_
    refine JO.gen rfl rfl rfl (.none rfl) (Eg.append1 (r := r) (n := os.length) (xs := oef os) (news := OE.cl ⟨x.k, q, x.l⟩) (z := (.agg #[.int .u8 0, .slice none 0 0])) (s := 2) (bytes := 32) rfl rfl rfl Cut.k Tryd.underlying22 (by kernel_rfl) rfl (by decide) (by decide) hr (Rds.all memK) rfl (by decide) (OE.one _) (by omega)) ?_
    rintro _ _ ⟨rn, rfl, rfl, hrn⟩
    refine JA.tk 6 rfl (.none rfl) (fun _ => (Ev.fld 0 rfl (fun _ _ => by kernel_rfl))) ?_
    refine JA.one 7 ?_
    refine JO.sto rfl rfl (.none rfl) (Es.store0 rfl rfl Tryd.sizeOf22 (rowv_cells _ _) (rowv_one _ _) (by repeat (first | exact .here | apply Upd.there | apply Upd.assoc | apply Upd.left))) ?_
    refine JA.done (by kernel_rfl) ?_
    refine JQ.blockN ?_
    refine JQ.thenN ?_
    refine JC.region ?_
    refine JL.val rfl rfl rfl (.none rfl) (Ev.bin rfl rfl (add_i64 (by omega))) ?_
    refine JL.mv ?_
    refine JL.nil ?_
    refine JQ.loopN (i + 1, os ++ [⟨x.k, q, x.l⟩], some rn) ?_ ?_ ?_ ?_
    · exact Keeps.k
    · (dsimp only; (try rw [oeD_append, oeD_one]); (try rw [List.length_append, List.length_singleton]); exact Sub.of_cnt (fun a => by (try dsimp only); simp only [cntA]; omega))
    · exact ⟨by omega, by rw [List.length_append]; simp; omega, by rw [List.length_append, oef_append, oef_one]; exact hrn, own_ok hok hq, by rw [List.map_append, he]; exact ents_take hx⟩
    · show xs.length - (i + 1) < xs.length - i; omega
  · -- t10 False
    replace hc1 := of_decide_eq_false hc1
    obtain rfl : i = xs.length := by omega
    refine JC.exit ?_
    refine JQ.thenE ?_
    refine JQ.thenE ?_
    refine JQ.blockE ?_
    refine JQ.thenN ?_
    refine JC.seq ?_
    refine JC.region ?_
    refine JL.val rfl rfl rfl (.none rfl) (Ev.lB Tryd.underlying24 Tryd.sizeOf24) ?_
    refine JL.sto rfl rfl (.none rfl) (Es.storeA rfl rfl Tryd.sizeOf24 Upd.k rfl rfl (fun u hu => by simp only [List.mem_singleton] at hu; subst hu; exact rowv_one _ _)) ?_
    refine JL.nil ?_
    refine JQ.thenN ?_
    refine JC.ret ?_
    refine JQ.end1 (H' := (Row.b 30 r ++ oeD 5 os)) (.inl rfl) rfl (.agg rfl memK Tryd.underlying24 rfl Tryd.sizeOf24 rfl) ?_ ?_
    · exact Sub.of_cnt (fun a => by (try dsimp only); simp only [cntA]; omega)
    · rw [List.take_of_length_le (by rw [List.length_map]; exact Nat.le_refl _)] at he; exact ⟨r, os, rfl, rfl, hr, hok, he⟩

end Go.Proofs.YtopaednfjjjnbaaDoor
