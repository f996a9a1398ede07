/-
  Boards: the law that the program tells what the reference tells.
-/
import Derived.Test.YtopaednfjjjnbaaDoorBrd7
namespace Go.Proofs.YtopaednfjjjnbaaDoor
open Go Go.RowKit
set_option maxRecDepth 100000

theorem own_len {xs ys : List Et} {N : Nat} (h : ys.map Et.e = xs.map Et.e) (hn : xs.length ≤ N) : ys.length ≤ N := by
  have := congrArg List.length h
  rw [List.length_map, List.length_map] at this
  omega
theorem own_sz {xs ys : List Et} {N : Nat} (h : ys.map Et.e = xs.map Et.e) (hs : ∀ y ∈ xs, y.l.length ≤ N) : ∀ y ∈ ys, y.l.length ≤ N := fun y hy => by
  have h1 : y.e ∈ ys.map Et.e := List.mem_map.2 ⟨y, hy, rfl⟩
  rw [h] at h1
  obtain ⟨z, hz, he⟩ := List.mem_map.1 h1
  have h2 : z.l = y.l := congrArg Prod.snd he
  rw [← h2]
  exact hs z hz

theorem lawTells_any (oa : Option Addr) (cap : Nat) (xs : List Et) (x : Et) (k : UInt8) (w : World) (hb : Bd w oa cap xs) (hx : Bs w x.o x.cap x.l) (hs : ∀ y ∈ xs, y.l.length ≤ 140737488351232) (hk : KMem 1 w) (hf : FMem 0 w) :
    Calls Tryd.prog 5 #[.agg #[.slice oa xs.length cap], .agg x.cl.toArray, u8 k] w (Ret w (fun v _ => v = .bool true)) := by
  refine enter (vs := [.agg #[.slice oa xs.length cap], .agg x.cl.toArray, u8 k]) Tryd.func5 rfl Tryd.ntmps5 rfl ?_
  refine JC.seq ?_
  refine JC.region ?_
  refine JL.new rfl rfl rfl (.none rfl) (En.boxA rfl) (fun b3 hb3 => ?_)
  refine JL.new rfl rfl rfl (.none rfl) (En.boxA rfl) (fun b4 hb4 => ?_)
  refine JL.asg ?_
  refine JL.nil ?_
  refine JQ.thenN ?_
  refine JC.seq ?_
  refine JC.seq ?_
  refine JC.region ?_
  refine JL.val rfl rfl rfl (.none rfl) (Ev.lB Tryd.underlying24 Tryd.sizeOf24) ?_
  refine JL.callN rfl (.none rfl) rfl Tryd.call26 (fun w1 hw1 => bgreat_any oa cap xs w1 (hb.old hw1)) ?_
  rintro _ _ ⟨gr, rfl, hgr⟩
  refine JL.mv ?_
  refine JL.split (d := 28) rfl (fun hgA => ?_) (fun hgA => ?_)
  · -- guard 28 true
    refine JL.skip rfl rfl (.noF rfl rfl rfl) ?_
    refine JL.skip rfl rfl (.noF rfl rfl rfl) ?_
    refine JL.skip rfl rfl (.noF rfl rfl rfl) ?_
    refine JL.skip rfl rfl (.noF rfl rfl rfl) ?_
    refine JL.val rfl rfl rfl (.none rfl) (Ev.pickT rfl rfl) ?_
    refine JL.nil ?_
    refine JQ.thenN ?_
    refine JC.condT rfl ?_
    refine JC.seq ?_
    refine JC.region ?_
    refine JL.asg ?_
    refine JL.nil ?_
    refine JQ.thenN ?_
    refine JC.ret ?_
    refine JQ.thenR ?_
    refine JQ.end1 (H' := []) (.inl rfl) rfl (.tmp rfl) ?_ ?_
    · exact Sub.k
    · first | rfl | exact congrArg Value.bool (decide_eq_true hxe1)
  · -- guard 28 false
    refine JL.val rfl rfl rfl (.yes rfl rfl rfl) (Ev.fld 1 rfl (fun _ _ => by kernel_rfl)) ?_
    refine JL.val rfl rfl rfl (.yes rfl rfl rfl) (Ev.load1 rfl Tryd.underlying28 rfl (Rd.own (cs := x.cl.toArray) memK rfl)) ?_
    refine JL.val rfl rfl rfl (.yes rfl rfl rfl) (Ev.lenS rfl Tryd.underlying28) ?_
    refine JL.val rfl rfl rfl (.yes rfl rfl rfl) (Ev.bin rfl rfl gtr_int) ?_
    refine JL.val rfl rfl rfl (.none rfl) (Ev.pickF rfl rfl) ?_
    refine JL.nil ?_
    refine JQ.thenN ?_
    refine JC.cond rfl (fun hc1 => ?_) (fun hc1 => ?_)
    · -- t33 True
      replace hc1 := of_decide_eq_true hc1
      refine JC.seq ?_
      refine JC.region ?_
      refine JL.asg ?_
      refine JL.nil ?_
      refine JQ.thenN ?_
      refine JC.ret ?_
      refine JQ.thenR ?_
      refine JQ.end1 (H' := []) (.inl rfl) rfl (.tmp rfl) ?_ ?_
      · exact Sub.k
      · first | rfl | exact congrArg Value.bool (decide_eq_true hxe1)
    · -- t33 False
      replace hc1 := of_decide_eq_false hc1
      have hmx : xs.length ≤ 1100000 := by rcases hgr hgA with h | h <;> omega
      refine JC.skip ?_
      refine JQ.thenN ?_
      refine JC.seq ?_
      refine JC.region ?_
      refine JL.val rfl rfl rfl (.none rfl) (Ev.lB Tryd.underlying24 Tryd.sizeOf24) ?_
      refine JL.callN rfl (.none rfl) rfl Tryd.call29 (fun w1 hw1 => ebTwin_any oa cap xs w1 (hb.old hw1) hs hmx) ?_
      rintro _ _ ⟨r1, os1, rfl, rfl, hr1, hok1, he1⟩
      refine JL.new rfl rfl rfl (.none rfl) (En.allocZ (cs := #[.slice none 0 0]) Tryd.zeroValue24 rfl) (fun b7 hb7 => ?_)
      refine JL.sto rfl rfl (.none rfl) (Es.storeA rfl rfl Tryd.sizeOf24 Upd.k rfl rfl (fun u hu => by simp only [List.mem_singleton] at hu; subst hu; exact rowv_one _ _)) ?_
      refine JL.nil ?_
      refine JQ.thenN ?_
      refine JC.seq ?_
      refine JC.region ?_
      obtain ⟨o1, c1, xs1, _, ev1, em1, hB1⟩ := own_bd (e := 30) (t := 5) hr1 hok1
      refine JL.reH (b := b7) (o' := Obj.cells #[.slice o1 xs1.length c1] 24 (0, 0)) (by repeat (first | exact .here | apply Upd.there | apply Upd.assoc | apply Upd.left)) (by rw [ev1]) ?_
      have hxe1 : xs1.map Et.e = (xs.map Et.e) := em1.trans he1
      refine JL.val rfl rfl rfl (.none rfl) (Ev.loadB rfl memK Tryd.underlying30 rfl Tryd.sizeOf30 rfl) ?_
      refine JL.callV rfl (.none rfl) rfl Tryd.call18 (fun w1 hw1 => bLeaf_any x w1 (hx.old hw1) (hk.old hw1) (hf.old hw1)) ?_
      refine JL.mv ?_
      refine JL.val rfl rfl rfl (.none rfl) (Ev.ex0 rfl) ?_
      refine JL.val rfl rfl rfl (.none rfl) (Ev.ex1 rfl) ?_
      refine JL.new rfl rfl rfl (.none rfl) (En.allocZ (cs := arr8 (List.replicate 32 0)) Tryd.zeroValue33 rfl) (fun b8 hb8 => ?_)
      refine JL.sto rfl rfl (.none rfl) (Es.sA Tryd.sizeOf33) ?_
      refine JL.asg ?_
      refine JL.nil ?_
      refine JQ.thenN ?_
      refine JC.seq ?_
      refine JC.region ?_
      refine JL.val rfl rfl rfl (.none rfl) (Ev.lB Tryd.underlying30 Tryd.sizeOf30) ?_
      refine JL.callV rfl (.none rfl) rfl Tryd.call31 (fun w1 hw1 => erLeaf_any x w1 (hx.old hw1)) ?_
      refine JL.mv ?_
      refine JL.val rfl rfl rfl (.none rfl) (Ev.ex0 rfl) ?_
      refine JL.val rfl rfl rfl (.none rfl) (Ev.ex1 rfl) ?_
      refine JL.new rfl rfl rfl (.none rfl) (En.allocZ (cs := arr8 (List.replicate 32 0)) Tryd.zeroValue33 rfl) (fun b10 hb10 => ?_)
      refine JL.sto rfl rfl (.none rfl) (Es.sA Tryd.sizeOf33) ?_
      refine JL.asg ?_
      refine JL.nil ?_
      refine JQ.thenN ?_
      refine JC.seq ?_
      refine JC.region ?_
      refine JL.val rfl rfl rfl (.none rfl) (Ev.lB Tryd.underlying24 Tryd.sizeOf24) ?_
      refine JL.val rfl rfl rfl (.none rfl) (Ev.lB Tryd.underlying30 Tryd.sizeOf30) ?_
      refine JL.callN rfl (.none rfl) rfl Tryd.call12 (fun w1 hw1 => bAdd_any o1 c1 xs1 x w1 (hB1 w1 hw1 (fun p hp => by rcases List.mem_append.1 hp with hp | hp <;> simp [hp])) (hx.old hw1)) ?_
      rintro _ _ ⟨z2, rfl, r2, os2, rfl, rfl, hr2, hok2, he2⟩
      refine JL.mv ?_
      refine JL.val rfl rfl rfl (.none rfl) (Ev.ex0 rfl) ?_
      refine JL.val rfl rfl rfl (.none rfl) (Ev.ex1 rfl) ?_
      refine JL.new rfl rfl rfl (.none rfl) (En.allocZ (cs := #[.slice none 0 0]) Tryd.zeroValue24 rfl) (fun b12 hb12 => ?_)
      refine JL.sto rfl rfl (.none rfl) (Es.storeA rfl rfl Tryd.sizeOf24 Upd.k rfl rfl (fun u hu => by simp only [List.mem_singleton] at hu; subst hu; exact rowv_one _ _)) ?_
      refine JL.asg ?_
      refine JL.nil ?_
      refine JQ.thenN ?_
      refine JC.seq ?_
      refine JC.region ?_
      refine JL.val rfl rfl rfl (.none rfl) (Ev.lB Tryd.underlying24 Tryd.sizeOf24) ?_
      refine JL.val rfl rfl rfl (.none rfl) (Ev.lB Tryd.underlying30 Tryd.sizeOf30) ?_
      refine JL.callN rfl (.none rfl) rfl Tryd.call32 (fun w1 hw1 => ebAdd_any oa cap xs x w1 (hb.old hw1) (hx.old hw1)) ?_
      rintro _ _ ⟨z3, rfl, r3, os3, rfl, rfl, hr3, hok3, he3⟩
      refine JL.mv ?_
      refine JL.val rfl rfl rfl (.none rfl) (Ev.ex0 rfl) ?_
      refine JL.val rfl rfl rfl (.none rfl) (Ev.ex1 rfl) ?_
      refine JL.new rfl rfl rfl (.none rfl) (En.allocZ (cs := #[.slice none 0 0]) Tryd.zeroValue24 rfl) (fun b14 hb14 => ?_)
      refine JL.sto rfl rfl (.none rfl) (Es.storeA rfl rfl Tryd.sizeOf24 Upd.k rfl rfl (fun u hu => by simp only [List.mem_singleton] at hu; subst hu; exact rowv_one _ _)) ?_
      refine JL.asg ?_
      refine JL.nil ?_
      refine JQ.thenN ?_
      refine JC.seq ?_
      refine JC.region ?_
      refine JL.val rfl rfl rfl (.none rfl) (Ev.lB Tryd.underlying24 Tryd.sizeOf24) ?_
      refine JL.mv ?_
      refine JL.callN rfl (.none rfl) rfl Tryd.call17 (fun w1 hw1 => bFind_any o1 c1 xs1 k w1 (hB1 w1 hw1 (fun p hp => by rcases List.mem_append.1 hp with hp | hp <;> simp [hp]))) ?_
      rintro _ _ ⟨r4, rfl, rfl, hr4⟩
      refine JL.mv ?_
      refine JL.val rfl rfl rfl (.none rfl) (Ev.ex0 rfl) ?_
      refine JL.val rfl rfl rfl (.none rfl) (Ev.ex1 rfl) ?_
      refine JL.asg ?_
      refine JL.asg ?_
      refine JL.nil ?_
      refine JQ.thenN ?_
      refine JC.seq ?_
      refine JC.region ?_
      refine JL.val rfl rfl rfl (.none rfl) (Ev.lB Tryd.underlying24 Tryd.sizeOf24) ?_
      refine JL.mv ?_
      refine JL.callN rfl (.none rfl) rfl Tryd.call33 (fun w1 hw1 => rbFind_any oa cap xs k w1 (hb.old hw1)) ?_
      rintro _ _ ⟨r5, rfl, rfl, hr5⟩
      refine JL.mv ?_
      refine JL.val rfl rfl rfl (.none rfl) (Ev.ex0 rfl) ?_
      refine JL.val rfl rfl rfl (.none rfl) (Ev.ex1 rfl) ?_
      refine JL.asg ?_
      refine JL.asg ?_
      refine JL.nil ?_
      refine JQ.thenN ?_
      refine JC.seq ?_
      refine JC.region ?_
      refine JL.val rfl rfl rfl (.none rfl) (Ev.lB Tryd.underlying24 Tryd.sizeOf24) ?_
      refine JL.callV rfl (.none rfl) rfl Tryd.call34 (fun w1 hw1 => bRoot_any o1 c1 xs1 w1 (hB1 w1 hw1 (fun p hp => by rcases List.mem_append.1 hp with hp | hp <;> simp [hp])) (hk.old hw1) (hf.old hw1)) ?_
      refine JL.mv ?_
      refine JL.val rfl rfl rfl (.none rfl) (Ev.ex0 rfl) ?_
      refine JL.val rfl rfl rfl (.none rfl) (Ev.ex1 rfl) ?_
      refine JL.new rfl rfl rfl (.none rfl) (En.allocZ (cs := arr8 (List.replicate 32 0)) Tryd.zeroValue33 rfl) (fun b20 hb20 => ?_)
      refine JL.sto rfl rfl (.none rfl) (Es.sA Tryd.sizeOf33) ?_
      refine JL.asg ?_
      refine JL.nil ?_
      refine JQ.thenN ?_
      refine JC.seq ?_
      refine JC.region ?_
      refine JL.val rfl rfl rfl (.none rfl) (Ev.lB Tryd.underlying24 Tryd.sizeOf24) ?_
      refine JL.callV rfl (.none rfl) rfl Tryd.call35 (fun w1 hw1 => rbRoot_any oa cap xs w1 (hb.old hw1)) ?_
      refine JL.mv ?_
      refine JL.val rfl rfl rfl (.none rfl) (Ev.ex0 rfl) ?_
      refine JL.val rfl rfl rfl (.none rfl) (Ev.ex1 rfl) ?_
      refine JL.new rfl rfl rfl (.none rfl) (En.allocZ (cs := arr8 (List.replicate 32 0)) Tryd.zeroValue33 rfl) (fun b22 hb22 => ?_)
      refine JL.sto rfl rfl (.none rfl) (Es.sA Tryd.sizeOf33) ?_
      refine JL.asg ?_
      refine JL.nil ?_
      refine JQ.thenN ?_
      refine JC.seq ?_
      refine JC.region ?_
      refine JL.val rfl rfl rfl (.none rfl) (Ev.lB Tryd.underlying24 Tryd.sizeOf24) ?_
      refine JL.callN rfl (.none rfl) rfl Tryd.call36 (fun w1 hw1 => bTwin_any o1 c1 xs1 w1 (hB1 w1 hw1 (fun p hp => by rcases List.mem_append.1 hp with hp | hp <;> simp [hp])) (own_sz hxe1 hs) (own_len hxe1 hmx)) ?_
      rintro _ _ ⟨r6, os6, rfl, rfl, hr6, hok6, he6⟩
      refine JL.new rfl rfl rfl (.none rfl) (En.allocZ (cs := #[.slice none 0 0]) Tryd.zeroValue24 rfl) (fun b24 hb24 => ?_)
      refine JL.sto rfl rfl (.none rfl) (Es.storeA rfl rfl Tryd.sizeOf24 Upd.k rfl rfl (fun u hu => by simp only [List.mem_singleton] at hu; subst hu; exact rowv_one _ _)) ?_
      refine JL.nil ?_
      refine JQ.thenN ?_
      refine JC.seq ?_
      obtain ⟨o2, c2, xs2, _, ev2, em2, hB2⟩ := own_bd (e := 30) (t := 5) hr2 hok2
      refine JC.reH (b := b12) (o' := Obj.cells #[.slice o2 xs2.length c2] 24 (0, 0)) (by repeat (first | exact .here | apply Upd.there | apply Upd.assoc | apply Upd.left)) (by rw [ev2]) ?_
      obtain ⟨o3, c3, xs3, _, ev3, em3, hB3⟩ := own_bd (e := 30) (t := 5) hr3 hok3
      refine JC.reH (b := b14) (o' := Obj.cells #[.slice o3 xs3.length c3] 24 (0, 0)) (by repeat (first | exact .here | apply Upd.there | apply Upd.assoc | apply Upd.left)) (by rw [ev3]) ?_
      obtain ⟨o6, c6, xs6, _, ev6, em6, hB6⟩ := own_bd (e := 30) (t := 5) hr6 hok6
      refine JC.reH (b := b24) (o' := Obj.cells #[.slice o6 xs6.length c6] 24 (0, 0)) (by repeat (first | exact .here | apply Upd.there | apply Upd.assoc | apply Upd.left)) (by rw [ev6]) ?_
      have hxe2 : xs2.map Et.e = adV (xs.map Et.e) x.e := by rw [em2, he2, hxe1]
      have hxe3 : xs3.map Et.e = adV (xs.map Et.e) x.e := by rw [em3, he3]
      have hxe6 : xs6.map Et.e = (xs.map Et.e) := by rw [em6, he6, hxe1]
      refine JC.regionQ (by kernel_rfl) (by kernel_rfl) ?_
      refine JW.val rfl rfl (.none rfl) (Ev.lB Tryd.underlying24 Tryd.sizeOf24) ?_
      refine JW.val rfl rfl (.none rfl) (Ev.lB Tryd.underlying24 Tryd.sizeOf24) ?_
      refine JW.call rfl (.none rfl) rfl Tryd.call27 (fun w1 hw1 => ebSame_any o6 oa c6 cap xs6 xs w1 (hB6 w1 hw1 (fun p hp => by rcases List.mem_append.1 hp with hp | hp <;> simp [hp])) (hb.old hw1)) ?_
      refine JW.val rfl rfl (.none rfl) (Ev.move rfl) ?_
      refine JW.know (d := 85) (b := true) rfl ?_ ?_
      · first | rfl | exact decide_eq_true rfl | exact decide_eq_true hxe1 | exact decide_eq_true hxe6 | (rw [hxe1]; first | rfl | exact decide_eq_true rfl | simp) | exact decide_eq_true (hxe2.trans hxe3.symm)
      refine JW.val rfl rfl (.yes rfl rfl rfl) (Ev.lB Tryd.underlying24 Tryd.sizeOf24) ?_
      refine JW.val rfl rfl (.yes rfl rfl rfl) (Ev.lB Tryd.underlying24 Tryd.sizeOf24) ?_
      refine JW.call rfl (.yes rfl rfl rfl) rfl Tryd.call37 (fun w1 hw1 => bSame_any o6 oa c6 cap xs6 xs w1 (hB6 w1 hw1 (fun p hp => by rcases List.mem_append.1 hp with hp | hp <;> simp [hp])) (hb.old hw1)) ?_
      refine JW.val rfl rfl (.none rfl) (Ev.pickT rfl rfl) ?_
      refine JW.val rfl rfl (.none rfl) (Ev.move rfl) ?_
      refine JW.know (d := 90) (b := true) rfl ?_ ?_
      · first | rfl | exact decide_eq_true rfl | exact decide_eq_true hxe1 | exact decide_eq_true hxe6 | (rw [hxe1]; first | rfl | exact decide_eq_true rfl | simp) | exact decide_eq_true (hxe2.trans hxe3.symm)
      refine JW.val rfl rfl (.yes rfl rfl rfl) (Ev.lB Tryd.underlying24 Tryd.sizeOf24) ?_
      refine JW.val rfl rfl (.yes rfl rfl rfl) (Ev.lB Tryd.underlying24 Tryd.sizeOf24) ?_
      refine JW.call rfl (.yes rfl rfl rfl) rfl Tryd.call37 (fun w1 hw1 => bSame_any o2 o1 c2 c1 xs2 xs1 w1 (hB2 w1 hw1 (fun p hp => by rcases List.mem_append.1 hp with hp | hp <;> simp [hp])) (hB1 w1 hw1 (fun p hp => by rcases List.mem_append.1 hp with hp | hp <;> simp [hp]))) ?_
      refine JW.val rfl rfl (.yes rfl rfl rfl) (Ev.lB Tryd.underlying24 Tryd.sizeOf24) ?_
      refine JW.val rfl rfl (.yes rfl rfl rfl) (Ev.lB Tryd.underlying24 Tryd.sizeOf24) ?_
      refine JW.call rfl (.yes rfl rfl rfl) rfl Tryd.call27 (fun w1 hw1 => ebSame_any o2 oa c2 cap xs2 xs w1 (hB2 w1 hw1 (fun p hp => by rcases List.mem_append.1 hp with hp | hp <;> simp [hp])) (hb.old hw1)) ?_
      refine JW.val rfl rfl (.yes rfl rfl rfl) (Ev.bin rfl rfl (eql_bool Tryd.underlying4)) ?_
      refine JW.val rfl rfl (.none rfl) (Ev.pickT rfl rfl) ?_
      refine JW.val rfl rfl (.none rfl) (Ev.assign rfl) ?_
      refine JW.nilQ ?_
      refine JQ.thenN ?_
      refine JC.seq ?_
      obtain ⟨o4, c4, e4, _, hC4⟩ := Row.vw (e := 3) hr4
      refine JC.re (d := 16) rfl e4 ?_
      obtain ⟨o5, c5, e5, _, hC5⟩ := Row.vw (e := 3) hr5
      refine JC.re (d := 18) rfl e5 ?_
      refine JC.regionQ (by kernel_rfl) (by kernel_rfl) ?_
      refine JW.val rfl rfl (.none rfl) (Ev.lB Tryd.underlying24 Tryd.sizeOf24) ?_
      refine JW.call rfl (.none rfl) rfl Tryd.call25 (fun w1 hw1 => bCheck_any o1 c1 xs1 w1 (hB1 w1 hw1 (fun p hp => by rcases List.mem_append.1 hp with hp | hp <;> simp [hp]))) ?_
      refine JW.val rfl rfl (.none rfl) (Ev.lB Tryd.underlying24 Tryd.sizeOf24) ?_
      refine JW.call rfl (.none rfl) rfl Tryd.call38 (fun w1 hw1 => rbCheck_any oa cap xs w1 (hb.old hw1)) ?_
      refine JW.val rfl rfl (.none rfl) (Ev.bin rfl rfl eql_int) ?_
      refine JW.val rfl rfl (.none rfl) (Ev.move rfl) ?_
      refine JW.know (d := 104) (b := true) rfl ?_ ?_
      · first | rfl | exact decide_eq_true rfl | exact decide_eq_true hxe1 | exact decide_eq_true hxe6 | (rw [hxe1]; first | rfl | exact decide_eq_true rfl | simp) | exact decide_eq_true (hxe2.trans hxe3.symm)
      refine JW.val rfl rfl (.yes rfl rfl rfl) (Ev.lB Tryd.underlying33 Tryd.sizeOf33) ?_
      refine JW.val rfl rfl (.yes rfl rfl rfl) (Ev.lB Tryd.underlying33 Tryd.sizeOf33) ?_
      refine JW.val rfl rfl (.yes rfl rfl rfl) (Ev.bin rfl rfl (eql_arr8 (n := 32) Tryd.underlying33 Tryd.underlying5 (by kernel_rfl) (by kernel_rfl) (by first | rfl | exact dig_len _ | assumption | exact sha_length _ | exact shaO_length _) (by first | rfl | exact dig_len _ | assumption | exact sha_length _ | exact shaO_length _))) ?_
      refine JW.val rfl rfl (.none rfl) (Ev.pickT rfl rfl) ?_
      refine JW.val rfl rfl (.none rfl) (Ev.move rfl) ?_
      refine JW.know (d := 109) (b := true) rfl ?_ ?_
      · first | rfl | exact decide_eq_true rfl | exact decide_eq_true hxe1 | exact decide_eq_true hxe6 | (rw [hxe1]; first | rfl | exact decide_eq_true rfl | simp) | exact decide_eq_true (hxe2.trans hxe3.symm)
      refine JW.val rfl rfl (.yes rfl rfl rfl) (Ev.move rfl) ?_
      refine JW.val rfl rfl (.yes rfl rfl rfl) (Ev.move rfl) ?_
      refine JW.val rfl rfl (.yes rfl rfl rfl) (Ev.bin rfl rfl eql_int) ?_
      refine JW.val rfl rfl (.none rfl) (Ev.pickT rfl rfl) ?_
      refine JW.val rfl rfl (.none rfl) (Ev.move rfl) ?_
      refine JW.know (d := 114) (b := true) rfl ?_ ?_
      · first | rfl | exact decide_eq_true rfl | exact decide_eq_true hxe1 | exact decide_eq_true hxe6 | (rw [hxe1]; first | rfl | exact decide_eq_true rfl | simp) | exact decide_eq_true (hxe2.trans hxe3.symm)
      refine JW.val rfl rfl (.yes rfl rfl rfl) (Ev.lB Tryd.underlying24 Tryd.sizeOf24) ?_
      refine JW.val rfl rfl (.yes rfl rfl rfl) (Ev.lB Tryd.underlying24 Tryd.sizeOf24) ?_
      refine JW.call rfl (.yes rfl rfl rfl) rfl Tryd.call27 (fun w1 hw1 => ebSame_any o2 o3 c2 c3 xs2 xs3 w1 (hB2 w1 hw1 (fun p hp => by rcases List.mem_append.1 hp with hp | hp <;> simp [hp])) (hB3 w1 hw1 (fun p hp => by rcases List.mem_append.1 hp with hp | hp <;> simp [hp]))) ?_
      refine JW.val rfl rfl (.none rfl) (Ev.pickT rfl rfl) ?_
      refine JW.val rfl rfl (.none rfl) (Ev.move rfl) ?_
      refine JW.know (d := 119) (b := true) rfl ?_ ?_
      · first | rfl | exact decide_eq_true rfl | exact decide_eq_true hxe1 | exact decide_eq_true hxe6 | (rw [hxe1]; first | rfl | exact decide_eq_true rfl | simp) | exact decide_eq_true (hxe2.trans hxe3.symm)
      refine JW.val rfl rfl (.yes rfl rfl rfl) (Ev.move rfl) ?_
      refine JW.val rfl rfl (.yes rfl rfl rfl) (Ev.move rfl) ?_
      refine JW.val rfl rfl (.yes rfl rfl rfl) (Ev.bin rfl rfl eql_int) ?_
      refine JW.val rfl rfl (.none rfl) (Ev.pickT rfl rfl) ?_
      refine JW.val rfl rfl (.none rfl) (Ev.move rfl) ?_
      refine JW.know (d := 124) (b := true) rfl ?_ ?_
      · first | rfl | exact decide_eq_true rfl | exact decide_eq_true hxe1 | exact decide_eq_true hxe6 | (rw [hxe1]; first | rfl | exact decide_eq_true rfl | simp) | exact decide_eq_true (hxe2.trans hxe3.symm)
      refine JW.val rfl rfl (.yes rfl rfl rfl) (Ev.move rfl) ?_
      refine JW.val rfl rfl (.yes rfl rfl rfl) (Ev.move rfl) ?_
      refine JW.call rfl (.yes rfl rfl rfl) rfl Tryd.call24 (fun w1 hw1 => sameInts_any o4 o5 c4 c5 (fdV (xs1.map Et.e) k) (fdV (xs.map Et.e) k) w1 (hC4 w1 hw1 (fun p hp => by simp [hp])) (hC5 w1 hw1 (fun p hp => by simp [hp])) (fdV_le _ _)) ?_
      refine JW.val rfl rfl (.none rfl) (Ev.pickT rfl rfl) ?_
      refine JW.val rfl rfl (.none rfl) (Ev.move rfl) ?_
      refine JW.know (d := 129) (b := true) rfl ?_ ?_
      · first | rfl | exact decide_eq_true rfl | exact decide_eq_true hxe1 | exact decide_eq_true hxe6 | (rw [hxe1]; first | rfl | exact decide_eq_true rfl | simp) | exact decide_eq_true (hxe2.trans hxe3.symm)
      refine JW.val rfl rfl (.yes rfl rfl rfl) (Ev.move rfl) ?_
      refine JW.val rfl rfl (.yes rfl rfl rfl) (Ev.move rfl) ?_
      refine JW.val rfl rfl (.yes rfl rfl rfl) (Ev.bin rfl rfl eql_int) ?_
      refine JW.val rfl rfl (.none rfl) (Ev.pickT rfl rfl) ?_
      refine JW.val rfl rfl (.none rfl) (Ev.move rfl) ?_
      refine JW.know (d := 134) (b := true) rfl ?_ ?_
      · first | rfl | exact decide_eq_true rfl | exact decide_eq_true hxe1 | exact decide_eq_true hxe6 | (rw [hxe1]; first | rfl | exact decide_eq_true rfl | simp) | exact decide_eq_true (hxe2.trans hxe3.symm)
      refine JW.val rfl rfl (.yes rfl rfl rfl) (Ev.lB Tryd.underlying33 Tryd.sizeOf33) ?_
      refine JW.val rfl rfl (.yes rfl rfl rfl) (Ev.lB Tryd.underlying33 Tryd.sizeOf33) ?_
      refine JW.val rfl rfl (.yes rfl rfl rfl) (Ev.bin rfl rfl (eql_arr8 (n := 32) Tryd.underlying33 Tryd.underlying5 (by kernel_rfl) (by kernel_rfl) (by first | rfl | exact dig_len _ | assumption | exact sha_length _ | exact shaO_length _) (by first | rfl | exact dig_len _ | assumption | exact sha_length _ | exact shaO_length _))) ?_
      refine JW.val rfl rfl (.none rfl) (Ev.pickT rfl rfl) ?_
      refine JW.val rfl rfl (.none rfl) (Ev.move rfl) ?_
      refine JW.know (d := 139) (b := true) rfl ?_ ?_
      · first | rfl | exact decide_eq_true rfl | exact decide_eq_true hxe1 | exact decide_eq_true hxe6 | (rw [hxe1]; first | rfl | exact decide_eq_true rfl | simp) | exact decide_eq_true (hxe2.trans hxe3.symm)
      refine JW.val rfl rfl (.yes rfl rfl rfl) (Ev.move rfl) ?_
      refine JW.val rfl rfl (.yes rfl rfl rfl) (Ev.move rfl) ?_
      refine JW.val rfl rfl (.yes rfl rfl rfl) (Ev.bin rfl rfl eql_int) ?_
      refine JW.val rfl rfl (.none rfl) (Ev.pickT rfl rfl) ?_
      refine JW.val rfl rfl (.none rfl) (Ev.move rfl) ?_
      refine JW.know (d := 144) (b := true) rfl ?_ ?_
      · first | rfl | exact decide_eq_true rfl | exact decide_eq_true hxe1 | exact decide_eq_true hxe6 | (rw [hxe1]; first | rfl | exact decide_eq_true rfl | simp) | exact decide_eq_true (hxe2.trans hxe3.symm)
      refine JW.val rfl rfl (.yes rfl rfl rfl) (Ev.move rfl) ?_
      refine JW.val rfl rfl (.none rfl) (Ev.pickT rfl rfl) ?_
      refine JW.val rfl rfl (.none rfl) (Ev.move rfl) ?_
      refine JW.know (d := 147) (b := true) rfl ?_ ?_
      · first | rfl | exact decide_eq_true rfl | exact decide_eq_true hxe1 | exact decide_eq_true hxe6 | (rw [hxe1]; first | rfl | exact decide_eq_true rfl | simp) | exact decide_eq_true (hxe2.trans hxe3.symm)
      refine JW.val rfl rfl (.yes rfl rfl rfl) (Ev.lB Tryd.underlying24 Tryd.sizeOf24) ?_
      refine JW.val rfl rfl (.yes rfl rfl rfl) (Ev.lB Tryd.underlying24 Tryd.sizeOf24) ?_
      refine JW.call rfl (.yes rfl rfl rfl) rfl Tryd.call27 (fun w1 hw1 => ebSame_any o1 oa c1 cap xs1 xs w1 (hB1 w1 hw1 (fun p hp => by rcases List.mem_append.1 hp with hp | hp <;> simp [hp])) (hb.old hw1)) ?_
      refine JW.val rfl rfl (.none rfl) (Ev.pickT rfl rfl) ?_
      refine JW.val rfl rfl (.none rfl) (Ev.assign rfl) ?_
      refine JW.nilQ ?_
      refine JQ.thenN ?_
      refine JC.ret ?_
      refine JQ.end1 (H' := []) (.inl rfl) rfl (.tmp rfl) ?_ ?_
      · exact Sub.k
      · first | rfl | exact congrArg Value.bool (decide_eq_true hxe1)

end Go.Proofs.YtopaednfjjjnbaaDoor
