/-
  Consistency in the program: proofs, peaks, appending, the root of peaks.
-/
import Derived.Test.YtopaednfjjjnbaaDoorCon5Nm
namespace Go.Proofs.YtopaednfjjjnbaaDoor
open Go Go.RowKit
set_option maxRecDepth 100000

def prV (ds : List Dig) (i : Int) : List Dig := if 1024 < ds.length then [] else if i < 1 ∨ (ds.length : Int) < i then [] else proofR ds i.toNat true
theorem other0_any (t : Tn) (oa : Option Addr) (cap : Nat) (ds : List Dig) (w : World) (hd : Dl w oa cap ds) (hb : t.fm + t.n ≤ ds.length) (hk : t.k ≤ t.n) (hmx : ds.length ≤ 1100000) :
    Calls Tryd.prog 101 #[.agg (tcl t).toArray, .slice oa ds.length cap] w (Ret w (fun v H => H = [] ∧ ∃ ob cb, v = .slice ob (otherD ds t).length cb ∧ ∀ w', Dl w' oa cap ds → Dl w' ob cb (otherD ds t))) :=
  (other_any t oa cap ds w hd hb hk hmx).mono fun _ _ ⟨v, _, he, hp, hy⟩ => ⟨v, [], he, hp.sub .nil, rfl, hy⟩
def prE (ds : List Dig) (i : Int) : Int := if 1024 < ds.length then 4 else if i < 1 ∨ (ds.length : Int) < i then 2 else 0
section
variable {ds : List Dig} {i : Int}
theorem prV_gr (h : 1024 < ds.length) : prV ds i = [] := if_pos h
theorem prE_gr (h : 1024 < ds.length) : prE ds i = 4 := if_pos h
theorem prV_bad (h : ¬ 1024 < ds.length) (h1 : i < 1 ∨ (ds.length : Int) < i) : prV ds i = [] := (if_neg h).trans (if_pos h1)
theorem prE_bad (h : ¬ 1024 < ds.length) (h1 : i < 1 ∨ (ds.length : Int) < i) : prE ds i = 2 := (if_neg h).trans (if_pos h1)
theorem prV_ok (h : ¬ 1024 < ds.length) (h1 : ¬ (i < 1 ∨ (ds.length : Int) < i)) : prV ds i = proofR ds i.toNat true := (if_neg h).trans (if_neg h1)
theorem prE_ok (h : ¬ 1024 < ds.length) (h1 : ¬ (i < 1 ∨ (ds.length : Int) < i)) : prE ds i = 0 := (if_neg h).trans (if_neg h1)
end
theorem otherD_le (ds : List Dig) (t : Tn) : (otherD ds t).length ≤ ds.length := by
  unfold otherD
  split <;> (rw [List.length_take, List.length_drop]; omega)
theorem map_take_succ {α β : Type} {f : α → β} {l : List α} {k : Nat} {x : α} (h : l[k]? = some x) : (l.take (k + 1)).map f = (l.take k).map f ++ [f x] := by
  rw [List.take_add_one, h, List.map_append]; rfl
theorem cProve_any (oa : Option Addr) (cap : Nat) (ds : List Dig) (i : Int) (hib : -9223372036854775808 ≤ i ∧ i ≤ 9223372036854775807) (w : World) (hd : Dl w oa cap ds) (hk : KMem 1 w) (hf : FMem 0 w) :
    Calls Tryd.prog 60 #[.slice oa ds.length cap, .int .i64 i] w (Ret w (fun v H => ∃ r : Option Row, v = .tuple #[Row.v (prV ds i).length r, .int .i64 (prE ds i)] ∧ H = Row.b 33 r ∧ Row.ok 32 (prV ds i).length (fl (prV ds i)) r)) := by
  refine enterM (vs := [.slice oa ds.length cap, .int .i64 i]) Tryd.func60 rfl Tryd.ntmps60 rfl ?_
  refine JC.seq ?_
  refine JC.region ?_
  refine JL.new rfl rfl rfl (.none rfl) (En.box1 rfl rfl) (fun b2 hb2 => ?_)
  refine JL.asg ?_
  refine JL.asg ?_
  refine JL.nil ?_
  refine JQ.thenN ?_
  refine JC.seq ?_
  refine JC.seq ?_
  refine JC.region ?_
  refine JL.val rfl rfl rfl (.none rfl) (Ev.load1 rfl Tryd.underlying39 rfl (Rd.own memK rfl)) ?_
  refine JL.val rfl rfl rfl (.none rfl) (Ev.lenS rfl Tryd.underlying39) ?_
  refine JL.val rfl rfl rfl (.none rfl) (Ev.bin rfl rfl gtr_int) ?_
  refine JL.nil ?_
  refine JQ.thenN ?_
  refine JC.cond rfl (fun hc1 => ?_) (fun hc1 => ?_)
  · -- t18 True
    replace hc1 := of_decide_eq_true hc1
    have hgr : 1024 < ds.length := by omega
    refine JC.seq ?_
    refine JC.region ?_
    refine JL.asg ?_
    refine JL.asg ?_
    refine JL.nil ?_
    refine JQ.thenN ?_
    refine JC.ret ?_
    refine JQ.thenR ?_
    refine JQ.endM0s (H' := []) (.inl rfl) (by exact Sub.of_cnt (fun a => by (try dsimp only); simp only [cntA]; omega)) (res2 rfl (.tmp rfl) (.tmp rfl)) ?_
    · exact ⟨none, by rw [prV_gr hgr, prE_gr hgr]; rfl, rfl, by rw [prV_gr hgr]; exact Row.ok0⟩
  · -- t18 False
    replace hc1 := of_decide_eq_false hc1
    have hsm : ¬ 1024 < ds.length := by omega
    refine JC.skip ?_
    refine JQ.thenN ?_
    refine JC.seq ?_
    refine JC.seq ?_
    refine JC.region ?_
    refine JL.mv ?_
    refine JL.val rfl rfl rfl (.none rfl) (Ev.bin rfl rfl lss_int) ?_
    refine JL.mv ?_
    refine JL.split (d := 21) rfl (fun hg1 => ?_) (fun hg1 => ?_)
    · -- guard 21 true
      have hbad : i < 1 ∨ (ds.length : Int) < i := .inl (by have := of_decide_eq_true hg1; omega)
      refine JL.skip rfl rfl (.noF rfl rfl rfl) ?_
      refine JL.skip rfl rfl (.noF rfl rfl rfl) ?_
      refine JL.skip rfl rfl (.noF rfl rfl rfl) ?_
      refine JL.skip rfl rfl (.noF rfl rfl rfl) ?_
      refine JL.val rfl rfl rfl (.none rfl) (Ev.pickT rfl rfl) ?_
      refine JL.nil ?_
      refine JQ.thenN ?_
      refine JC.condT rfl ?_
      refine JC.seq ?_
      refine JC.region ?_
      refine JL.asg ?_
      refine JL.asg ?_
      refine JL.nil ?_
      refine JQ.thenN ?_
      refine JC.ret ?_
      refine JQ.thenR ?_
      refine JQ.endM0s (H' := []) (.inl rfl) (by exact Sub.of_cnt (fun a => by (try dsimp only); simp only [cntA]; omega)) (res2 rfl (.tmp rfl) (.tmp rfl)) ?_
      · exact ⟨none, by rw [prV_bad hsm hbad, prE_bad hsm hbad]; rfl, rfl, by rw [prV_bad hsm hbad]; exact Row.ok0⟩
    · -- guard 21 false
      have hg1 := of_decide_eq_false hg1
      refine JL.val rfl rfl rfl (.yes rfl rfl rfl) (Ev.move rfl) ?_
      refine JL.val rfl rfl rfl (.yes rfl rfl rfl) (Ev.load1 rfl Tryd.underlying39 rfl (Rd.own memK rfl)) ?_
      refine JL.val rfl rfl rfl (.yes rfl rfl rfl) (Ev.lenS rfl Tryd.underlying39) ?_
      refine JL.val rfl rfl rfl (.yes rfl rfl rfl) (Ev.bin rfl rfl gtr_int) ?_
      refine JL.val rfl rfl rfl (.none rfl) (Ev.pickF rfl rfl) ?_
      refine JL.nil ?_
      refine JQ.thenN ?_
      refine JC.cond rfl (fun hc2 => ?_) (fun hc2 => ?_)
      · -- t26 True
        replace hc2 := of_decide_eq_true hc2
        have hbad : i < 1 ∨ (ds.length : Int) < i := .inr (by omega)
        refine JC.seq ?_
        refine JC.region ?_
        refine JL.asg ?_
        refine JL.asg ?_
        refine JL.nil ?_
        refine JQ.thenN ?_
        refine JC.ret ?_
        refine JQ.thenR ?_
        refine JQ.endM0s (H' := []) (.inl rfl) (by exact Sub.of_cnt (fun a => by (try dsimp only); simp only [cntA]; omega)) (res2 rfl (.tmp rfl) (.tmp rfl)) ?_
        · exact ⟨none, by rw [prV_bad hsm hbad, prE_bad hsm hbad]; rfl, rfl, by rw [prV_bad hsm hbad]; exact Row.ok0⟩
      · -- t26 False
        replace hc2 := of_decide_eq_false hc2
        have hok : ¬ (i < 1 ∨ (ds.length : Int) < i) := by omega
        obtain ⟨n, rfl⟩ : ∃ n : Nat, i = (n : Int) := ⟨i.toNat, by omega⟩
        have hn1 : 1 ≤ n := by omega
        have hn2 : n ≤ ds.length := by omega
        have hdl := down_len (fm := 0) hn1 hn2
        have hdo := down_ok ds.length n ds.length 0 (Nat.le_refl _) hn1 hn2
        have hda := downA_le ds.length n ds.length 0 (Nat.le_refl _) hn1 hn2
        refine JC.skip ?_
        refine JQ.thenN ?_
        refine JC.seq ?_
        refine JC.region ?_
        refine JL.mv ?_
        refine JL.val rfl rfl rfl (.none rfl) (Ev.load1 rfl Tryd.underlying39 rfl (Rd.own memK rfl)) ?_
        refine JL.val rfl rfl rfl (.none rfl) (Ev.lenS rfl Tryd.underlying39) ?_
        refine JL.callN rfl (.none rfl) rfl Tryd.call99 (fun w1 hw1 => down_any n ds.length w1 hn1 hn2 (by omega)) ?_
        rintro _ _ ⟨r1, rfl, rfl, hr1⟩
        refine JL.mv ?_
        refine JL.val rfl rfl rfl (.none rfl) (Ev.ex0 rfl) ?_
        refine JL.val rfl rfl rfl (.none rfl) (Ev.ex1 rfl) ?_
        refine JL.val rfl rfl rfl (.none rfl) (Ev.ex2 rfl) ?_
        refine JL.asg ?_
        refine JL.asg ?_
        refine JL.asg ?_
        refine JL.nil ?_
        refine JQ.thenN ?_
        refine JC.seq ?_
        refine JC.region ?_
        refine JL.new rfl rfl rfl (.none rfl) (En.allocZ (cs := #[.slice none 0 0]) Tryd.zeroValue39 rfl) (fun b9 hb9 => ?_)
        refine JL.nil ?_
        refine JQ.thenN ?_
        refine JC.seq ?_
        refine JC.seq ?_
        refine JC.region ?_
        refine JL.mv ?_
        refine JL.val rfl rfl rfl (.none rfl) (Ev.not rfl) ?_
        refine JL.nil ?_
        refine JQ.thenN ?_
        refine JC.cond rfl (fun hfr => ?_) (fun hfr => ?_)
        · -- t36 True
          have hfr : downF n ds.length true = false := by simpa using hfr
          obtain ⟨ob, eob, hob⟩ := sub3_cut hd (l := downA n ds.length 0) (k := n) (m := cap) (by omega) hn2 (by have := hd.le; omega) (Nat.le_refl _)
          have hxl : ((ds.drop (downA n ds.length 0)).take (n - downA n ds.length 0)).length ≤ 1024 := by rw [List.length_take, List.length_drop]; omega
          refine JC.seq ?_
          refine JC.region ?_
          refine JL.val rfl rfl rfl (.none rfl) (Ev.load1 rfl Tryd.underlying39 rfl (Rd.own memK rfl)) ?_
          refine JL.mv ?_
          refine JL.mv ?_
          refine JL.val rfl rfl rfl (.none rfl) (Ev.cast (v' := .slice ob ((ds.drop (downA n ds.length 0)).take (n - downA n ds.length 0)).length (cap - downA n ds.length 0)) (eob) (Ev.sliceLH rfl rfl rfl Tryd.underlying39 Tryd.sizeOf33 (l := downA n ds.length 0) (h := n) (by omega) (by omega) (by omega) (by have := hd.le; omega))) ?_
          refine JL.callV rfl (.none rfl) rfl Tryd.call73 (fun w1 hw1 => Root_any ob (cap - downA n ds.length 0) ((ds.drop (downA n ds.length 0)).take (n - downA n ds.length 0)) w1 (hob w1 (hd.old hw1)) (by omega) (hk.old hw1) (hf.old hw1)) ?_
          refine JL.mv ?_
          refine JL.val rfl rfl rfl (.none rfl) (Ev.ex0 rfl) ?_
          refine JL.val rfl rfl rfl (.none rfl) (Ev.ex1 rfl) ?_
          refine JL.new rfl rfl rfl (.none rfl) (En.allocZ (cs := arr8 (List.replicate 32 0)) Tryd.zeroValue33 rfl) (fun b10 hb10 => ?_)
          refine JL.sto rfl rfl (.none rfl) (Es.sA Tryd.sizeOf33) ?_
          refine JL.asg ?_
          refine JL.nil ?_
          refine JQ.thenN ?_
          refine JC.region ?_
          refine JL.val rfl rfl rfl (.none rfl) (Ev.load1 rfl Tryd.underlying39 rfl (Rd.own memK rfl)) ?_
          refine JL.val rfl rfl rfl (.none rfl) (Ev.lB Tryd.underlying33 Tryd.sizeOf33) ?_
          refine JL.new rfl rfl rfl (.none rfl) (En.bs1D (e := 33) rfl Tryd.underlying39 Tryd.sizeOf33 Tryd.zeroValue33) (fun b47 hb47 => ?_)
          refine JL.gen rfl rfl rfl (.none rfl) (Eg.append1 (r := none) (n := 0) (xs := fl []) (news := fl [rootV ((ds.drop (downA n ds.length 0)).take (n - downA n ds.length 0))]) (z := (.agg (arr8 (List.replicate 32 0)))) (s := 32) (bytes := 32) rfl rfl rfl Cut.k Tryd.underlying39 (by kernel_rfl) rfl (by decide) (by decide) ⟨rfl, rfl⟩ (Rds.all memK) (fl_length _) (by decide) (fl_one _) (by omega)) ?_
          rintro _ _ ⟨rn, rfl, rfl, hrn⟩
          refine JL.sto rfl rfl (.none rfl) (Es.store0 rfl rfl Tryd.sizeOf39 (Row.v_cells _ _) (Row.v_one _ _) Upd.k) ?_
          refine JL.nil ?_
          refine JQ.thenN ?_
          refine JC.seq ?_
          refine JC.seq ?_
          refine JC.region ?_
          refine JL.mv ?_
          refine JL.callN rfl (.none rfl) rfl Tryd.call100 (fun w1 hw1 => backT_any _ w1 (Row.v_cells _ _)) ?_
          rintro _ _ ⟨bb, rfl, rfl⟩
          refine JL.nil ?_
          refine JQ.thenN ?_
          refine JC.block ?_
          refine JC.reH (b := b9) (o' := Obj.cells #[Row.v [rootV ((ds.drop (downA n ds.length 0)).take (n - downA n ds.length 0))].length (some rn)] 39 (0, 0)) Upd.k rfl ?_
          refine JC.rangeH (ps := [51, 52]) (X := List Dig × Option Row) (Y := Nat) ((downW n ds.length 0).length) (fun ⟨out, q⟩ E => (b9, Obj.cells #[Row.v out.length q] 39 (0, 0)) :: (b2, Obj.cells #[.slice oa ds.length cap] 39 (0, 0)) :: (Row.b 33 q ++ E)) (fun k ⟨out, q⟩ => out = [rootR ((ds.drop (downA n ds.length 0)).take (n - downA n ds.length 0))] ++ ((downW n ds.length 0).reverse.take k).map (fun t => rootR (otherD ds t)) ∧ Row.ok 32 out.length (fl out) q) (fun c ⟨out, q⟩ => False) ((fun k vs _ => ∃ t : Tn, (downW n ds.length 0)[(downW n ds.length 0).length - 1 - k]? = some t ∧ vs = [.int .i64 (((downW n ds.length 0).length : Int) - 1 - (k : Int)), .agg (tcl t).toArray])) (((bb, Obj.cells #[Row.v (downW n ds.length 0).length r1] 147 (0, 0)) :: Row.b 154 r1)) ([rootV ((ds.drop (downA n ds.length 0)).take (n - downA n ds.length 0))], some rn) (fun k ⟨out, q⟩ vs y => [(2, .pointer (some ⟨b2, 0, none⟩)), (9, .pointer (some ⟨b9, 0, none⟩)), (13, .pointer (some ⟨y, 0, none⟩)), (51, (vs.headD undef)), (52, ((vs.drop 1).headD undef))]) (fun ⟨out, q⟩ vs y E => (y, Obj.cells (((vs.drop 1).headD undef)).cells 154 (0, 0)) :: (b9, Obj.cells #[Row.v out.length q] 39 (0, 0)) :: (b2, Obj.cells #[.slice oa ds.length cap] 39 (0, 0)) :: (Row.b 33 q ++ E)) (fun ⟨out, q⟩ _ => by simp) (fun ⟨out, q⟩ _ _ _ => by simp) rfl Tryd.call128 ?_ ?_ rfl (fun _ _ _ h => by obtain ⟨_, _, rfl⟩ := h; rfl) (fun X A Inv Z l x0 w1 hi hw hy => backTI_any (downW n ds.length 0) r1 bb (by omega) X A Inv Z l x0 w w1 hi hw hy hr1) ?_ ?_ ?_ ?_
          · exact Sub.of_cnt (fun a => by (try dsimp only); simp only [cntA]; omega)
          · exact ⟨by rw [rootV_ok (by omega)]; rfl, hrn⟩
          · rintro lr k ⟨out, q⟩ vs O E hkN ⟨ho, hq⟩ ⟨t, ht, rfl⟩ hO
            refine JC.region ?_
            refine JL.new rfl rfl rfl (.none rfl) (En.allocZ (cs := #[.int .i64 0, .int .i64 0, .int .i64 0, .bool false]) Tryd.zeroValue154 rfl) (fun b13 hb13 => ?_)
            refine JL.sto rfl rfl (.none rfl) (Es.storeA rfl rfl Tryd.sizeOf154 Upd.k szK szK (fun u hu => ft_one [t] u (by simpa [ft] using hu))) ?_
            refine JL.nil ?_
            refine JQ.asgH b13 ?_ ?_
            · exact Keeps.k
            · exact Sub.k
          · rintro lr k ⟨out, q⟩ vs y O E hkN ⟨ho, hq⟩ ⟨t, ht, rfl⟩ hO
            change JC _ [(2, .pointer (some ⟨b2, 0, none⟩)), (9, .pointer (some ⟨b9, 0, none⟩)), (13, .pointer (some ⟨y, 0, none⟩)), (51, (.int .i64 (((downW n ds.length 0).length : Int) - 1 - (k : Int)))), (52, (Value.agg (tcl t).toArray))] ((y, Obj.cells ((Value.agg (tcl t).toArray)).cells 154 (0, 0)) :: (b9, Obj.cells #[Row.v out.length q] 39 (0, 0)) :: (b2, Obj.cells #[.slice oa ds.length cap] 39 (0, 0)) :: (Row.b 33 q ++ E)) _ _
            have htm := List.mem_of_getElem? ht
            have hto := hdo t htm
            have hol : (otherD ds t).length ≤ ds.length := otherD_le ds t
            have hoq : out.length ≤ 1 + k := by rw [ho, List.length_append, List.length_map, List.length_take]; simp; omega
            refine JC.block ?_
            refine JC.seq ?_
            refine JC.region ?_
            refine JL.val rfl rfl rfl (.none rfl) (Ev.lB Tryd.underlying154 Tryd.sizeOf154) ?_
            refine JL.val rfl rfl rfl (.none rfl) (Ev.load1 rfl Tryd.underlying39 rfl (Rd.own memK rfl)) ?_
            refine JL.callN rfl (.none rfl) rfl Tryd.call101 (fun w1 hw1 => other0_any t oa cap ds w1 (hd.old hw1) (by omega) (by omega) (by omega)) ?_
            rintro _ _ ⟨rfl, ob, cb, rfl, hob⟩
            refine JL.callV rfl (.none rfl) rfl Tryd.call73 (fun w1 hw1 => Root_any ob cb (otherD ds t) w1 (hob w1 (hd.old hw1)) (by omega) (hk.old hw1) (hf.old hw1)) ?_
            refine JL.mv ?_
            refine JL.val rfl rfl rfl (.none rfl) (Ev.ex0 rfl) ?_
            refine JL.val rfl rfl rfl (.none rfl) (Ev.ex1 rfl) ?_
            refine JL.new rfl rfl rfl (.none rfl) (En.allocZ (cs := arr8 (List.replicate 32 0)) Tryd.zeroValue33 rfl) (fun b14 hb14 => ?_)
            refine JL.sto rfl rfl (.none rfl) (Es.sA Tryd.sizeOf33) ?_
            refine JL.asg ?_
            refine JL.nil ?_
            refine JQ.thenN ?_
            refine JC.region ?_
            refine JL.val rfl rfl rfl (.none rfl) (Ev.load1 (v := Row.v out.length q) rfl Tryd.underlying39 rfl (Rd.own memK rfl)) ?_
            refine JL.val rfl rfl rfl (.none rfl) (Ev.lB Tryd.underlying33 Tryd.sizeOf33) ?_
            refine JL.new rfl rfl rfl (.none rfl) (En.bs1D (e := 33) rfl Tryd.underlying39 Tryd.sizeOf33 Tryd.zeroValue33) (fun b62 hb62 => ?_)
            refine JL.gen rfl rfl rfl (.none rfl) (Eg.append1 (r := q) (n := out.length) (xs := fl out) (news := fl [rootV (otherD ds t)]) (z := (.agg (arr8 (List.replicate 32 0)))) (s := 32) (bytes := 32) rfl rfl rfl Cut.k Tryd.underlying39 (by kernel_rfl) rfl (by decide) (by decide) hq (Rds.all memK) (fl_length _) (by decide) (fl_one _) (by omega)) ?_
            rintro _ _ ⟨rn, rfl, rfl, hrn⟩
            refine JL.sto rfl rfl (.none rfl) (Es.store0 rfl rfl Tryd.sizeOf39 (Row.v_cells _ _) (Row.v_one _ _) Upd.k) ?_
            refine JL.nil ?_
            refine JQ.blockN ?_
            refine JQ.bodG (out ++ [rootV (otherD ds t)], some rn) ?_ ?_
            · exact ⟨by rw [rootV_ok (by omega), ho, List.append_assoc, map_take_succ (show (downW n ds.length 0).reverse[k]? = some t by rw [List.getElem?_reverse hkN]; exact ht)], by rw [List.length_append, fl_append]; exact hrn⟩
            · (dsimp only; rw [List.length_append, List.length_singleton]; exact Sub.of_cnt (fun a => by (try dsimp only); simp only [cntA]; omega))
          · rintro ⟨out, q⟩ D E ⟨ho, hq⟩
            have hpf : out = prV ds (n : Int) := by rw [prV_ok hsm hok, Int.toNat_natCast, ho, List.take_of_length_le (l := (downW n ds.length 0).reverse) (i := (downW n ds.length 0).length) (by rw [List.length_reverse]; exact Nat.le_refl _)]; have h := down_proof ds.length ds n ds.length 0 true (Nat.le_refl _) hn1 hn2 (by omega); rw [List.drop_zero, List.take_of_length_le (Nat.le_refl _), hfr, Nat.zero_add] at h; exact h.symm
            refine JQ.blockN ?_
            refine JQ.thenN ?_
            refine JC.seq ?_
            refine JC.region ?_
            refine JL.val rfl rfl rfl (.none rfl) (Ev.load1 (v := Row.v out.length q) rfl Tryd.underlying39 rfl (Rd.own memK rfl)) ?_
            refine JL.asg ?_
            refine JL.asg ?_
            refine JL.nil ?_
            refine JQ.thenN ?_
            refine JC.ret ?_
            refine JQ.endMs (H' := (Row.b 33 q)) (.inl rfl) memK ⟨_, Upd.k, by exact Sub.of_cnt (fun a => by (try dsimp only); simp only [cntA]; omega), (res2 rfl (.tmp rfl) (.tmp rfl))⟩ ?_
            · exact ⟨q, by rw [← hpf, prE_ok hsm hok], rfl, by rw [← hpf]; exact hq⟩
          · rintro c ⟨out, q⟩ D E hs
            exact hs.elim
        · -- t36 False
          have hfr : downF n ds.length true = true := by simpa using hfr
          refine JC.skip ?_
          refine JQ.thenN ?_
          refine JC.seq ?_
          refine JC.seq ?_
          refine JC.region ?_
          refine JL.mv ?_
          refine JL.callN rfl (.none rfl) rfl Tryd.call100 (fun w1 hw1 => backT_any _ w1 (Row.v_cells _ _)) ?_
          rintro _ _ ⟨bb, rfl, rfl⟩
          refine JL.nil ?_
          refine JQ.thenN ?_
          refine JC.block ?_
          refine JC.reH (b := b9) (o' := Obj.cells #[Row.v ([] : List Dig).length none] 39 (0, 0)) Upd.k rfl ?_
          refine JC.rangeH (ps := [51, 52]) (X := List Dig × Option Row) (Y := Nat) ((downW n ds.length 0).length) (fun ⟨out, q⟩ E => (b9, Obj.cells #[Row.v out.length q] 39 (0, 0)) :: (b2, Obj.cells #[.slice oa ds.length cap] 39 (0, 0)) :: (Row.b 33 q ++ E)) (fun k ⟨out, q⟩ => out = [] ++ ((downW n ds.length 0).reverse.take k).map (fun t => rootR (otherD ds t)) ∧ Row.ok 32 out.length (fl out) q) (fun c ⟨out, q⟩ => False) ((fun k vs _ => ∃ t : Tn, (downW n ds.length 0)[(downW n ds.length 0).length - 1 - k]? = some t ∧ vs = [.int .i64 (((downW n ds.length 0).length : Int) - 1 - (k : Int)), .agg (tcl t).toArray])) (((bb, Obj.cells #[Row.v (downW n ds.length 0).length r1] 147 (0, 0)) :: Row.b 154 r1)) ([], none) (fun k ⟨out, q⟩ vs y => [(2, .pointer (some ⟨b2, 0, none⟩)), (9, .pointer (some ⟨b9, 0, none⟩)), (13, .pointer (some ⟨y, 0, none⟩)), (51, (vs.headD undef)), (52, ((vs.drop 1).headD undef))]) (fun ⟨out, q⟩ vs y E => (y, Obj.cells (((vs.drop 1).headD undef)).cells 154 (0, 0)) :: (b9, Obj.cells #[Row.v out.length q] 39 (0, 0)) :: (b2, Obj.cells #[.slice oa ds.length cap] 39 (0, 0)) :: (Row.b 33 q ++ E)) (fun ⟨out, q⟩ _ => by simp) (fun ⟨out, q⟩ _ _ _ => by simp) rfl Tryd.call128 ?_ ?_ rfl (fun _ _ _ h => by obtain ⟨_, _, rfl⟩ := h; rfl) (fun X A Inv Z l x0 w1 hi hw hy => backTI_any (downW n ds.length 0) r1 bb (by omega) X A Inv Z l x0 w w1 hi hw hy hr1) ?_ ?_ ?_ ?_
          · exact Sub.of_cnt (fun a => by (try dsimp only); simp only [cntA]; omega)
          · exact ⟨rfl, Row.ok0⟩
          · rintro lr k ⟨out, q⟩ vs O E hkN ⟨ho, hq⟩ ⟨t, ht, rfl⟩ hO
            refine JC.region ?_
            refine JL.new rfl rfl rfl (.none rfl) (En.allocZ (cs := #[.int .i64 0, .int .i64 0, .int .i64 0, .bool false]) Tryd.zeroValue154 rfl) (fun b13 hb13 => ?_)
            refine JL.sto rfl rfl (.none rfl) (Es.storeA rfl rfl Tryd.sizeOf154 Upd.k szK szK (fun u hu => ft_one [t] u (by simpa [ft] using hu))) ?_
            refine JL.nil ?_
            refine JQ.asgH b13 ?_ ?_
            · exact Keeps.k
            · exact Sub.k
          · rintro lr k ⟨out, q⟩ vs y O E hkN ⟨ho, hq⟩ ⟨t, ht, rfl⟩ hO
            change JC _ [(2, .pointer (some ⟨b2, 0, none⟩)), (9, .pointer (some ⟨b9, 0, none⟩)), (13, .pointer (some ⟨y, 0, none⟩)), (51, (.int .i64 (((downW n ds.length 0).length : Int) - 1 - (k : Int)))), (52, (Value.agg (tcl t).toArray))] ((y, Obj.cells ((Value.agg (tcl t).toArray)).cells 154 (0, 0)) :: (b9, Obj.cells #[Row.v out.length q] 39 (0, 0)) :: (b2, Obj.cells #[.slice oa ds.length cap] 39 (0, 0)) :: (Row.b 33 q ++ E)) _ _
            have htm := List.mem_of_getElem? ht
            have hto := hdo t htm
            have hol : (otherD ds t).length ≤ ds.length := otherD_le ds t
            have hoq : out.length ≤ 1 + k := by rw [ho, List.length_append, List.length_map, List.length_take]; simp; omega
            refine JC.block ?_
            refine JC.seq ?_
            refine JC.region ?_
            refine JL.val rfl rfl rfl (.none rfl) (Ev.lB Tryd.underlying154 Tryd.sizeOf154) ?_
            refine JL.val rfl rfl rfl (.none rfl) (Ev.load1 rfl Tryd.underlying39 rfl (Rd.own memK rfl)) ?_
            refine JL.callN rfl (.none rfl) rfl Tryd.call101 (fun w1 hw1 => other0_any t oa cap ds w1 (hd.old hw1) (by omega) (by omega) (by omega)) ?_
            rintro _ _ ⟨rfl, ob, cb, rfl, hob⟩
            refine JL.callV rfl (.none rfl) rfl Tryd.call73 (fun w1 hw1 => Root_any ob cb (otherD ds t) w1 (hob w1 (hd.old hw1)) (by omega) (hk.old hw1) (hf.old hw1)) ?_
            refine JL.mv ?_
            refine JL.val rfl rfl rfl (.none rfl) (Ev.ex0 rfl) ?_
            refine JL.val rfl rfl rfl (.none rfl) (Ev.ex1 rfl) ?_
            refine JL.new rfl rfl rfl (.none rfl) (En.allocZ (cs := arr8 (List.replicate 32 0)) Tryd.zeroValue33 rfl) (fun b14 hb14 => ?_)
            refine JL.sto rfl rfl (.none rfl) (Es.sA Tryd.sizeOf33) ?_
            refine JL.asg ?_
            refine JL.nil ?_
            refine JQ.thenN ?_
            refine JC.region ?_
            refine JL.val rfl rfl rfl (.none rfl) (Ev.load1 (v := Row.v out.length q) rfl Tryd.underlying39 rfl (Rd.own memK rfl)) ?_
            refine JL.val rfl rfl rfl (.none rfl) (Ev.lB Tryd.underlying33 Tryd.sizeOf33) ?_
            refine JL.new rfl rfl rfl (.none rfl) (En.bs1D (e := 33) rfl Tryd.underlying39 Tryd.sizeOf33 Tryd.zeroValue33) (fun b62 hb62 => ?_)
            refine JL.gen rfl rfl rfl (.none rfl) (Eg.append1 (r := q) (n := out.length) (xs := fl out) (news := fl [rootV (otherD ds t)]) (z := (.agg (arr8 (List.replicate 32 0)))) (s := 32) (bytes := 32) rfl rfl rfl Cut.k Tryd.underlying39 (by kernel_rfl) rfl (by decide) (by decide) hq (Rds.all memK) (fl_length _) (by decide) (fl_one _) (by omega)) ?_
            rintro _ _ ⟨rn, rfl, rfl, hrn⟩
            refine JL.sto rfl rfl (.none rfl) (Es.store0 rfl rfl Tryd.sizeOf39 (Row.v_cells _ _) (Row.v_one _ _) Upd.k) ?_
            refine JL.nil ?_
            refine JQ.blockN ?_
            refine JQ.bodG (out ++ [rootV (otherD ds t)], some rn) ?_ ?_
            · exact ⟨by rw [rootV_ok (by omega), ho, List.append_assoc, map_take_succ (show (downW n ds.length 0).reverse[k]? = some t by rw [List.getElem?_reverse hkN]; exact ht)], by rw [List.length_append, fl_append]; exact hrn⟩
            · (dsimp only; rw [List.length_append, List.length_singleton]; exact Sub.of_cnt (fun a => by (try dsimp only); simp only [cntA]; omega))
          · rintro ⟨out, q⟩ D E ⟨ho, hq⟩
            have hpf : out = prV ds (n : Int) := by rw [prV_ok hsm hok, Int.toNat_natCast, ho, List.take_of_length_le (l := (downW n ds.length 0).reverse) (i := (downW n ds.length 0).length) (by rw [List.length_reverse]; exact Nat.le_refl _)]; have h := down_proof ds.length ds n ds.length 0 true (Nat.le_refl _) hn1 hn2 (by omega); rw [List.drop_zero, List.take_of_length_le (Nat.le_refl _), hfr, Nat.zero_add] at h; exact h.symm
            refine JQ.blockN ?_
            refine JQ.thenN ?_
            refine JC.seq ?_
            refine JC.region ?_
            refine JL.val rfl rfl rfl (.none rfl) (Ev.load1 (v := Row.v out.length q) rfl Tryd.underlying39 rfl (Rd.own memK rfl)) ?_
            refine JL.asg ?_
            refine JL.asg ?_
            refine JL.nil ?_
            refine JQ.thenN ?_
            refine JC.ret ?_
            refine JQ.endMs (H' := (Row.b 33 q)) (.inl rfl) memK ⟨_, Upd.k, by exact Sub.of_cnt (fun a => by (try dsimp only); simp only [cntA]; omega), (res2 rfl (.tmp rfl) (.tmp rfl))⟩ ?_
            · exact ⟨q, by rw [← hpf, prE_ok hsm hok], rfl, by rw [← hpf]; exact hq⟩
          · rintro c ⟨out, q⟩ D E hs
            exact hs.elim

end Go.Proofs.YtopaednfjjjnbaaDoor
