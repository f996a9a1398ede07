/-
  Consistency in the program: proofs, peaks, appending, the root of peaks.
-/
import Derived.Test.YtimegpilihfghaaDoorCon5
namespace Go.Proofs.YtimegpilihfghaaDoor
open Go Go.RowKit
set_option maxRecDepth 100000

def prV (ds : List Dig) (i : Int) : List Dig := if 1024 < ds.length then [] else if i < 1 ∨ (ds.length : Int) < i then [] else proofR ds i.toNat true
theorem other0_any (t : Tn) (oa : Option Addr) (cap : Nat) (ds : List Dig) (w : World) (hd : Dl w oa cap ds) (hb : t.fm + t.n ≤ ds.length) (hk : t.k ≤ t.n) (hmx : ds.length ≤ 1100000) :
    Calls Tryd.prog 41 #[.agg (tcl t).toArray, .slice oa ds.length cap] w (Ret w (fun v H => H = [] ∧ ∃ ob cb, v = .slice ob (otherD ds t).length cb ∧ ∀ w', Dl w' oa cap ds → Dl w' ob cb (otherD ds t))) :=
  (other_any t oa cap ds w hd hb hk hmx).mono fun _ _ ⟨v, _, he, hp, hy⟩ => ⟨v, [], he, hp.sub .nil, rfl, hy⟩
def prE (ds : List Dig) (i : Int) : Int := if 1024 < ds.length then 4 else if i < 1 ∨ (ds.length : Int) < i then 2 else 0
section
variable {ds : List Dig} {i : Int}
theorem prV_gr (h : 1024 < ds.length) : prV ds i = [] := if_pos h
theorem prE_gr (h : 1024 < ds.length) : prE ds i = 4 := if_pos h
theorem prV_bad (h : ¬ 1024 < ds.length) (h1 : i < 1 ∨ (ds.length : Int) < i) : prV ds i = [] := (if_neg h).trans (if_pos h1)
theorem prE_bad (h : ¬ 1024 < ds.length) (h1 : i < 1 ∨ (ds.length : Int) < i) : prE ds i = 2 := (if_neg h).trans (if_pos h1)
theorem prV_ok (h : ¬ 1024 < ds.length) (h1 : ¬ (i < 1 ∨ (ds.length : Int) < i)) : prV ds i = proofR ds i.toNat true := (if_neg h).trans (if_neg h1)
theorem prE_ok (h : ¬ 1024 < ds.length) (h1 : ¬ (i < 1 ∨ (ds.length : Int) < i)) : prE ds i = 0 := (if_neg h).trans (if_neg h1)
end
theorem otherD_le (ds : List Dig) (t : Tn) : (otherD ds t).length ≤ ds.length := by
  unfold otherD
  split <;> (rw [List.length_take, List.length_drop]; omega)
theorem map_take_succ {α β : Type} {f : α → β} {l : List α} {k : Nat} {x : α} (h : l[k]? = some x) : (l.take (k + 1)).map f = (l.take k).map f ++ [f x] := by
  rw [List.take_add_one, h, List.map_append]; rfl
theorem foldl_take_succ {α β : Type} {f : β → α → β} {b : β} {l : List α} {k : Nat} {x : α} (h : l[k]? = some x) : (l.take (k + 1)).foldl f b = f ((l.take k).foldl f b) x := by
  rw [List.take_add_one, h, List.foldl_append]; rfl
theorem proot_back (q : List Dig) (z : Dig) : prootR (q ++ [z]) = q.foldr (fun x t => nodeD x t) z := by
  induction q with
  | nil => rfl
  | cons a q ih =>
    cases q with
    | nil => rfl
    | cons b q => exact congrArg (nodeD a) ih
theorem over_cons_len {l out ds : List Dig} (h1 : 1 ≤ l.length) (ho : out ++ overR l = overR ds) : out.length + 1 ≤ ds.length := by
  have h2 := congrArg List.length ho
  rw [List.length_append, overR_cons h1, List.length_cons] at h2
  have := over_le ds
  omega
theorem Row.cutD {q : List Dig} {z : Dig} {r : Row} (h : Row.ok 32 (q ++ [z]).length (fl (q ++ [z])) (some r)) : Row.ok 32 q.length (fl q) (some r) := by
  obtain ⟨h1, h2, h3, h4, h5⟩ := h
  have e : (q ++ [z]).length = q.length + 1 := by simp
  refine ⟨fl_length _, by omega, h3, h4, ?_⟩
  have h6 := congrArg (List.take (q.length * 32)) h5
  rw [List.take_take, Nat.min_eq_left (by omega), fl_take, List.take_left' rfl] at h6
  exact h6

theorem rcProve_any (oa : Option Addr) (cap : Nat) (ds : List Dig) (i : Int) (hib : -9223372036854775808 ≤ i ∧ i ≤ 9223372036854775807) (w : World) (hd : Dl w oa cap ds) (hmx : ds.length ≤ 4398046510976) :
    Calls Tryd.prog 18 #[.slice oa ds.length cap, .int .i64 i] w (Ret w (fun v H => ∃ r : Option Row, v = .tuple #[Row.v (prV ds i).length r, .int .i64 (prE ds i)] ∧ H = Row.b 22 r ∧ Row.ok 32 (prV ds i).length (fl (prV ds i)) r)) := by
  refine enter (vs := [.slice oa ds.length cap, .int .i64 i]) Tryd.func18 rfl Tryd.ntmps18 rfl ?_
  refine JC.seq ?_
  refine JC.region ?_
  refine JL.asg ?_
  refine JL.asg ?_
  refine JL.nil ?_
  refine JQ.thenN ?_
  refine JC.seq ?_
  refine JC.seq ?_
  refine JC.region ?_
  refine JL.mv ?_
  refine JL.val rfl rfl rfl (.none rfl) (Ev.lenS rfl Tryd.underlying23) ?_
  refine JL.val rfl rfl rfl (.none rfl) (Ev.bin rfl rfl gtr_int) ?_
  refine JL.nil ?_
  refine JQ.thenN ?_
  refine JC.cond rfl (fun hc1 => ?_) (fun hc1 => ?_)
  · -- t8 True
    replace hc1 := of_decide_eq_true hc1
    have hgr : 1024 < ds.length := by omega
    refine JC.seq ?_
    refine JC.region ?_
    refine JL.asg ?_
    refine JL.asg ?_
    refine JL.nil ?_
    refine JQ.thenN ?_
    refine JC.ret ?_
    refine JQ.thenR ?_
    refine JQ.end2 (H' := []) (.inl rfl) rfl (.tmp rfl) (.tmp rfl) ?_ ?_
    · first | exact Sub.all | exact Sub.nil | exact Sub.of_cnt (fun a => by (try dsimp only); simp only [cntA]; omega)
    · exact ⟨none, by rw [prV_gr hgr, prE_gr hgr]; rfl, rfl, by rw [prV_gr hgr]; exact Row.ok0⟩
  · -- t8 False
    replace hc1 := of_decide_eq_false hc1
    have hsm : ¬ 1024 < ds.length := by omega
    have hmx : ds.length ≤ 1100000 := by omega
    refine JC.skip ?_
    refine JQ.thenN ?_
    refine JC.seq ?_
    refine JC.seq ?_
    refine JC.region ?_
    refine JL.mv ?_
    refine JL.val rfl rfl rfl (.none rfl) (Ev.bin rfl rfl lss_int) ?_
    refine JL.mv ?_
    refine JL.split (d := 11) rfl (fun hg1 => ?_) (fun hg1 => ?_)
    · -- guard 11 true
      have hbad : i < 1 ∨ (ds.length : Int) < i := .inl (by have := of_decide_eq_true hg1; omega)
      refine JL.skip rfl rfl (.noF rfl rfl rfl) ?_
      refine JL.skip rfl rfl (.noF rfl rfl rfl) ?_
      refine JL.skip rfl rfl (.noF rfl rfl rfl) ?_
      refine JL.skip rfl rfl (.noF rfl rfl rfl) ?_
      refine JL.val rfl rfl rfl (.none rfl) (Ev.pickT rfl rfl) ?_
      refine JL.nil ?_
      refine JQ.thenN ?_
      refine JC.condT rfl ?_
      refine JC.seq ?_
      refine JC.region ?_
      refine JL.asg ?_
      refine JL.asg ?_
      refine JL.nil ?_
      refine JQ.thenN ?_
      refine JC.ret ?_
      refine JQ.thenR ?_
      refine JQ.end2 (H' := []) (.inl rfl) rfl (.tmp rfl) (.tmp rfl) ?_ ?_
      · first | exact Sub.all | exact Sub.nil | exact Sub.of_cnt (fun a => by (try dsimp only); simp only [cntA]; omega)
      · exact ⟨none, by rw [prV_bad hsm hbad, prE_bad hsm hbad]; rfl, rfl, by rw [prV_bad hsm hbad]; exact Row.ok0⟩
    · -- guard 11 false
      have hg1 := of_decide_eq_false hg1
      refine JL.val rfl rfl rfl (.yes rfl rfl rfl) (Ev.move rfl) ?_
      refine JL.val rfl rfl rfl (.yes rfl rfl rfl) (Ev.move rfl) ?_
      refine JL.val rfl rfl rfl (.yes rfl rfl rfl) (Ev.lenS rfl Tryd.underlying23) ?_
      refine JL.val rfl rfl rfl (.yes rfl rfl rfl) (Ev.bin rfl rfl gtr_int) ?_
      refine JL.val rfl rfl rfl (.none rfl) (Ev.pickF rfl rfl) ?_
      refine JL.nil ?_
      refine JQ.thenN ?_
      refine JC.cond rfl (fun hc2 => ?_) (fun hc2 => ?_)
      · -- t16 True
        replace hc2 := of_decide_eq_true hc2
        have hbad : i < 1 ∨ (ds.length : Int) < i := .inr (by omega)
        refine JC.seq ?_
        refine JC.region ?_
        refine JL.asg ?_
        refine JL.asg ?_
        refine JL.nil ?_
        refine JQ.thenN ?_
        refine JC.ret ?_
        refine JQ.thenR ?_
        refine JQ.end2 (H' := []) (.inl rfl) rfl (.tmp rfl) (.tmp rfl) ?_ ?_
        · first | exact Sub.all | exact Sub.nil | exact Sub.of_cnt (fun a => by (try dsimp only); simp only [cntA]; omega)
        · exact ⟨none, by rw [prV_bad hsm hbad, prE_bad hsm hbad]; rfl, rfl, by rw [prV_bad hsm hbad]; exact Row.ok0⟩
      · -- t16 False
        replace hc2 := of_decide_eq_false hc2
        have hok : ¬ (i < 1 ∨ (ds.length : Int) < i) := by omega
        obtain ⟨n, rfl⟩ : ∃ n : Nat, i = (n : Int) := ⟨i.toNat, by omega⟩
        have hn1 : 1 ≤ n := by omega
        have hn2 : n ≤ ds.length := by omega
        have hdl := down_len (fm := 0) hn1 hn2
        have hdo := down_ok ds.length n ds.length 0 (Nat.le_refl _) hn1 hn2
        have hda := downA_le ds.length n ds.length 0 (Nat.le_refl _) hn1 hn2
        refine JC.skip ?_
        refine JQ.thenN ?_
        refine JC.seq ?_
        refine JC.region ?_
        refine JL.mv ?_
        refine JL.mv ?_
        refine JL.callN rfl (.none rfl) rfl Tryd.call42 (fun w1 hw1 => rcOf_any oa cap ds n true w1 (hd.old hw1) hmx hn1 hn2) ?_
        rintro _ _ ⟨r1, rfl, rfl, hr1⟩
        refine JL.asg ?_
        refine JL.asg ?_
        refine JL.nil ?_
        refine JQ.thenN ?_
        refine JC.ret ?_
        refine JQ.end2 (H' := (Row.b 22 r1)) (.inl rfl) rfl (.tmp rfl) (.tmp rfl) ?_ ?_
        · first | exact Sub.all | exact Sub.nil | exact Sub.of_cnt (fun a => by (try dsimp only); simp only [cntA]; omega)
        · exact ⟨r1, by rw [prV_ok hsm hok, prE_ok hsm hok, Int.toNat_natCast], rfl, by rw [prV_ok hsm hok, Int.toNat_natCast]; exact hr1⟩

theorem cProve_any (oa : Option Addr) (cap : Nat) (ds : List Dig) (i : Int) (hib : -9223372036854775808 ≤ i ∧ i ≤ 9223372036854775807) (w : World) (hd : Dl w oa cap ds) (hk : KMem 1 w) (hf : FMem 0 w) :
    Calls Tryd.prog 17 #[.slice oa ds.length cap, .int .i64 i] w (Ret w (fun v H => ∃ r : Option Row, v = .tuple #[Row.v (prV ds i).length r, .int .i64 (prE ds i)] ∧ H = Row.b 22 r ∧ Row.ok 32 (prV ds i).length (fl (prV ds i)) r)) := by
  refine enterM (vs := [.slice oa ds.length cap, .int .i64 i]) Tryd.func17 rfl Tryd.ntmps17 rfl ?_
  refine JC.seq ?_
  refine JC.region ?_
  refine JL.new rfl rfl rfl (.none rfl) (En.box1 rfl rfl) (fun b2 hb2 => ?_)
  refine JL.asg ?_
  refine JL.asg ?_
  refine JL.nil ?_
  refine JQ.thenN ?_
  refine JC.seq ?_
  refine JC.seq ?_
  refine JC.region ?_
  refine JL.val rfl rfl rfl (.none rfl) (Ev.load1 rfl Tryd.underlying23 rfl (Rd.own memK rfl)) ?_
  refine JL.val rfl rfl rfl (.none rfl) (Ev.lenS rfl Tryd.underlying23) ?_
  refine JL.val rfl rfl rfl (.none rfl) (Ev.bin rfl rfl gtr_int) ?_
  refine JL.nil ?_
  refine JQ.thenN ?_
  refine JC.cond rfl (fun hc1 => ?_) (fun hc1 => ?_)
  · -- t18 True
    replace hc1 := of_decide_eq_true hc1
    have hgr : 1024 < ds.length := by omega
    refine JC.seq ?_
    refine JC.region ?_
    refine JL.asg ?_
    refine JL.asg ?_
    refine JL.nil ?_
    refine JQ.thenN ?_
    refine JC.ret ?_
    refine JQ.thenR ?_
    refine JQ.endM0s (H' := []) (.inl rfl) (by exact Sub.of_cnt (fun a => by (try dsimp only); simp only [cntA]; omega)) (res2 rfl (.tmp rfl) (.tmp rfl)) ?_
    · exact ⟨none, by rw [prV_gr hgr, prE_gr hgr]; rfl, rfl, by rw [prV_gr hgr]; exact Row.ok0⟩
  · -- t18 False
    replace hc1 := of_decide_eq_false hc1
    have hsm : ¬ 1024 < ds.length := by omega
    refine JC.skip ?_
    refine JQ.thenN ?_
    refine JC.seq ?_
    refine JC.seq ?_
    refine JC.region ?_
    refine JL.mv ?_
    refine JL.val rfl rfl rfl (.none rfl) (Ev.bin rfl rfl lss_int) ?_
    refine JL.mv ?_
    refine JL.split (d := 21) rfl (fun hg1 => ?_) (fun hg1 => ?_)
    · -- guard 21 true
      have hbad : i < 1 ∨ (ds.length : Int) < i := .inl (by have := of_decide_eq_true hg1; omega)
      refine JL.skip rfl rfl (.noF rfl rfl rfl) ?_
      refine JL.skip rfl rfl (.noF rfl rfl rfl) ?_
      refine JL.skip rfl rfl (.noF rfl rfl rfl) ?_
      refine JL.skip rfl rfl (.noF rfl rfl rfl) ?_
      refine JL.val rfl rfl rfl (.none rfl) (Ev.pickT rfl rfl) ?_
      refine JL.nil ?_
      refine JQ.thenN ?_
      refine JC.condT rfl ?_
      refine JC.seq ?_
      refine JC.region ?_
      refine JL.asg ?_
      refine JL.asg ?_
      refine JL.nil ?_
      refine JQ.thenN ?_
      refine JC.ret ?_
      refine JQ.thenR ?_
      refine JQ.endM0s (H' := []) (.inl rfl) (by exact Sub.of_cnt (fun a => by (try dsimp only); simp only [cntA]; omega)) (res2 rfl (.tmp rfl) (.tmp rfl)) ?_
      · exact ⟨none, by rw [prV_bad hsm hbad, prE_bad hsm hbad]; rfl, rfl, by rw [prV_bad hsm hbad]; exact Row.ok0⟩
    · -- guard 21 false
      have hg1 := of_decide_eq_false hg1
      refine JL.val rfl rfl rfl (.yes rfl rfl rfl) (Ev.move rfl) ?_
      refine JL.val rfl rfl rfl (.yes rfl rfl rfl) (Ev.load1 rfl Tryd.underlying23 rfl (Rd.own memK rfl)) ?_
      refine JL.val rfl rfl rfl (.yes rfl rfl rfl) (Ev.lenS rfl Tryd.underlying23) ?_
      refine JL.val rfl rfl rfl (.yes rfl rfl rfl) (Ev.bin rfl rfl gtr_int) ?_
      refine JL.val rfl rfl rfl (.none rfl) (Ev.pickF rfl rfl) ?_
      refine JL.nil ?_
      refine JQ.thenN ?_
      refine JC.cond rfl (fun hc2 => ?_) (fun hc2 => ?_)
      · -- t26 True
        replace hc2 := of_decide_eq_true hc2
        have hbad : i < 1 ∨ (ds.length : Int) < i := .inr (by omega)
        refine JC.seq ?_
        refine JC.region ?_
        refine JL.asg ?_
        refine JL.asg ?_
        refine JL.nil ?_
        refine JQ.thenN ?_
        refine JC.ret ?_
        refine JQ.thenR ?_
        refine JQ.endM0s (H' := []) (.inl rfl) (by exact Sub.of_cnt (fun a => by (try dsimp only); simp only [cntA]; omega)) (res2 rfl (.tmp rfl) (.tmp rfl)) ?_
        · exact ⟨none, by rw [prV_bad hsm hbad, prE_bad hsm hbad]; rfl, rfl, by rw [prV_bad hsm hbad]; exact Row.ok0⟩
      · -- t26 False
        replace hc2 := of_decide_eq_false hc2
        have hok : ¬ (i < 1 ∨ (ds.length : Int) < i) := by omega
        obtain ⟨n, rfl⟩ : ∃ n : Nat, i = (n : Int) := ⟨i.toNat, by omega⟩
        have hn1 : 1 ≤ n := by omega
        have hn2 : n ≤ ds.length := by omega
        have hdl := down_len (fm := 0) hn1 hn2
        have hdo := down_ok ds.length n ds.length 0 (Nat.le_refl _) hn1 hn2
        have hda := downA_le ds.length n ds.length 0 (Nat.le_refl _) hn1 hn2
        refine JC.skip ?_
        refine JQ.thenN ?_
        refine JC.seq ?_
        refine JC.region ?_
        refine JL.mv ?_
        refine JL.val rfl rfl rfl (.none rfl) (Ev.load1 rfl Tryd.underlying23 rfl (Rd.own memK rfl)) ?_
        refine JL.val rfl rfl rfl (.none rfl) (Ev.lenS rfl Tryd.underlying23) ?_
        refine JL.callN rfl (.none rfl) rfl Tryd.call36 (fun w1 hw1 => down_any n ds.length w1 hn1 hn2 (by omega)) ?_
        rintro _ _ ⟨r1, rfl, rfl, hr1⟩
        refine JL.mv ?_
        refine JL.val rfl rfl rfl (.none rfl) (Ev.ex0 rfl) ?_
        refine JL.val rfl rfl rfl (.none rfl) (Ev.ex1 rfl) ?_
        refine JL.val rfl rfl rfl (.none rfl) (Ev.ex2 rfl) ?_
        refine JL.asg ?_
        refine JL.asg ?_
        refine JL.asg ?_
        refine JL.nil ?_
        refine JQ.thenN ?_
        refine JC.seq ?_
        refine JC.region ?_
        refine JL.new rfl rfl rfl (.none rfl) (En.allocZ (cs := #[.slice none 0 0]) Tryd.zeroValue23 rfl) (fun b9 hb9 => ?_)
        refine JL.nil ?_
        refine JQ.thenN ?_
        refine JC.seq ?_
        refine JC.seq ?_
        refine JC.region ?_
        refine JL.mv ?_
        refine JL.val rfl rfl rfl (.none rfl) (Ev.not rfl) ?_
        refine JL.nil ?_
        refine JQ.thenN ?_
        refine JC.cond rfl (fun hfr => ?_) (fun hfr => ?_)
        · -- t36 True
          have hfr : downF n ds.length true = false := by simpa using hfr
          obtain ⟨ob, eob, hob⟩ := sub3_cut hd (l := downA n ds.length 0) (k := n) (m := cap) (by omega) hn2 (by have := hd.le; omega) (Nat.le_refl _)
          have hxl : ((ds.drop (downA n ds.length 0)).take (n - downA n ds.length 0)).length ≤ 1024 := by rw [List.length_take, List.length_drop]; omega
          refine JC.seq ?_
          refine JC.region ?_
          refine JL.val rfl rfl rfl (.none rfl) (Ev.load1 rfl Tryd.underlying23 rfl (Rd.own memK rfl)) ?_
          refine JL.mv ?_
          refine JL.mv ?_
          refine JL.val rfl rfl rfl (.none rfl) (Ev.cast (v' := .slice ob ((ds.drop (downA n ds.length 0)).take (n - downA n ds.length 0)).length (cap - downA n ds.length 0)) (eob) (Ev.sliceLH rfl rfl rfl Tryd.underlying23 Tryd.sizeOf22 (l := downA n ds.length 0) (h := n) (by omega) (by omega) (by omega) (by have := hd.le; omega))) ?_
          refine JL.callV rfl (.none rfl) rfl Tryd.call29 (fun w1 hw1 => Root_any ob (cap - downA n ds.length 0) ((ds.drop (downA n ds.length 0)).take (n - downA n ds.length 0)) w1 (hob w1 (hd.old hw1)) (by omega) (hk.old hw1) (hf.old hw1)) ?_
          refine JL.mv ?_
          refine JL.val rfl rfl rfl (.none rfl) (Ev.ex0 rfl) ?_
          refine JL.val rfl rfl rfl (.none rfl) (Ev.ex1 rfl) ?_
          refine JL.new rfl rfl rfl (.none rfl) (En.allocZ (cs := arr8 (List.replicate 32 0)) Tryd.zeroValue22 rfl) (fun b10 hb10 => ?_)
          refine JL.sto rfl rfl (.none rfl) (Es.sA Tryd.sizeOf22) ?_
          refine JL.asg ?_
          refine JL.nil ?_
          refine JQ.thenN ?_
          refine JC.region ?_
          refine JL.val rfl rfl rfl (.none rfl) (Ev.load1 rfl Tryd.underlying23 rfl (Rd.own memK rfl)) ?_
          refine JL.val rfl rfl rfl (.none rfl) (Ev.lB Tryd.underlying22 Tryd.sizeOf22) ?_
          refine JL.new rfl rfl rfl (.none rfl) (En.bs1D (e := 22) rfl Tryd.underlying23 Tryd.sizeOf22 Tryd.zeroValue22) (fun b47 hb47 => ?_)
          refine JL.gen rfl rfl rfl (.none rfl) (Eg.append1 (r := none) (n := 0) (xs := fl []) (news := fl [rootV ((ds.drop (downA n ds.length 0)).take (n - downA n ds.length 0))]) (z := (.agg (arr8 (List.replicate 32 0)))) (s := 32) (bytes := 32) rfl rfl rfl Cut.k Tryd.underlying23 (by kernel_rfl) rfl (by decide) (by decide) ⟨rfl, rfl⟩ (Rds.all memK) (fl_length _) (by decide) (fl_one _) (by omega)) ?_
          rintro _ _ ⟨rn, rfl, rfl, hrn⟩
          refine JL.sto rfl rfl (.none rfl) (Es.store0 rfl rfl Tryd.sizeOf23 (Row.v_cells _ _) (Row.v_one _ _) Upd.k) ?_
          refine JL.nil ?_
          refine JQ.thenN ?_
          refine JC.seq ?_
          refine JC.seq ?_
          refine JC.region ?_
          refine JL.mv ?_
          refine JL.callN rfl (.none rfl) rfl Tryd.call37 (fun w1 hw1 => backT_any _ w1 (Row.v_cells _ _)) ?_
          rintro _ _ ⟨bb, rfl, rfl⟩
          refine JL.nil ?_
          refine JQ.thenN ?_
          refine JC.block ?_
          refine JC.reH (b := b9) (o' := Obj.cells #[Row.v [rootV ((ds.drop (downA n ds.length 0)).take (n - downA n ds.length 0))].length (some rn)] 23 (0, 0)) Upd.k rfl ?_
          refine JC.rangeH (ps := [51, 52]) (X := List Dig × Option Row) (Y := Nat) ((downW n ds.length 0).length) (fun ⟨out, q⟩ E => (b9, Obj.cells #[Row.v out.length q] 23 (0, 0)) :: (b2, Obj.cells #[.slice oa ds.length cap] 23 (0, 0)) :: (Row.b 22 q ++ E)) (fun k ⟨out, q⟩ => out = [rootR ((ds.drop (downA n ds.length 0)).take (n - downA n ds.length 0))] ++ ((downW n ds.length 0).reverse.take k).map (fun t => rootR (otherD ds t)) ∧ Row.ok 32 out.length (fl out) q) (fun c ⟨out, q⟩ => False) ((fun k vs _ => ∃ t : Tn, (downW n ds.length 0)[(downW n ds.length 0).length - 1 - k]? = some t ∧ vs = [.int .i64 (((downW n ds.length 0).length : Int) - 1 - (k : Int)), .agg (tcl t).toArray])) (((bb, Obj.cells #[Row.v (downW n ds.length 0).length r1] 65 (0, 0)) :: Row.b 74 r1)) ([rootV ((ds.drop (downA n ds.length 0)).take (n - downA n ds.length 0))], some rn) (fun k ⟨out, q⟩ vs y => [(2, .pointer (some ⟨b2, 0, none⟩)), (9, .pointer (some ⟨b9, 0, none⟩)), (13, .pointer (some ⟨y, 0, none⟩)), (51, (vs.headD undef)), (52, ((vs.drop 1).headD undef))]) (fun ⟨out, q⟩ vs y E => (y, Obj.cells (((vs.drop 1).headD undef)).cells 74 (0, 0)) :: (b9, Obj.cells #[Row.v out.length q] 23 (0, 0)) :: (b2, Obj.cells #[.slice oa ds.length cap] 23 (0, 0)) :: (Row.b 22 q ++ E)) (fun ⟨out, q⟩ _ => by simp) (fun ⟨out, q⟩ _ _ _ => by simp) rfl Tryd.call58 ?_ ?_ rfl (fun _ _ _ h => by obtain ⟨_, _, rfl⟩ := h; rfl) (fun X A Inv Z l x0 w1 hi hw hy => backTI_any (downW n ds.length 0) r1 bb (by omega) X A Inv Z l x0 w w1 hi hw hy hr1) ?_ ?_ ?_ ?_
          · exact Sub.of_cnt (fun a => by (try dsimp only); simp only [cntA]; omega)
          · exact ⟨by rw [rootV_ok (by omega)]; rfl, hrn⟩
          · rintro lr k ⟨out, q⟩ vs O E hkN ⟨ho, hq⟩ ⟨t, ht, rfl⟩ hO
            refine JC.region ?_
            refine JL.new rfl rfl rfl (.none rfl) (En.allocZ (cs := #[.int .i64 0, .int .i64 0, .int .i64 0, .bool false]) Tryd.zeroValue74 rfl) (fun b13 hb13 => ?_)
            refine JL.sto rfl rfl (.none rfl) (Es.storeA rfl rfl Tryd.sizeOf74 Upd.k szK szK (fun u hu => ft_one [t] u (by simpa [ft] using hu))) ?_
            refine JL.nil ?_
            refine JQ.asgH b13 ?_ ?_
            · exact Keeps.k
            · exact Sub.k
          · rintro lr k ⟨out, q⟩ vs y O E hkN ⟨ho, hq⟩ ⟨t, ht, rfl⟩ hO
            change JC _ [(2, .pointer (some ⟨b2, 0, none⟩)), (9, .pointer (some ⟨b9, 0, none⟩)), (13, .pointer (some ⟨y, 0, none⟩)), (51, (.int .i64 (((downW n ds.length 0).length : Int) - 1 - (k : Int)))), (52, (Value.agg (tcl t).toArray))] ((y, Obj.cells ((Value.agg (tcl t).toArray)).cells 74 (0, 0)) :: (b9, Obj.cells #[Row.v out.length q] 23 (0, 0)) :: (b2, Obj.cells #[.slice oa ds.length cap] 23 (0, 0)) :: (Row.b 22 q ++ E)) _ _
            have htm := List.mem_of_getElem? ht
            have hto := hdo t htm
            have hol : (otherD ds t).length ≤ ds.length := otherD_le ds t
            have hoq : out.length ≤ 1 + k := by rw [ho, List.length_append, List.length_map, List.length_take]; simp; omega
            refine JC.block ?_
            refine JC.seq ?_
            refine JC.region ?_
            refine JL.val rfl rfl rfl (.none rfl) (Ev.lB Tryd.underlying74 Tryd.sizeOf74) ?_
            refine JL.val rfl rfl rfl (.none rfl) (Ev.load1 rfl Tryd.underlying23 rfl (Rd.own memK rfl)) ?_
            refine JL.callN rfl (.none rfl) rfl Tryd.call41 (fun w1 hw1 => other0_any t oa cap ds w1 (hd.old hw1) (by omega) (by omega) (by omega)) ?_
            rintro _ _ ⟨rfl, ob, cb, rfl, hob⟩
            refine JL.callV rfl (.none rfl) rfl Tryd.call29 (fun w1 hw1 => Root_any ob cb (otherD ds t) w1 (hob w1 (hd.old hw1)) (by omega) (hk.old hw1) (hf.old hw1)) ?_
            refine JL.mv ?_
            refine JL.val rfl rfl rfl (.none rfl) (Ev.ex0 rfl) ?_
            refine JL.val rfl rfl rfl (.none rfl) (Ev.ex1 rfl) ?_
            refine JL.new rfl rfl rfl (.none rfl) (En.allocZ (cs := arr8 (List.replicate 32 0)) Tryd.zeroValue22 rfl) (fun b14 hb14 => ?_)
            refine JL.sto rfl rfl (.none rfl) (Es.sA Tryd.sizeOf22) ?_
            refine JL.asg ?_
            refine JL.nil ?_
            refine JQ.thenN ?_
            refine JC.region ?_
            refine JL.val rfl rfl rfl (.none rfl) (Ev.load1 (v := Row.v out.length q) rfl Tryd.underlying23 rfl (Rd.own memK rfl)) ?_
            refine JL.val rfl rfl rfl (.none rfl) (Ev.lB Tryd.underlying22 Tryd.sizeOf22) ?_
            refine JL.new rfl rfl rfl (.none rfl) (En.bs1D (e := 22) rfl Tryd.underlying23 Tryd.sizeOf22 Tryd.zeroValue22) (fun b62 hb62 => ?_)
            refine JL.gen rfl rfl rfl (.none rfl) (Eg.append1 (r := q) (n := out.length) (xs := fl out) (news := fl [rootV (otherD ds t)]) (z := (.agg (arr8 (List.replicate 32 0)))) (s := 32) (bytes := 32) rfl rfl rfl Cut.k Tryd.underlying23 (by kernel_rfl) rfl (by decide) (by decide) hq (Rds.all memK) (fl_length _) (by decide) (fl_one _) (by omega)) ?_
            rintro _ _ ⟨rn, rfl, rfl, hrn⟩
            refine JL.sto rfl rfl (.none rfl) (Es.store0 rfl rfl Tryd.sizeOf23 (Row.v_cells _ _) (Row.v_one _ _) Upd.k) ?_
            refine JL.nil ?_
            refine JQ.blockN ?_
            refine JQ.bodG (out ++ [rootV (otherD ds t)], some rn) ?_ ?_
            · exact ⟨by rw [rootV_ok (by omega), ho, List.append_assoc, map_take_succ (show (downW n ds.length 0).reverse[k]? = some t by rw [List.getElem?_reverse hkN]; exact ht)], by rw [List.length_append, fl_append]; exact hrn⟩
            · (dsimp only; rw [List.length_append, List.length_singleton]; exact Sub.of_cnt (fun a => by (try dsimp only); simp only [cntA]; omega))
          · rintro ⟨out, q⟩ D E ⟨ho, hq⟩
            have hpf : out = prV ds (n : Int) := by rw [prV_ok hsm hok, Int.toNat_natCast, ho, List.take_of_length_le (l := (downW n ds.length 0).reverse) (i := (downW n ds.length 0).length) (by rw [List.length_reverse]; exact Nat.le_refl _)]; have h := down_proof ds.length ds n ds.length 0 true (Nat.le_refl _) hn1 hn2 (by omega); rw [List.drop_zero, List.take_of_length_le (Nat.le_refl _), hfr, Nat.zero_add] at h; exact h.symm
            refine JQ.blockN ?_
            refine JQ.thenN ?_
            refine JC.seq ?_
            refine JC.region ?_
            refine JL.val rfl rfl rfl (.none rfl) (Ev.load1 (v := Row.v out.length q) rfl Tryd.underlying23 rfl (Rd.own memK rfl)) ?_
            refine JL.asg ?_
            refine JL.asg ?_
            refine JL.nil ?_
            refine JQ.thenN ?_
            refine JC.ret ?_
            refine JQ.endMs (H' := (Row.b 22 q)) (.inl rfl) memK ⟨_, Upd.k, by exact Sub.of_cnt (fun a => by (try dsimp only); simp only [cntA]; omega), (res2 rfl (.tmp rfl) (.tmp rfl))⟩ ?_
            · exact ⟨q, by rw [← hpf, prE_ok hsm hok], rfl, by rw [← hpf]; exact hq⟩
          · rintro c ⟨out, q⟩ D E hs
            exact hs.elim
        · -- t36 False
          have hfr : downF n ds.length true = true := by simpa using hfr
          refine JC.skip ?_
          refine JQ.thenN ?_
          refine JC.seq ?_
          refine JC.seq ?_
          refine JC.region ?_
          refine JL.mv ?_
          refine JL.callN rfl (.none rfl) rfl Tryd.call37 (fun w1 hw1 => backT_any _ w1 (Row.v_cells _ _)) ?_
          rintro _ _ ⟨bb, rfl, rfl⟩
          refine JL.nil ?_
          refine JQ.thenN ?_
          refine JC.block ?_
          refine JC.reH (b := b9) (o' := Obj.cells #[Row.v ([] : List Dig).length none] 23 (0, 0)) Upd.k rfl ?_
          refine JC.rangeH (ps := [51, 52]) (X := List Dig × Option Row) (Y := Nat) ((downW n ds.length 0).length) (fun ⟨out, q⟩ E => (b9, Obj.cells #[Row.v out.length q] 23 (0, 0)) :: (b2, Obj.cells #[.slice oa ds.length cap] 23 (0, 0)) :: (Row.b 22 q ++ E)) (fun k ⟨out, q⟩ => out = [] ++ ((downW n ds.length 0).reverse.take k).map (fun t => rootR (otherD ds t)) ∧ Row.ok 32 out.length (fl out) q) (fun c ⟨out, q⟩ => False) ((fun k vs _ => ∃ t : Tn, (downW n ds.length 0)[(downW n ds.length 0).length - 1 - k]? = some t ∧ vs = [.int .i64 (((downW n ds.length 0).length : Int) - 1 - (k : Int)), .agg (tcl t).toArray])) (((bb, Obj.cells #[Row.v (downW n ds.length 0).length r1] 65 (0, 0)) :: Row.b 74 r1)) ([], none) (fun k ⟨out, q⟩ vs y => [(2, .pointer (some ⟨b2, 0, none⟩)), (9, .pointer (some ⟨b9, 0, none⟩)), (13, .pointer (some ⟨y, 0, none⟩)), (51, (vs.headD undef)), (52, ((vs.drop 1).headD undef))]) (fun ⟨out, q⟩ vs y E => (y, Obj.cells (((vs.drop 1).headD undef)).cells 74 (0, 0)) :: (b9, Obj.cells #[Row.v out.length q] 23 (0, 0)) :: (b2, Obj.cells #[.slice oa ds.length cap] 23 (0, 0)) :: (Row.b 22 q ++ E)) (fun ⟨out, q⟩ _ => by simp) (fun ⟨out, q⟩ _ _ _ => by simp) rfl Tryd.call58 ?_ ?_ rfl (fun _ _ _ h => by obtain ⟨_, _, rfl⟩ := h; rfl) (fun X A Inv Z l x0 w1 hi hw hy => backTI_any (downW n ds.length 0) r1 bb (by omega) X A Inv Z l x0 w w1 hi hw hy hr1) ?_ ?_ ?_ ?_
          · exact Sub.of_cnt (fun a => by (try dsimp only); simp only [cntA]; omega)
          · exact ⟨rfl, Row.ok0⟩
          · rintro lr k ⟨out, q⟩ vs O E hkN ⟨ho, hq⟩ ⟨t, ht, rfl⟩ hO
            refine JC.region ?_
            refine JL.new rfl rfl rfl (.none rfl) (En.allocZ (cs := #[.int .i64 0, .int .i64 0, .int .i64 0, .bool false]) Tryd.zeroValue74 rfl) (fun b13 hb13 => ?_)
            refine JL.sto rfl rfl (.none rfl) (Es.storeA rfl rfl Tryd.sizeOf74 Upd.k szK szK (fun u hu => ft_one [t] u (by simpa [ft] using hu))) ?_
            refine JL.nil ?_
            refine JQ.asgH b13 ?_ ?_
            · exact Keeps.k
            · exact Sub.k
          · rintro lr k ⟨out, q⟩ vs y O E hkN ⟨ho, hq⟩ ⟨t, ht, rfl⟩ hO
            change JC _ [(2, .pointer (some ⟨b2, 0, none⟩)), (9, .pointer (some ⟨b9, 0, none⟩)), (13, .pointer (some ⟨y, 0, none⟩)), (51, (.int .i64 (((downW n ds.length 0).length : Int) - 1 - (k : Int)))), (52, (Value.agg (tcl t).toArray))] ((y, Obj.cells ((Value.agg (tcl t).toArray)).cells 74 (0, 0)) :: (b9, Obj.cells #[Row.v out.length q] 23 (0, 0)) :: (b2, Obj.cells #[.slice oa ds.length cap] 23 (0, 0)) :: (Row.b 22 q ++ E)) _ _
            have htm := List.mem_of_getElem? ht
            have hto := hdo t htm
            have hol : (otherD ds t).length ≤ ds.length := otherD_le ds t
            have hoq : out.length ≤ 1 + k := by rw [ho, List.length_append, List.length_map, List.length_take]; simp; omega
            refine JC.block ?_
            refine JC.seq ?_
            refine JC.region ?_
            refine JL.val rfl rfl rfl (.none rfl) (Ev.lB Tryd.underlying74 Tryd.sizeOf74) ?_
            refine JL.val rfl rfl rfl (.none rfl) (Ev.load1 rfl Tryd.underlying23 rfl (Rd.own memK rfl)) ?_
            refine JL.callN rfl (.none rfl) rfl Tryd.call41 (fun w1 hw1 => other0_any t oa cap ds w1 (hd.old hw1) (by omega) (by omega) (by omega)) ?_
            rintro _ _ ⟨rfl, ob, cb, rfl, hob⟩
            refine JL.callV rfl (.none rfl) rfl Tryd.call29 (fun w1 hw1 => Root_any ob cb (otherD ds t) w1 (hob w1 (hd.old hw1)) (by omega) (hk.old hw1) (hf.old hw1)) ?_
            refine JL.mv ?_
            refine JL.val rfl rfl rfl (.none rfl) (Ev.ex0 rfl) ?_
            refine JL.val rfl rfl rfl (.none rfl) (Ev.ex1 rfl) ?_
            refine JL.new rfl rfl rfl (.none rfl) (En.allocZ (cs := arr8 (List.replicate 32 0)) Tryd.zeroValue22 rfl) (fun b14 hb14 => ?_)
            refine JL.sto rfl rfl (.none rfl) (Es.sA Tryd.sizeOf22) ?_
            refine JL.asg ?_
            refine JL.nil ?_
            refine JQ.thenN ?_
            refine JC.region ?_
            refine JL.val rfl rfl rfl (.none rfl) (Ev.load1 (v := Row.v out.length q) rfl Tryd.underlying23 rfl (Rd.own memK rfl)) ?_
            refine JL.val rfl rfl rfl (.none rfl) (Ev.lB Tryd.underlying22 Tryd.sizeOf22) ?_
            refine JL.new rfl rfl rfl (.none rfl) (En.bs1D (e := 22) rfl Tryd.underlying23 Tryd.sizeOf22 Tryd.zeroValue22) (fun b62 hb62 => ?_)
            refine JL.gen rfl rfl rfl (.none rfl) (Eg.append1 (r := q) (n := out.length) (xs := fl out) (news := fl [rootV (otherD ds t)]) (z := (.agg (arr8 (List.replicate 32 0)))) (s := 32) (bytes := 32) rfl rfl rfl Cut.k Tryd.underlying23 (by kernel_rfl) rfl (by decide) (by decide) hq (Rds.all memK) (fl_length _) (by decide) (fl_one _) (by omega)) ?_
            rintro _ _ ⟨rn, rfl, rfl, hrn⟩
            refine JL.sto rfl rfl (.none rfl) (Es.store0 rfl rfl Tryd.sizeOf23 (Row.v_cells _ _) (Row.v_one _ _) Upd.k) ?_
            refine JL.nil ?_
            refine JQ.blockN ?_
            refine JQ.bodG (out ++ [rootV (otherD ds t)], some rn) ?_ ?_
            · exact ⟨by rw [rootV_ok (by omega), ho, List.append_assoc, map_take_succ (show (downW n ds.length 0).reverse[k]? = some t by rw [List.getElem?_reverse hkN]; exact ht)], by rw [List.length_append, fl_append]; exact hrn⟩
            · (dsimp only; rw [List.length_append, List.length_singleton]; exact Sub.of_cnt (fun a => by (try dsimp only); simp only [cntA]; omega))
          · rintro ⟨out, q⟩ D E ⟨ho, hq⟩
            have hpf : out = prV ds (n : Int) := by rw [prV_ok hsm hok, Int.toNat_natCast, ho, List.take_of_length_le (l := (downW n ds.length 0).reverse) (i := (downW n ds.length 0).length) (by rw [List.length_reverse]; exact Nat.le_refl _)]; have h := down_proof ds.length ds n ds.length 0 true (Nat.le_refl _) hn1 hn2 (by omega); rw [List.drop_zero, List.take_of_length_le (Nat.le_refl _), hfr, Nat.zero_add] at h; exact h.symm
            refine JQ.blockN ?_
            refine JQ.thenN ?_
            refine JC.seq ?_
            refine JC.region ?_
            refine JL.val rfl rfl rfl (.none rfl) (Ev.load1 (v := Row.v out.length q) rfl Tryd.underlying23 rfl (Rd.own memK rfl)) ?_
            refine JL.asg ?_
            refine JL.asg ?_
            refine JL.nil ?_
            refine JQ.thenN ?_
            refine JC.ret ?_
            refine JQ.endMs (H' := (Row.b 22 q)) (.inl rfl) memK ⟨_, Upd.k, by exact Sub.of_cnt (fun a => by (try dsimp only); simp only [cntA]; omega), (res2 rfl (.tmp rfl) (.tmp rfl))⟩ ?_
            · exact ⟨q, by rw [← hpf, prE_ok hsm hok], rfl, by rw [← hpf]; exact hq⟩
          · rintro c ⟨out, q⟩ D E hs
            exact hs.elim

theorem cPeaks_any (oa : Option Addr) (cap : Nat) (ds : List Dig) (w : World) (hd : Dl w oa cap ds) (hk : KMem 1 w) (hf : FMem 0 w) :
    Calls Tryd.prog 22 #[.slice oa ds.length cap] w (Ret w (fun v H => ∃ r : Option Row, v = .tuple #[Row.v (pkV ds).length r, .int .i64 (pkE ds)] ∧ H = Row.b 22 r ∧ Row.ok 32 (pkV ds).length (fl (pkV ds)) r)) := by
  refine enter (vs := [.slice oa ds.length cap]) Tryd.func22 rfl Tryd.ntmps22 rfl ?_
  refine JC.seq ?_
  refine JC.region ?_
  refine JL.asg ?_
  refine JL.asg ?_
  refine JL.nil ?_
  refine JQ.thenN ?_
  refine JC.seq ?_
  refine JC.seq ?_
  refine JC.region ?_
  refine JL.mv ?_
  refine JL.val rfl rfl rfl (.none rfl) (Ev.lenS rfl Tryd.underlying23) ?_
  refine JL.val rfl rfl rfl (.none rfl) (Ev.bin rfl rfl gtr_int) ?_
  refine JL.nil ?_
  refine JQ.thenN ?_
  refine JC.cond rfl (fun hc1 => ?_) (fun hc1 => ?_)
  · -- t10 True
    replace hc1 := of_decide_eq_true hc1
    have hgr : 1024 < ds.length := by omega
    refine JC.seq ?_
    refine JC.region ?_
    refine JL.asg ?_
    refine JL.asg ?_
    refine JL.nil ?_
    refine JQ.thenN ?_
    refine JC.ret ?_
    refine JQ.thenR ?_
    refine JQ.end2 (H' := []) (.inl rfl) rfl (.tmp rfl) (.tmp rfl) ?_ ?_
    · first | exact Sub.all | exact Sub.nil | exact Sub.of_cnt (fun a => by (try dsimp only); simp only [cntA]; omega)
    · exact ⟨none, by rw [pkV_gr hgr, pkE_gr hgr]; rfl, rfl, by rw [pkV_gr hgr]; exact Row.ok0⟩
  · -- t10 False
    replace hc1 := of_decide_eq_false hc1
    have hsm : ¬ 1024 < ds.length := by omega
    refine JC.skip ?_
    refine JQ.thenN ?_
    refine JC.seq ?_
    refine JC.region ?_
    refine JL.asg ?_
    refine JL.nil ?_
    refine JQ.thenN ?_
    refine JC.seq ?_
    refine JC.block ?_
    refine JC.loop (X := List Dig × Option Addr × Nat × List Dig × Option Row)
      (fun ⟨l, ob, cb, out, q⟩ => [(0, .slice ob l.length cb), (4, Row.v out.length q)])
      (fun ⟨l, ob, cb, out, q⟩ => Row.b 22 q)
      (fun ⟨l, ob, cb, out, q⟩ => Dl w ob cb l ∧ l.length ≤ 1024 ∧ out ++ overR l = overR ds ∧ Row.ok 32 out.length (fl out) q)
      (fun ⟨l, ob, cb, out, q⟩ => l.length) (ds, oa, cap, [], none) ?_ ?_ ?_ ?_
    · exact Keeps.k
    · exact Sub.nil
    · exact ⟨hd, by omega, rfl, Row.ok0⟩
    rintro ⟨l, ob, cb, out, q⟩ ⟨hl, hlm, ho, hq⟩
    refine JC.seq ?_
    refine JC.seq ?_
    refine JC.region ?_
    refine JL.mv ?_
    refine JL.val rfl rfl rfl (.none rfl) (Ev.lenS rfl Tryd.underlying23) ?_
    refine JL.val rfl rfl rfl (.none rfl) (Ev.bin rfl rfl gtr_int) ?_
    refine JL.nil ?_
    refine JQ.thenN ?_
    refine JC.cond rfl (fun hc2 => ?_) (fun hc2 => ?_)
    · -- t13 True
      replace hc2 := of_decide_eq_true hc2
      have h1 : 1 ≤ l.length := by omega
      have hbl := bel_lt (n := l.length + 1) (by omega)
      have hbp := bel_pos (l.length + 1)
      obtain ⟨oc, eoc, hoc⟩ := Dl.drop hl (show bel (l.length + 1) ≤ l.length by omega)
      have htl : (l.take (bel (l.length + 1))).length = bel (l.length + 1) := by rw [List.length_take]; omega
      have hdl : (l.drop (bel (l.length + 1))).length = l.length - bel (l.length + 1) := List.length_drop
      have hoc1 := over_cons_len h1 ho
      refine JC.skip ?_
      refine JQ.thenN ?_
      refine JC.block ?_
      refine JC.seq ?_
      refine JC.region ?_
      refine JL.mv ?_
      refine JL.val rfl rfl rfl (.none rfl) (Ev.lenS rfl Tryd.underlying23) ?_
      refine JL.val rfl rfl rfl (.none rfl) (Ev.cast (v' := .int .i64 ((l.length + 1 : Nat) : Int)) (congrArg (Value.int .i64) (by omega)) (Ev.bin rfl rfl (add_i64 (by omega)))) ?_
      refine JL.callV rfl (.none rfl) rfl Tryd.call44 (fun w1 hw1 => kbelow_any (l.length + 1) (by omega) (by omega) w1) ?_
      refine JL.asg ?_
      refine JL.nil ?_
      refine JQ.thenN ?_
      refine JC.seq ?_
      refine JC.region ?_
      refine JL.mv ?_
      refine JL.mv ?_
      refine JL.val rfl rfl rfl (.none rfl) (Ev.cast (v' := .slice ob (l.take (bel (l.length + 1))).length cb) (by rw [sub3_0, htl]) (Ev.sliceHi rfl rfl Tryd.underlying23 Tryd.sizeOf22 (h := (bel (l.length + 1))) rfl (by have := hl.le; omega))) ?_
      refine JL.callV rfl (.none rfl) rfl Tryd.call29 (fun w1 hw1 => Root_any ob cb (l.take (bel (l.length + 1))) w1 (Dl.take (hl.old hw1) (by omega)) (by omega) (hk.old hw1) (hf.old hw1)) ?_
      refine JL.mv ?_
      refine JL.val rfl rfl rfl (.none rfl) (Ev.ex0 rfl) ?_
      refine JL.val rfl rfl rfl (.none rfl) (Ev.ex1 rfl) ?_
      refine JL.new rfl rfl rfl (.none rfl) (En.allocZ (cs := arr8 (List.replicate 32 0)) Tryd.zeroValue22 rfl) (fun b6 hb6 => ?_)
      refine JL.sto rfl rfl (.none rfl) (Es.sA Tryd.sizeOf22) ?_
      refine JL.asg ?_
      refine JL.nil ?_
      refine JQ.thenN ?_
      refine JC.regionA (by kernel_rfl) ?_
      refine JA.tk 0 rfl (.none rfl) (fun _ => (Ev.move rfl)) ?_
      refine JA.tk 4 rfl (.none rfl) (fun _ => (Ev.move rfl)) ?_
      refine JA.tk 5 rfl (.none rfl) (fun _ => (Ev.move rfl)) ?_
      refine JA.tk 6 rfl (.none rfl) (fun _ => (Ev.cast (v' := .slice oc (l.drop (bel (l.length + 1))).length (cb - (bel (l.length + 1)))) (eoc) (Ev.sliceLo rfl rfl Tryd.underlying23 Tryd.sizeOf22 (l := (bel (l.length + 1))) rfl (by omega)))) ?_
      refine JA.one 1 ?_
      refine JO.val rfl rfl rfl (.none rfl) (Ev.lB Tryd.underlying22 Tryd.sizeOf22) ?_
      refine JA.one 2 ?_
      refine JO.new rfl rfl rfl (.none rfl) (En.bs1D (e := 22) rfl Tryd.underlying23 Tryd.sizeOf22 Tryd.zeroValue22) (fun b27 hb27 => ?_)
      refine JA.one 3 ?_
      refine JO.gen rfl rfl rfl (.none rfl) (Eg.append1 (r := q) (n := out.length) (xs := fl out) (news := fl [rootV (l.take (bel (l.length + 1)))]) (z := (.agg (arr8 (List.replicate 32 0)))) (s := 32) (bytes := 32) rfl rfl rfl Cut.k Tryd.underlying23 (by kernel_rfl) rfl (by decide) (by decide) hq (Rds.all memK) (fl_length _) (by decide) (fl_one _) (by omega)) ?_
      rintro _ _ ⟨rn, rfl, rfl, hrn⟩
      refine JA.tk 7 rfl (.none rfl) (fun _ => (Ev.assign rfl)) ?_
      refine JA.tk 8 rfl (.none rfl) (fun _ => (Ev.assign rfl)) ?_
      refine JA.done (by kernel_rfl) ?_
      refine JQ.blockN ?_
      refine JQ.loopN (l.drop (bel (l.length + 1)), oc, cb - (bel (l.length + 1)), out ++ [rootV (l.take (bel (l.length + 1)))], some rn) ?_ ?_ ?_ ?_
      · (dsimp only; rw [List.length_append, List.length_singleton]; exact Keeps.k)
      · exact Sub.of_cnt (fun a => by (try dsimp only); simp only [cntA]; omega)
      · exact ⟨hoc w hl, by omega, by rw [rootV_ok (by omega), List.append_assoc, ← ho, overR_cons h1]; rfl, by rw [List.length_append, fl_append]; exact hrn⟩
      · show (l.drop (bel (l.length + 1))).length < l.length; omega
    · -- t13 False
      replace hc2 := of_decide_eq_false hc2
      obtain rfl : l = [] := List.eq_nil_of_length_eq_zero (by omega)
      refine JC.exit ?_
      refine JQ.thenE ?_
      refine JQ.thenE ?_
      refine JQ.blockE ?_
      refine JQ.thenN ?_
      refine JC.seq ?_
      refine JC.region ?_
      refine JL.mv ?_
      refine JL.asg ?_
      refine JL.asg ?_
      refine JL.nil ?_
      refine JQ.thenN ?_
      refine JC.ret ?_
      refine JQ.end2 (H' := (Row.b 22 q)) (.inl rfl) rfl (.tmp rfl) (.tmp rfl) ?_ ?_
      · first | exact Sub.all | exact Sub.nil | exact Sub.of_cnt (fun a => by (try dsimp only); simp only [cntA]; omega)
      · rw [overR_nil, List.append_nil] at ho; exact ⟨q, by rw [pkV_ok hsm, pkE_ok hsm, ← ho], rfl, by rw [pkV_ok hsm, ← ho]; exact hq⟩

theorem dclone_any (oa : Option Addr) (cap : Nat) (ds : List Dig) (w : World) (hd : Dl w oa cap ds) (hmx : ds.length ≤ 1100000) :
    Calls Tryd.prog 47 #[.slice oa ds.length cap] w (Ret w (fun v H => ∃ r : Option Row, v = Row.v (ds).length r ∧ H = Row.b 22 r ∧ Row.ok 32 (ds).length (fl (ds)) r)) := by
  refine enter (vs := [.slice oa ds.length cap]) Tryd.func47 rfl Tryd.ntmps47 rfl ?_
  refine JC.seq ?_
  refine JC.region ?_
  refine JL.asg ?_
  refine JL.nil ?_
  refine JQ.thenN ?_
  refine JC.seq ?_
  refine JC.seq ?_
  refine JC.region ?_
  refine JL.mv ?_
  refine JL.val rfl rfl rfl (.none rfl) (Ev.bin rfl rfl (eql_slice_nil Tryd.underlying23)) ?_
  refine JL.nil ?_
  refine JQ.thenN ?_
  refine JC.cond rfl (fun hc1 => ?_) (fun hc1 => ?_)
  · -- t4 True
    have hoa : oa = none := by simpa using hc1
    have hl0 : ds = [] := List.eq_nil_of_length_eq_zero (by have := hd.le; have := hd.empty hoa; omega)
    refine JC.seq ?_
    refine JC.region ?_
    refine JL.asg ?_
    refine JL.nil ?_
    refine JQ.thenN ?_
    refine JC.ret ?_
    refine JQ.thenR ?_
    refine JQ.end1 (H' := []) (.inl rfl) rfl (.tmp rfl) ?_ ?_
    · first | exact Sub.nil | exact Sub.all
    · exact ⟨none, by rw [hl0]; rfl, rfl, by rw [hl0]; exact ⟨rfl, rfl⟩⟩
  · -- t4 False
    refine JC.skip ?_
    refine JQ.thenN ?_
    refine JC.seq ?_
    refine JC.region ?_
    refine JL.new rfl rfl rfl (.none rfl) (En.bsN (e := 22) (parts := []) (vs := []) rfl (fun _ => by kernel_rfl)) (fun b5 hb5 => ?_)
    refine JL.mv ?_
    refine JL.gen rfl rfl rfl (.none rfl) (Eg.append (r := some ⟨b5, 0, #[]⟩) (n := 0) (m := ds.length) (xs := fl []) (news := fl ds) (z := (.agg (arr8 (List.replicate 32 0)))) (s := 32) (bytes := 32) rfl rfl rfl Cut.k Tryd.underlying23 (by kernel_rfl) rfl (by decide) (by decide) ⟨rfl, by simp, by simp, rfl, rfl⟩ (fl_length _) (fun a ha => Rds.old (hd.mem a ha)) (fun h => by have := hd.le; have := hd.empty h; omega) (fl_one _) (by omega)) ?_
    rintro _ _ ⟨r1, rfl, rfl, hr1, hn1⟩
    refine JL.asg ?_
    refine JL.nil ?_
    refine JQ.thenN ?_
    refine JC.ret ?_
    refine JQ.end1 (H' := (Row.b 22 r1)) (.inl rfl) rfl (.tmp rfl) ?_ ?_
    · first | exact Sub.nil | exact Sub.all
    · exact ⟨r1, by rw [Nat.zero_add], rfl, by rw [Nat.zero_add] at hr1; exact hr1⟩

theorem cAppend_any (oa : Option Addr) (cap : Nat) (ds : List Dig) (n : Int) (hnb : -9223372036854775808 ≤ n ∧ n ≤ 9223372036854775807) (x : Dig) (w : World) (hd : Dl w oa cap ds) (hk : KMem 1 w) (hf : FMem 0 w) :
    Calls Tryd.prog 24 #[.slice oa ds.length cap, .int .i64 n, .agg (arr8 x.1)] w (Ret w (fun v H => ∃ r : Option Row, v = .tuple #[Row.v (apV ds n x).length r, .int .i64 (apE ds n)] ∧ H = Row.b 22 r ∧ Row.ok 32 (apV ds n x).length (fl (apV ds n x)) r)) := by
  refine enter (vs := [.slice oa ds.length cap, .int .i64 n, .agg (arr8 x.1)]) Tryd.func24 rfl Tryd.ntmps24 rfl ?_
  refine JC.seq ?_
  refine JC.region ?_
  refine JL.new rfl rfl rfl (.none rfl) (En.boxA rfl) (fun b5 hb5 => ?_)
  refine JL.asg ?_
  refine JL.asg ?_
  refine JL.nil ?_
  refine JQ.thenN ?_
  refine JC.seq ?_
  refine JC.seq ?_
  refine JC.region ?_
  refine JL.mv ?_
  refine JL.val rfl rfl rfl (.none rfl) (Ev.bin rfl rfl lss_int) ?_
  refine JL.mv ?_
  refine JL.split (d := 12) rfl (fun hg1 => ?_) (fun hg1 => ?_)
  · -- guard 12 true
    have hbad : badA ds n := .inl (by have := of_decide_eq_true hg1; omega)
    refine JL.skip rfl rfl (.noF rfl rfl rfl) ?_
    refine JL.skip rfl rfl (.noF rfl rfl rfl) ?_
    refine JL.val rfl rfl rfl (.none rfl) (Ev.pickT rfl rfl) ?_
    refine JL.mv ?_
    refine JL.skip rfl rfl (.noF rfl rfl rfl) ?_
    refine JL.skip rfl rfl (.noF rfl rfl rfl) ?_
    refine JL.skip rfl rfl (.noF rfl rfl rfl) ?_
    refine JL.skip rfl rfl (.noF rfl rfl rfl) ?_
    refine JL.skip rfl rfl (.noF rfl rfl rfl) ?_
    refine JL.skip rfl rfl (.noF rfl rfl rfl) ?_
    refine JL.val rfl rfl rfl (.none rfl) (Ev.pickT rfl rfl) ?_
    refine JL.nil ?_
    refine JQ.thenN ?_
    refine JC.condT rfl ?_
    refine JC.seq ?_
    refine JC.region ?_
    refine JL.asg ?_
    refine JL.asg ?_
    refine JL.nil ?_
    refine JQ.thenN ?_
    refine JC.ret ?_
    refine JQ.thenR ?_
    refine JQ.end2 (H' := []) (.inl rfl) rfl (.tmp rfl) (.tmp rfl) ?_ ?_
    · first | exact Sub.all | exact Sub.nil | exact Sub.of_cnt (fun a => by (try dsimp only); simp only [cntA]; omega)
    · exact ⟨none, by rw [apV_bad hbad, apE_bad hbad]; rfl, rfl, by rw [apV_bad hbad]; exact Row.ok0⟩
  · -- guard 12 false
    have hg1 := of_decide_eq_false hg1
    refine JL.val rfl rfl rfl (.yes rfl rfl rfl) (Ev.move rfl) ?_
    refine JL.val rfl rfl rfl (.yes rfl rfl rfl) (Ev.bin rfl rfl geq_int) ?_
    refine JL.val rfl rfl rfl (.none rfl) (Ev.pickF rfl rfl) ?_
    refine JL.mv ?_
    refine JL.split (d := 16) rfl (fun hg2 => ?_) (fun hg2 => ?_)
    · -- guard 16 true
      have hbad : badA ds n := .inr (.inl (by have := of_decide_eq_true hg2; omega))
      refine JL.skip rfl rfl (.noF rfl rfl rfl) ?_
      refine JL.skip rfl rfl (.noF rfl rfl rfl) ?_
      refine JL.skip rfl rfl (.noF rfl rfl rfl) ?_
      refine JL.skip rfl rfl (.noF rfl rfl rfl) ?_
      refine JL.skip rfl rfl (.noF rfl rfl rfl) ?_
      refine JL.skip rfl rfl (.noF rfl rfl rfl) ?_
      refine JL.val rfl rfl rfl (.none rfl) (Ev.pickT rfl rfl) ?_
      refine JL.nil ?_
      refine JQ.thenN ?_
      refine JC.condT rfl ?_
      refine JC.seq ?_
      refine JC.region ?_
      refine JL.asg ?_
      refine JL.asg ?_
      refine JL.nil ?_
      refine JQ.thenN ?_
      refine JC.ret ?_
      refine JQ.thenR ?_
      refine JQ.end2 (H' := []) (.inl rfl) rfl (.tmp rfl) (.tmp rfl) ?_ ?_
      · first | exact Sub.all | exact Sub.nil | exact Sub.of_cnt (fun a => by (try dsimp only); simp only [cntA]; omega)
      · exact ⟨none, by rw [apV_bad hbad, apE_bad hbad]; rfl, rfl, by rw [apV_bad hbad]; exact Row.ok0⟩
    · -- guard 16 false
      have hg2 := of_decide_eq_false hg2
      obtain ⟨N, rfl⟩ : ∃ m : Nat, n = (m : Int) := ⟨n.toNat, by omega⟩
      have hN : N < 1024 := by omega
      refine JL.val rfl rfl rfl (.yes rfl rfl rfl) (Ev.move rfl) ?_
      refine JL.val rfl rfl rfl (.yes rfl rfl rfl) (Ev.lenS rfl Tryd.underlying23) ?_
      refine JL.val rfl rfl rfl (.yes rfl rfl rfl) (Ev.move rfl) ?_
      refine JL.val rfl rfl rfl (.yes rfl rfl rfl) (Ev.conv rfl (conv_i64_u64 Tryd.underlying3 Tryd.underlying83 (by omega))) ?_
      refine JL.callV rfl (.yes rfl rfl rfl) rfl Tryd.call46 (fun w1 hw1 => onesb_any N hN w1) ?_
      refine JL.val rfl rfl rfl (.yes rfl rfl rfl) (Ev.bin rfl rfl neq_int) ?_
      refine JL.val rfl rfl rfl (.none rfl) (Ev.pickF rfl rfl) ?_
      refine JL.nil ?_
      refine JQ.thenN ?_
      refine JC.cond rfl (fun hc1 => ?_) (fun hc1 => ?_)
      · -- t23 True
        replace hc1 := of_decide_eq_true hc1
        have hbad : badA ds (N : Int) := .inr (.inr (by rw [Int.toNat_natCast]; omega))
        refine JC.seq ?_
        refine JC.region ?_
        refine JL.asg ?_
        refine JL.asg ?_
        refine JL.nil ?_
        refine JQ.thenN ?_
        refine JC.ret ?_
        refine JQ.thenR ?_
        refine JQ.end2 (H' := []) (.inl rfl) rfl (.tmp rfl) (.tmp rfl) ?_ ?_
        · first | exact Sub.all | exact Sub.nil | exact Sub.of_cnt (fun a => by (try dsimp only); simp only [cntA]; omega)
        · exact ⟨none, by rw [apV_bad hbad, apE_bad hbad]; rfl, rfl, by rw [apV_bad hbad]; exact Row.ok0⟩
      · -- t23 False
        replace hc1 := of_decide_eq_false hc1
        have hon : ds.length = onesR N := by omega
        have hok : ¬ badA ds (N : Int) := by unfold badA; rw [Int.toNat_natCast]; omega
        have honl := onesR_le N
        refine JC.skip ?_
        refine JQ.thenN ?_
        refine JC.seq ?_
        refine JC.region ?_
        refine JL.mv ?_
        refine JL.callN rfl (.none rfl) rfl Tryd.call47 (fun w1 hw1 => dclone_any oa cap ds w1 (hd.old hw1) (by omega)) ?_
        rintro _ _ ⟨r0, rfl, rfl, hr0⟩
        refine JL.asg ?_
        refine JL.nil ?_
        refine JQ.thenN ?_
        refine JC.seq ?_
        refine JC.block ?_
        refine JC.loop (X := Nat × List Dig × Dig × Option Row)
          (fun ⟨k, p, y, r⟩ => [(1, .int .i64 (k : Int)), (8, Row.v p.length r), (5, .pointer (some ⟨b5, 0, none⟩))])
          (fun ⟨k, p, y, r⟩ => (b5, Obj.cells (arr8 y.1) 22 (0, 0)) :: Row.b 22 r)
          (fun ⟨k, p, y, r⟩ => k < 1024 ∧ p.length = onesR k ∧ withR p k y = withR ds N x ∧ Row.ok 32 p.length (fl p) r)
          (fun ⟨k, p, y, r⟩ => k) (N, ds, x, r0) ?_ ?_ ?_ ?_
        · exact Keeps.k
        · exact Sub.of_cnt (fun a => by (try dsimp only); simp only [cntA]; omega)
        · exact ⟨hN, hon, rfl, hr0⟩
        rintro ⟨k, p, y, r⟩ ⟨hkN, hpn, hwe, hr⟩
        refine JC.seq ?_
        refine JC.seq ?_
        refine JC.region ?_
        refine JL.mv ?_
        refine JL.val rfl rfl rfl (.none rfl) (Ev.bin rfl rfl (rem_i64 (by omega))) ?_
        refine JL.val rfl rfl rfl (.none rfl) (Ev.bin rfl rfl eql_int) ?_
        refine JL.nil ?_
        refine JQ.thenN ?_
        refine JC.cond rfl (fun hc2 => ?_) (fun hc2 => ?_)
        · -- t28 True
          replace hc2 := of_decide_eq_true hc2
          have hk0 : k ≠ 0 := by omega
          have hop := onesR_pos hk0
          have hk1 : k % 2 = 1 := by omega
          obtain ⟨q, z, rfl, hql⟩ : ∃ q z, p = q ++ [z] ∧ q.length = onesR (k / 2) := by obtain ⟨q, z, h3, h4⟩ := ends_ex (p := p) (k := onesR (k / 2)) (by omega); exact ⟨q, z, h3, h4⟩
          have hpl : (q ++ [z]).length = q.length + 1 := by simp
          have hz0 : (q ++ [z])[q.length]? = some z := by simp
          have hol := onesR_le k
          obtain ⟨rr, rfl⟩ : ∃ rr, r = some rr := by cases r with | none => (have := hr.1; omega) | some rr => exact ⟨rr, rfl⟩
          have hrc : (q ++ [z]).length ≤ rr.cap := hr.2.1
          have hrq := Row.cutD hr
          refine JC.skip ?_
          refine JQ.thenN ?_
          refine JC.seq ?_
          refine JC.block ?_
          refine JC.seq ?_
          refine JC.region ?_
          refine JL.mv ?_
          refine JL.val rfl rfl rfl (.none rfl) (Ev.lenRow rfl Tryd.underlying23 hr) ?_
          refine JL.val rfl rfl rfl (.none rfl) (Ev.cast (v' := .int .i64 ((q.length : Nat) : Int)) (congrArg (Value.int .i64) (by omega)) (Ev.bin rfl rfl (sub_i64 (by omega)))) ?_
          refine JL.asg ?_
          refine JL.nil ?_
          refine JQ.thenN ?_
          refine JC.cut (X := Unit) (fun _ => [(1, .int .i64 (k : Int)), (8, Row.v q.length (some rr)), (5, .pointer (some ⟨b5, 0, none⟩))]) (fun _ => [(b5, Obj.cells (arr8 (nodeD z y).1) 22 (0, 0))] ++ Row.b 22 (some rr)) ?_ ?_
          · refine JC.regionA (by kernel_rfl) ?_
            refine JA.tkc 0 rfl (.none rfl) (fun _ => (Ev.move rfl)) ?_
            refine JA.tkc 1 rfl (.none rfl) (fun _ => (Ev.move rfl)) ?_
            refine JA.tkc 2 rfl (.none rfl) (fun _ => (Ev.idxS (a := ⟨rr.g, 0, none⟩) (len := (q ++ [z]).length) (cap := rr.cap) (k := q.length) rfl rfl Tryd.underlying23 Tryd.sizeOf22 rfl (by omega))) ?_
            refine JA.tkc 6 rfl (.none rfl) (fun _ => (Ev.move rfl)) ?_
            refine JA.tkc 7 rfl (.none rfl) (fun _ => (Ev.move rfl)) ?_
            refine JA.tkc 8 rfl (.none rfl) (fun _ => (Ev.cast (v' := Row.v q.length (some rr)) sub3_0 (Ev.sliceHi (a := some ⟨rr.g, 0, none⟩) (len := (q ++ [z]).length) (cap := rr.cap) (h := q.length) rfl rfl Tryd.underlying23 Tryd.sizeOf22 rfl (by omega)))) ?_
            refine JA.branch [3, 4] (by kernel_rfl) rfl ?_
            refine JAll.cons rfl ?_ ?_
            · -- 3
              refine JO.val rfl rfl rfl (.none rfl) (Ev.loadD rfl Tryd.underlying22 rfl Tryd.sizeOf22 ((Lv.row (w0 := w) (e := 22) hr).rd (fun p hp => by have := List.mem_singleton.1 hp; subst this; repeat (first | exact List.Mem.head _ | refine List.Mem.tail _ ?_ | refine List.mem_append_right _ ?_)) hz0)) ?_
              refine JA.one 4 ?_
              refine JO.val rfl rfl rfl (.none rfl) (Ev.lB Tryd.underlying22 Tryd.sizeOf22) ?_
              refine JA.one 5 ?_
              refine JO.callV rfl (.none rfl) rfl Tryd.call48 (fun w1 hw1 => nodeG_any _ _ w1 (hk.old hw1) (hf.old hw1)) ?_
              refine JA.one 9 ?_
              refine JO.sto rfl rfl (.none rfl) (Es.sA Tryd.sizeOf22) ?_
              refine JA.tkc 10 rfl (.none rfl) (fun _ => (Ev.assign rfl)) ?_
              refine JA.done (by kernel_rfl) ?_
              refine JQ.cutN () ?_ ?_
              · exact Keeps.k
              · exact Sub.k
            refine JAll.cons rfl ?_ JAll.nil
            refine JO.val rfl rfl rfl (.none rfl) (Ev.lB Tryd.underlying22 Tryd.sizeOf22) ?_
            refine JA.one 3 ?_
            refine JO.val rfl rfl rfl (.none rfl) (Ev.loadD rfl Tryd.underlying22 rfl Tryd.sizeOf22 ((Lv.row (w0 := w) (e := 22) hr).rd (fun p hp => by have := List.mem_singleton.1 hp; subst this; repeat (first | exact List.Mem.head _ | refine List.Mem.tail _ ?_ | refine List.mem_append_right _ ?_)) hz0)) ?_
            refine JA.one 5 ?_
            refine JO.callV rfl (.none rfl) rfl Tryd.call48 (fun w1 hw1 => nodeG_any _ _ w1 (hk.old hw1) (hf.old hw1)) ?_
            refine JA.one 9 ?_
            refine JO.sto rfl rfl (.none rfl) (Es.sA Tryd.sizeOf22) ?_
            refine JA.tkc 10 rfl (.none rfl) (fun _ => (Ev.assign rfl)) ?_
            refine JA.done (by kernel_rfl) ?_
            refine JQ.cutN () ?_ ?_
            · exact Keeps.k
            · exact Sub.k
          rintro _
          refine JQ.blockN ?_
          refine JQ.thenN ?_
          refine JC.region ?_
          refine JL.mv ?_
          refine JL.val rfl rfl rfl (.none rfl) (Ev.cast (v' := .int .i64 ((k / 2 : Nat) : Int)) (congrArg (Value.int .i64) (by omega)) (Ev.bin rfl rfl (quo_i64 (by omega)))) ?_
          refine JL.asg ?_
          refine JL.nil ?_
          refine JQ.loopN (k / 2, q, nodeD z y, some rr) ?_ ?_ ?_ ?_
          · exact Keeps.k
          · exact Sub.of_cnt (fun a => by (try dsimp only); simp only [cntA]; omega)
          · exact ⟨by omega, hql, by rw [← hwe, withR_odd (by omega)], hrq⟩
          · show k / 2 < k; omega
        · -- t28 False
          replace hc2 := of_decide_eq_false hc2
          have he : k % 2 = 0 := by omega
          have hol := onesR_le k
          refine JC.exit ?_
          refine JQ.thenE ?_
          refine JQ.thenE ?_
          refine JQ.blockE ?_
          refine JQ.thenN ?_
          refine JC.seq ?_
          refine JC.region ?_
          refine JL.mv ?_
          refine JL.val rfl rfl rfl (.none rfl) (Ev.lB Tryd.underlying22 Tryd.sizeOf22) ?_
          refine JL.new rfl rfl rfl (.none rfl) (En.bs1D (e := 22) rfl Tryd.underlying23 Tryd.sizeOf22 Tryd.zeroValue22) (fun b45 hb45 => ?_)
          refine JL.gen rfl rfl rfl (.none rfl) (Eg.append1 (r := r) (n := p.length) (xs := fl p) (news := fl [y]) (z := (.agg (arr8 (List.replicate 32 0)))) (s := 32) (bytes := 32) rfl rfl rfl Cut.k Tryd.underlying23 (by kernel_rfl) rfl (by decide) (by decide) hr (Rds.all memK) (fl_length _) (by decide) (fl_one _) (by omega)) ?_
          rintro _ _ ⟨rn, rfl, rfl, hrn⟩
          refine JL.asg ?_
          refine JL.asg ?_
          refine JL.nil ?_
          refine JQ.thenN ?_
          refine JC.ret ?_
          refine JQ.end2 (H' := (Row.b 22 (some rn))) (.inl rfl) rfl (.tmp rfl) (.tmp rfl) ?_ ?_
          · first | exact Sub.all | exact Sub.nil | exact Sub.of_cnt (fun a => by (try dsimp only); simp only [cntA]; omega)
          · rw [withR_even he] at hwe; exact ⟨some rn, by rw [apV_ok hok, apE_ok hok, Int.toNat_natCast, ← hwe, List.length_append]; rfl, rfl, by rw [apV_ok hok, Int.toNat_natCast, ← hwe, List.length_append, fl_append]; exact hrn⟩

theorem backD_any (v0 : Value) (w : World) (hv : v0.cells = #[v0]) :
    Calls Tryd.prog 51 #[v0] w (Ret w (fun v H => ∃ b, v = .func (.func 65) #[] #[.pointer (some ⟨b, 0, none⟩)] ∧ H = [(b, .cells #[v0] 23 (0, 0))])) := by
  refine enter (vs := [v0]) Tryd.func51 rfl Tryd.ntmps51 rfl ?_
  refine JC.seq ?_
  refine JC.region ?_
  refine JL.new rfl rfl rfl (.none rfl) (En.box1 rfl hv) (fun b1 hb1 => ?_)
  refine JL.asg ?_
  refine JL.nil ?_
  refine JQ.thenN ?_
  refine JC.seq ?_
  refine JC.region ?_
  refine JL.val rfl rfl rfl (.none rfl) (Ev.makeFunc rfl) ?_
  refine JL.asg ?_
  refine JL.nil ?_
  refine JQ.thenN ?_
  refine JC.ret ?_
  refine JQ.end1 (H' := [(b1, .cells #[v0] 23 (0, 0))]) (.inl rfl) rfl (.tmp rfl) ?_ ?_
  · exact Sub.k
  · exact ⟨b1, rfl, rfl⟩

theorem backDI_any (oa : Option Addr) (cap : Nat) (ds : List Dig) (b : Nat) (htl : ds.length ≤ 1100000) (X : Type) (A : X → Blocks) (Inv : Nat → X → Prop) (Z : Blocks → Prop) (l : Nat) (x0 : X) (w0 w : World) (hi : Inv 0 x0) (hw : Hp w0 ([(b, Obj.cells #[.slice oa ds.length cap] 23 (0, 0))] ++ A x0) w) (hy : ∀ k x vs O w1, k < ds.length → Inv k x → (fun k vs _ => ∃ d : Dig, ds[ds.length - 1 - k]? = some d ∧ vs = [.int .i64 ((ds.length : Int) - 1 - (k : Int)), .agg (arr8 d.1)]) k vs O → Hp w0 (O ++ A x) w1 → YieldOk Tryd.prog l vs.toArray w1 (fun e w' => (∃ x', Inv (k + 1) x' ∧ e = .returned (.bool true) ∧ Hp w0 (O ++ A x') w') ∨ (∃ B, Z B ∧ e = .returned (.bool false) ∧ Hp w0 (O ++ B) w'))) (hd : Dl w0 oa cap ds) :
    Calls Tryd.prog 65 #[.func (.yield l) #[] #[], .pointer (some ⟨b, 0, none⟩)] w (Ret w0 (fun _ H' => (∃ x O, Inv (ds.length) x ∧ H' = O ++ A x) ∨ (∃ B O, Z B ∧ H' = O ++ B))) := by
  refine enterAt (vs := [.func (.yield l) #[] #[], .pointer (some ⟨b, 0, none⟩)]) Tryd.func65 rfl Tryd.ntmps65 rfl hw ?_
  refine JC.seq ?_
  refine JC.region ?_
  refine JL.val rfl rfl rfl (.none rfl) (Ev.load1 rfl Tryd.underlying23 rfl (Rd.own memK rfl)) ?_
  refine JL.val rfl rfl rfl (.none rfl) (Ev.lenS rfl Tryd.underlying23) ?_
  refine JL.val rfl rfl rfl (.none rfl) (Ev.cast (v' := .int .i64 ((ds.length : Int) - 1 - ((0 : Nat) : Int))) (congrArg (Value.int .i64) (by omega)) (Ev.bin rfl rfl (sub_i64 (by omega)))) ?_
  refine JL.asg ?_
  refine JL.nil ?_
  refine JQ.thenN ?_
  refine JC.block ?_
  refine JC.loop (X := Nat × X)
    (fun ⟨k, x⟩ => [(0, .func (.yield l) #[] #[]), (1, .pointer (some ⟨b, 0, none⟩)), (3, .int .i64 ((ds.length : Int) - 1 - (k : Int)))])
    (fun ⟨k, x⟩ => [(b, Obj.cells #[.slice oa ds.length cap] 23 (0, 0))] ++ A x)
    (fun ⟨k, x⟩ => k ≤ ds.length ∧ Inv k x)
    (fun ⟨k, x⟩ => ds.length - k) (0, x0) ?_ ?_ ?_ ?_
  · exact Keeps.k
  · exact Sub.all
  · exact ⟨Nat.zero_le _, hi⟩
  rintro ⟨k, x⟩ ⟨hkk, hix⟩
  refine JC.seq ?_
  refine JC.seq ?_
  refine JC.region ?_
  refine JL.mv ?_
  refine JL.val rfl rfl rfl (.none rfl) (Ev.bin rfl rfl geq_int) ?_
  refine JL.nil ?_
  refine JQ.thenN ?_
  refine JC.cond rfl (fun hc1 => ?_) (fun hc1 => ?_)
  · -- t8 True
    replace hc1 := of_decide_eq_true hc1
    have hkl : k < ds.length := by omega
    obtain ⟨a, rfl⟩ := Cs.get_some hd (by omega)
    obtain ⟨d, hdd⟩ := get_some (l := ds) (k := ds.length - 1 - k) (by omega)
    refine JC.skip ?_
    refine JQ.thenN ?_
    refine JC.seq ?_
    refine JC.block ?_
    refine JC.seq ?_
    refine JC.region ?_
    refine JL.mv ?_
    refine JL.mv ?_
    refine JL.val rfl rfl rfl (.none rfl) (Ev.load1 rfl Tryd.underlying23 rfl (Rd.own memK rfl)) ?_
    refine JL.mv ?_
    refine JL.val rfl rfl rfl (.none rfl) (Ev.idxS rfl rfl Tryd.underlying23 Tryd.sizeOf22 (k := ds.length - 1 - k) (by omega) (by omega)) ?_
    refine JL.val rfl rfl rfl (.none rfl) (Ev.loadD rfl Tryd.underlying22 rfl Tryd.sizeOf22 (Rds.old ((hd.mem a rfl).atD hdd))) ?_
    refine JL.yieldG rfl rfl (.none rfl) rfl rfl (fun w1 hw1 => hy k x _ [(b, Obj.cells #[.slice (some a) ds.length cap] 23 (0, 0))] w1 hkl hix ⟨d, hdd, rfl⟩ (by simpa using hw1)) ?_ ?_
    · -- yield true
      rintro x2 hi2
      refine JL.val rfl rfl rfl (.none rfl) (Ev.not rfl) ?_
      refine JL.nil ?_
      refine JQ.thenN ?_
      refine JC.condF rfl ?_
      refine JC.skip ?_
      refine JQ.blockN ?_
      refine JQ.thenN ?_
      refine JC.region ?_
      refine JL.mv ?_
      refine JL.val rfl rfl rfl (.none rfl) (Ev.cast (v' := .int .i64 ((ds.length : Int) - 1 - ((k + 1 : Nat) : Int))) (congrArg (Value.int .i64) (by omega)) (Ev.bin rfl rfl (sub_i64 (by omega)))) ?_
      refine JL.asg ?_
      refine JL.nil ?_
      refine JQ.loopN (k + 1, x2) ?_ ?_ ?_ ?_
      · exact Keeps.k
      · exact Sub.of_cnt (fun a => by (try dsimp only); simp only [cntA]; omega)
      · exact ⟨hkl, hi2⟩
      · show ds.length - (k + 1) < ds.length - k; omega
    · -- yield false
      rintro B hz
      refine JL.val rfl rfl rfl (.none rfl) (Ev.not rfl) ?_
      refine JL.nil ?_
      refine JQ.thenN ?_
      refine JC.condT rfl ?_
      refine JC.ret ?_
      refine JQ.blockR ?_
      refine JQ.thenR ?_
      refine JQ.thenR ?_
      refine JQ.blockR ?_
      refine JQ.end0 (H' := ([(b, Obj.cells #[.slice (some a) ds.length cap] 23 (0, 0))] ++ B)) (.inl rfl) rfl  ?_ ?_
      · exact Sub.of_cnt (fun a => by (try dsimp only); simp only [cntA]; omega)
      · exact .inr ⟨B, _, hz, rfl⟩
  · -- t8 False
    replace hc1 := of_decide_eq_false hc1
    obtain rfl : k = ds.length := by omega
    refine JC.exit ?_
    refine JQ.thenE ?_
    refine JQ.thenE ?_
    refine JQ.blockE ?_
    refine JQ.end0 (H' := ([(b, Obj.cells #[.slice oa ds.length cap] 23 (0, 0))] ++ A x)) (.inr rfl) rfl  ?_ ?_
    · exact Sub.of_cnt (fun a => by (try dsimp only); simp only [cntA]; omega)
    · exact .inl ⟨x, _, hix, rfl⟩

theorem cPeaksRoot_any (oa : Option Addr) (cap : Nat) (ds : List Dig) (w : World) (hd : Dl w oa cap ds) (hmx : ds.length ≤ 1100000) (hk : KMem 1 w) (hf : FMem 0 w) :
    Calls Tryd.prog 26 #[.slice oa ds.length cap] w (Ret w (fun v _ => v = .agg (arr8 (prootR ds).1))) := by
  refine enterM (vs := [.slice oa ds.length cap]) Tryd.func26 rfl Tryd.ntmps26 rfl ?_
  refine JC.seq ?_
  refine JC.region ?_
  refine JL.new rfl rfl rfl (.none rfl) (En.allocZ (cs := arr8 (List.replicate 32 0)) Tryd.zeroValue22 rfl) (fun b2 hb2 => ?_)
  refine JL.nil ?_
  refine JQ.thenN ?_
  refine JC.seq ?_
  refine JC.seq ?_
  refine JC.region ?_
  refine JL.mv ?_
  refine JL.val rfl rfl rfl (.none rfl) (Ev.lenS rfl Tryd.underlying23) ?_
  refine JL.val rfl rfl rfl (.none rfl) (Ev.bin rfl rfl eql_int) ?_
  refine JL.nil ?_
  refine JQ.thenN ?_
  refine JC.cond rfl (fun hc1 => ?_) (fun hc1 => ?_)
  · -- t10 True
    replace hc1 := of_decide_eq_true hc1
    have hnil : ds = [] := List.eq_nil_of_length_eq_zero (by omega)
    refine JC.seq ?_
    refine JC.region ?_
    refine JL.callV rfl (.none rfl) rfl Tryd.call35 (fun w1 hw1 => Sum_any none 0 [] w1 bs_nil (Nat.zero_le _) (hk.old hw1) (hf.old hw1)) ?_
    refine JL.mv ?_
    refine JL.val rfl rfl rfl (.none rfl) (Ev.ex0 rfl) ?_
    refine JL.val rfl rfl rfl (.none rfl) (Ev.ex1 rfl) ?_
    refine JL.new rfl rfl rfl (.none rfl) (En.allocZ (cs := arr8 (List.replicate 32 0)) Tryd.zeroValue22 rfl) (fun b3 hb3 => ?_)
    refine JL.sto rfl rfl (.none rfl) (Es.sA Tryd.sizeOf22) ?_
    refine JL.asg ?_
    refine JL.nil ?_
    refine JQ.thenN ?_
    refine JC.seq ?_
    refine JC.region ?_
    refine JL.val rfl rfl rfl (.none rfl) (Ev.lB Tryd.underlying22 Tryd.sizeOf22) ?_
    refine JL.sto rfl rfl (.none rfl) (Es.sA Tryd.sizeOf22) ?_
    refine JL.nil ?_
    refine JQ.thenN ?_
    refine JC.ret ?_
    refine JQ.thenR ?_
    refine JQ.endM0s (H' := []) (.inl rfl) (by exact Sub.k) (res1 rfl (.agg rfl memK Tryd.underlying22 rfl Tryd.sizeOf22 szK)) ?_
    · subst hnil; rfl
  · -- t10 False
    replace hc1 := of_decide_eq_false hc1
    obtain ⟨q, z, rfl, hql⟩ : ∃ q z, ds = q ++ [z] ∧ q.length + 1 = ds.length := by obtain ⟨q, z, h3, h4⟩ := ends_ex (p := ds) (k := ds.length - 1) (by omega); exact ⟨q, z, h3, by omega⟩
    have hpl : (q ++ [z]).length = q.length + 1 := by simp
    have hz0 : (q ++ [z])[q.length]? = some z := by simp
    obtain ⟨a, rfl⟩ := Cs.get_some hd (by omega)
    have hqd := Dl.init hd
    refine JC.skip ?_
    refine JQ.thenN ?_
    refine JC.seq ?_
    refine JC.region ?_
    refine JL.mv ?_
    refine JL.mv ?_
    refine JL.val rfl rfl rfl (.none rfl) (Ev.lenS rfl Tryd.underlying23) ?_
    refine JL.val rfl rfl rfl (.none rfl) (Ev.bin rfl rfl (sub_i64 (by omega))) ?_
    refine JL.val rfl rfl rfl (.none rfl) (Ev.idxS rfl rfl Tryd.underlying23 Tryd.sizeOf22 (k := q.length) (by omega) (by omega)) ?_
    refine JL.val rfl rfl rfl (.none rfl) (Ev.loadD rfl Tryd.underlying22 rfl Tryd.sizeOf22 (Rds.old ((hd.mem a rfl).atD hz0))) ?_
    refine JL.new rfl rfl rfl (.none rfl) (En.allocZ (cs := arr8 (List.replicate 32 0)) Tryd.zeroValue22 rfl) (fun b5 hb5 => ?_)
    refine JL.sto rfl rfl (.none rfl) (Es.sA Tryd.sizeOf22) ?_
    refine JL.nil ?_
    refine JQ.thenN ?_
    refine JC.seq ?_
    refine JC.seq ?_
    refine JC.region ?_
    refine JL.mv ?_
    refine JL.mv ?_
    refine JL.val rfl rfl rfl (.none rfl) (Ev.lenS rfl Tryd.underlying23) ?_
    refine JL.val rfl rfl rfl (.none rfl) (Ev.bin rfl rfl (sub_i64 (by omega))) ?_
    refine JL.val rfl rfl rfl (.none rfl) (Ev.cast (v' := .slice (some a) q.length cap) (sub3_0) (Ev.sliceHi rfl rfl Tryd.underlying23 Tryd.sizeOf22 (h := q.length) (by omega) (by have := hd.le; omega))) ?_
    refine JL.callN rfl (.none rfl) rfl Tryd.call51 (fun w1 hw1 => backD_any _ w1 rfl) ?_
    rintro _ _ ⟨bb, rfl, rfl⟩
    refine JL.nil ?_
    refine JQ.thenN ?_
    refine JC.block ?_
    refine JC.rangeH (ps := [28, 29]) (X := Dig) (Y := Nat) (q.length) (fun p E => (b5, Obj.cells (arr8 p.1) 22 (0, 0)) :: (b2, Obj.cells (arr8 (List.replicate 32 0)) 22 (0, 0)) :: E) (fun k p => p = (q.reverse.take k).foldl (fun t x => nodeD x t) z) (fun c p => False) ((fun k vs _ => ∃ d : Dig, q[q.length - 1 - k]? = some d ∧ vs = [.int .i64 ((q.length : Int) - 1 - (k : Int)), .agg (arr8 d.1)])) ([(bb, Obj.cells #[.slice (some a) q.length cap] 23 (0, 0))]) z (fun k p vs y => [(2, .pointer (some ⟨b2, 0, none⟩)), (5, .pointer (some ⟨b5, 0, none⟩)), (7, .pointer (some ⟨y, 0, none⟩)), (28, (vs.headD undef)), (29, ((vs.drop 1).headD undef))]) (fun p vs y E => (y, Obj.cells (((vs.drop 1).headD undef)).cells 22 (0, 0)) :: (b5, Obj.cells (arr8 p.1) 22 (0, 0)) :: (b2, Obj.cells (arr8 (List.replicate 32 0)) 22 (0, 0)) :: E) (fun _ _ => rfl) (fun _ _ _ _ => rfl) rfl Tryd.call65 ?_ ?_ rfl (fun _ _ _ h => by obtain ⟨_, _, rfl⟩ := h; rfl) (fun X A Inv Z l x0 w1 hi hw hy => backDI_any (some a) cap q bb (by omega) X A Inv Z l x0 w w1 hi hw hy hqd) ?_ ?_ ?_ ?_
    · exact Sub.k
    · rfl
    · rintro lr k p vs O E hkN hp ⟨d, hdd, rfl⟩ hO
      refine JC.region ?_
      refine JL.new rfl rfl rfl (.none rfl) (En.allocZ (cs := arr8 (List.replicate 32 0)) Tryd.zeroValue22 rfl) (fun b7 hb7 => ?_)
      refine JL.sto rfl rfl (.none rfl) (Es.sA Tryd.sizeOf22) ?_
      refine JL.nil ?_
      refine JQ.asgH b7 ?_ ?_
      · exact Keeps.k
      · exact Sub.k
    · rintro lr k p vs y O E hkN hp ⟨d, hdd, rfl⟩ hO
      change JC _ [(2, .pointer (some ⟨b2, 0, none⟩)), (5, .pointer (some ⟨b5, 0, none⟩)), (7, .pointer (some ⟨y, 0, none⟩)), (28, (.int .i64 ((q.length : Int) - 1 - (k : Int)))), (29, (Value.agg (arr8 d.1)))] ((y, Obj.cells ((Value.agg (arr8 d.1))).cells 22 (0, 0)) :: (b5, Obj.cells (arr8 p.1) 22 (0, 0)) :: (b2, Obj.cells (arr8 (List.replicate 32 0)) 22 (0, 0)) :: E) _ _
      refine JC.block ?_
      refine JC.region ?_
      refine JL.val rfl rfl rfl (.none rfl) (Ev.lB Tryd.underlying22 Tryd.sizeOf22) ?_
      refine JL.val rfl rfl rfl (.none rfl) (Ev.lB Tryd.underlying22 Tryd.sizeOf22) ?_
      refine JL.callV rfl (.none rfl) rfl Tryd.call48 (fun w1 hw1 => nodeG_any _ _ w1 (hk.old hw1) (hf.old hw1)) ?_
      refine JL.sto rfl rfl (.none rfl) (Es.sA Tryd.sizeOf22) ?_
      refine JL.nil ?_
      refine JQ.blockN ?_
      refine JQ.bodG (nodeD d p) ?_ ?_
      · rw [foldl_take_succ (show q.reverse[k]? = some d by rw [List.getElem?_reverse hkN]; exact hdd), ← hp]
      · exact Sub.k
    · rintro p D E hp
      have e : p = prootR (q ++ [z]) := by rw [hp, List.take_of_length_le (by rw [List.length_reverse]; exact Nat.le_refl _), proot_back, List.foldl_reverse]
      refine JQ.blockN ?_
      refine JQ.thenN ?_
      refine JC.seq ?_
      refine JC.region ?_
      refine JL.val rfl rfl rfl (.none rfl) (Ev.lB Tryd.underlying22 Tryd.sizeOf22) ?_
      refine JL.sto rfl rfl (.none rfl) (Es.sA Tryd.sizeOf22) ?_
      refine JL.nil ?_
      refine JQ.thenN ?_
      refine JC.ret ?_
      refine JQ.endMs (H' := []) (.inl rfl) memK ⟨_, Upd.k, by exact Sub.k, (res1 rfl (.agg rfl memK Tryd.underlying22 rfl Tryd.sizeOf22 szK))⟩ ?_
      · rw [← e]
    · rintro c p D E hs
      exact hs.elim

end Go.Proofs.YtimegpilihfghaaDoor
