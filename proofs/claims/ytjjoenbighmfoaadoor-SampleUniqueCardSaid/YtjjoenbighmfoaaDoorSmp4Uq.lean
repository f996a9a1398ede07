/-
  The library's comparison of numbers; the closure that orders places; places sorted.
-/
import Derived.Test.YtjjoenbighmfoaaDoorPmpUq
import Derived.Test.YtjjoenbighmfoaaDoorLayPUq
import Derived.Test.YtjjoenbighmfoaaDoorSmp1Uq
namespace Go.Proofs.YtjjoenbighmfoaaDoor
open Go Go.RowKit
set_option maxRecDepth 100000

def cmpI (x y : Int) : Int := if x < y then -1 else if y < x then 1 else 0
def orL : List Int → Int
  | [] => 0
  | x :: l => if x = 0 then orL l else x
theorem orL_none : ∀ {l : List Int}, (∀ j y, j < l.length → l[j]? = some y → y = 0) → orL l = 0
  | [], _ => rfl
  | x :: l, h => by
    have h0 := h 0 x (Nat.succ_pos _) rfl
    rw [orL, if_pos h0]
    exact orL_none fun j y hj hy => h (j + 1) y (Nat.succ_lt_succ hj) hy
theorem orL_at : ∀ {l : List Int} {i : Nat} {x : Int}, (∀ j y, j < i → l[j]? = some y → y = 0) → l[i]? = some x → x ≠ 0 → orL l = x
  | [], i, x, _, h, _ => by simp at h
  | y :: l, 0, x, _, h, h1 => by
    have : y = x := by simpa using h
    subst this
    rw [orL, if_neg h1]
  | y :: l, i + 1, x, hz, h, h1 => by
    have h0 := hz 0 y (Nat.succ_pos _) rfl
    rw [orL, if_pos h0]
    exact orL_at (fun j z hj hy => hz (j + 1) z (Nat.succ_lt_succ hj) hy) (by simpa using h) h1
theorem zero_next {l : List Int} {i : Nat} {x : Int} (h : ∀ j y, j < i → l[j]? = some y → y = 0) (hx : l[i]? = some x) (h0 : x = 0) : ∀ j y, j < i + 1 → l[j]? = some y → y = 0 := fun j y hj hy => by
  rcases Nat.lt_or_ge j i with h1 | h1
  · exact h j y h1 hy
  · obtain rfl : j = i := by omega
    rw [hx] at hy
    exact (Option.some.inj hy).symm.trans h0
theorem orL_cmp (p q : Pl) : orL [cmpI p.1 q.1, cmpI p.2 q.2] = cmpP p q := by
  simp only [orL, cmpI, cmpP]
  repeat (first | rfl | omega | split)
theorem Cs.own {w0 w : World} {H : Blocks} (h : Hp w0 H w) {b : Nat} {xs : List Value} {t : TypeId} (hb : (b, Obj.cells xs.toArray t (0, 0)) ∈ H) (n : Nat) (hn : n ≤ maxLen) : Cs w (some ⟨b, 0, none⟩) n n xs :=
  ⟨Nat.le_refl _, hn, (fun h => by cases h), fun a ha => by
    cases ha
    exact Mem.own h hb fun j v hj => by simpa using hj⟩

theorem nan_any (x : Int) (w : World) :
    Calls Tryd.prog 40 #[.int .i64 x] w (Ret w (fun v _ => v = .bool false)) := by
  refine enter (vs := [.int .i64 x]) Tryd.func40 rfl Tryd.ntmps40 rfl ?_
  refine JC.seq ?_
  refine JC.region ?_
  refine JL.asg ?_
  refine JL.nil ?_
  refine JQ.thenN ?_
  refine JC.seq ?_
  refine JC.region ?_
  refine JL.mv ?_
  refine JL.mv ?_
  refine JL.val rfl rfl rfl (.none rfl) (Ev.bin rfl rfl neq_int) ?_
  refine JL.asg ?_
  refine JL.nil ?_
  refine JQ.thenN ?_
  refine JC.ret ?_
  refine JQ.end1 (H' := []) (.inl rfl) rfl (.tmp rfl) ?_ ?_
  · exact Sub.k
  · simp

theorem compare_any (x y : Int) (w : World) :
    Calls Tryd.prog 32 #[.int .i64 x, .int .i64 y] w (Ret w (fun v _ => v = .int .i64 (cmpI x y))) := by
  refine enter (vs := [.int .i64 x, .int .i64 y]) Tryd.func32 rfl Tryd.ntmps32 rfl ?_
  refine JC.seq ?_
  refine JC.region ?_
  refine JL.asg ?_
  refine JL.nil ?_
  refine JQ.thenN ?_
  refine JC.seq ?_
  refine JC.region ?_
  refine JL.mv ?_
  refine JL.callV rfl (.none rfl) rfl Tryd.call40 (fun w1 hw1 => nan_any x w1) ?_
  refine JL.asg ?_
  refine JL.nil ?_
  refine JQ.thenN ?_
  refine JC.seq ?_
  refine JC.region ?_
  refine JL.mv ?_
  refine JL.callV rfl (.none rfl) rfl Tryd.call40 (fun w1 hw1 => nan_any y w1) ?_
  refine JL.asg ?_
  refine JL.nil ?_
  refine JQ.thenN ?_
  refine JC.seq ?_
  refine JC.seq ?_
  refine JC.region ?_
  refine JL.mv ?_
  refine JL.nil ?_
  refine JQ.thenN ?_
  refine JC.knowF rfl ?_ ?_
  · rfl
  refine JC.skip ?_
  refine JQ.thenN ?_
  refine JC.seq ?_
  refine JC.seq ?_
  refine JC.region ?_
  refine JL.mv ?_
  refine JL.nil ?_
  refine JQ.thenN ?_
  refine JC.knowF rfl ?_ ?_
  · rfl
  refine JC.skip ?_
  refine JQ.thenN ?_
  refine JC.seq ?_
  refine JC.seq ?_
  refine JC.region ?_
  refine JL.mv ?_
  refine JL.mv ?_
  refine JL.val rfl rfl rfl (.none rfl) (Ev.bin rfl rfl lss_int) ?_
  refine JL.nil ?_
  refine JQ.thenN ?_
  refine JC.cond rfl (fun hc1 => ?_) (fun hc1 => ?_)
  · -- t16 True
    replace hc1 := of_decide_eq_true hc1
    refine JC.seq ?_
    refine JC.region ?_
    refine JL.asg ?_
    refine JL.nil ?_
    refine JQ.thenN ?_
    refine JC.ret ?_
    refine JQ.thenR ?_
    refine JQ.end1 (H' := []) (.inl rfl) rfl (.tmp rfl) ?_ ?_
    · exact Sub.k
    · unfold cmpI; first | (rw [if_pos (by omega)]; done) | (rw [if_neg (by omega), if_pos (by omega)]; done) | (rw [if_neg (by omega), if_neg (by omega)]; done)
  · -- t16 False
    replace hc1 := of_decide_eq_false hc1
    refine JC.skip ?_
    refine JQ.thenN ?_
    refine JC.seq ?_
    refine JC.seq ?_
    refine JC.region ?_
    refine JL.mv ?_
    refine JL.mv ?_
    refine JL.val rfl rfl rfl (.none rfl) (Ev.bin rfl rfl gtr_int) ?_
    refine JL.nil ?_
    refine JQ.thenN ?_
    refine JC.cond rfl (fun hc2 => ?_) (fun hc2 => ?_)
    · -- t19 True
      replace hc2 := of_decide_eq_true hc2
      refine JC.seq ?_
      refine JC.region ?_
      refine JL.asg ?_
      refine JL.nil ?_
      refine JQ.thenN ?_
      refine JC.ret ?_
      refine JQ.thenR ?_
      refine JQ.end1 (H' := []) (.inl rfl) rfl (.tmp rfl) ?_ ?_
      · exact Sub.k
      · unfold cmpI; first | (rw [if_pos (by omega)]; done) | (rw [if_neg (by omega), if_pos (by omega)]; done) | (rw [if_neg (by omega), if_neg (by omega)]; done)
    · -- t19 False
      replace hc2 := of_decide_eq_false hc2
      refine JC.skip ?_
      refine JQ.thenN ?_
      refine JC.seq ?_
      refine JC.region ?_
      refine JL.asg ?_
      refine JL.nil ?_
      refine JQ.thenN ?_
      refine JC.ret ?_
      refine JQ.end1 (H' := []) (.inl rfl) rfl (.tmp rfl) ?_ ?_
      · exact Sub.k
      · unfold cmpI; first | (rw [if_pos (by omega)]; done) | (rw [if_neg (by omega), if_pos (by omega)]; done) | (rw [if_neg (by omega), if_neg (by omega)]; done)

theorem or_any (oa : Option Addr) (cap : Nat) (ss : List Int) (w : World) (hs : Cs w oa ss.length cap (ints ss)) :
    Calls Tryd.prog 31 #[.slice oa ss.length cap] w (Ret w (fun v _ => v = .int .i64 (orL ss))) := by
  refine enter (vs := [.slice oa ss.length cap]) Tryd.func31 rfl Tryd.ntmps31 rfl ?_
  refine JC.seq ?_
  refine JC.region ?_
  refine JL.asg ?_
  refine JL.nil ?_
  refine JQ.thenN ?_
  refine JC.seq ?_
  refine JC.region ?_
  refine JL.asg ?_
  refine JL.nil ?_
  refine JQ.thenN ?_
  refine JC.seq ?_
  refine JC.seq ?_
  refine JC.region ?_
  refine JL.mv ?_
  refine JL.val rfl rfl rfl (.none rfl) (Ev.lenS rfl Tryd.underlying28) ?_
  refine JL.mv ?_
  refine JL.nil ?_
  refine JQ.thenN ?_
  refine JC.block ?_
  refine JC.loop (X := Nat)
    (fun i => [(3, .int .i64 0), (6, .slice oa ss.length cap), (7, .int .i64 (ss.length : Int)), (8, .int .i64 (i : Int))])
    (fun i => [])
    (fun i => i ≤ ss.length ∧ ∀ j y, j < i → ss[j]? = some y → y = 0)
    (fun i => ss.length - i) 0 ?_ ?_ ?_ ?_
  · exact Keeps.k
  · exact Sub.nil
  · exact ⟨Nat.zero_le _, fun j y hj => by omega⟩
  rintro i ⟨hi, hz⟩
  refine JC.seq ?_
  refine JC.region ?_
  refine JL.val rfl rfl rfl (.none rfl) (Ev.bin rfl rfl lss_int) ?_
  refine JL.nil ?_
  refine JQ.thenN ?_
  refine JC.seq ?_
  refine JC.cond rfl (fun hc1 => ?_) (fun hc1 => ?_)
  · -- t9 True
    replace hc1 := of_decide_eq_true hc1
    obtain ⟨a, rfl⟩ := hs.get_some (by omega)
    obtain ⟨x, hx⟩ := get_some (l := ss) (k := i) (by omega)
    have hsm := Nat.le_trans hs.le hs.top
    unfold maxLen at hsm
    refine JC.skip ?_
    refine JQ.thenN ?_
    refine JC.seq ?_
    refine JC.block ?_
    refine JC.seq ?_
    refine JC.region ?_
    refine JL.val rfl rfl rfl (.none rfl) (Ev.idxS1 rfl rfl Tryd.underlying28 Tryd.sizeOf3 (k := i) rfl (by omega)) ?_
    refine JL.val rfl rfl rfl (.none rfl) (Ev.load1 rfl Tryd.underlying3 rfl ((Rds.old (hs.mem _ rfl)).at (k := i) (ints_get hx))) ?_
    refine JL.asg ?_
    refine JL.nil ?_
    refine JQ.thenN ?_
    refine JC.seq ?_
    refine JC.region ?_
    refine JL.mv ?_
    refine JL.mv ?_
    refine JL.val rfl rfl rfl (.none rfl) (Ev.bin rfl rfl neq_int) ?_
    refine JL.nil ?_
    refine JQ.thenN ?_
    refine JC.cond rfl (fun hq => ?_) (fun hq => ?_)
    · -- t14 True
      replace hq := of_decide_eq_true hq
      refine JC.seq ?_
      refine JC.region ?_
      refine JL.mv ?_
      refine JL.asg ?_
      refine JL.nil ?_
      refine JQ.thenN ?_
      refine JC.ret ?_
      refine JQ.blockR ?_
      refine JQ.thenR ?_
      refine JQ.thenR ?_
      refine JQ.blockR ?_
      refine JQ.thenR ?_
      refine JQ.end1 (H' := []) (.inl rfl) rfl (.tmp rfl) ?_ ?_
      · exact Sub.k
      · rw [orL_at hz hx hq]
    · -- t14 False
      replace hq := of_decide_eq_false hq
      have hq : x = 0 := by omega
      refine JC.skip ?_
      refine JQ.blockN ?_
      refine JQ.thenN ?_
      refine JC.region ?_
      refine JL.val rfl rfl rfl (.none rfl) (Ev.bin rfl rfl (add_i64 (by omega))) ?_
      refine JL.mv ?_
      refine JL.nil ?_
      refine JQ.loopN (i + 1) ?_ ?_ ?_ ?_
      · exact Keeps.k
      · exact Sub.nil
      · exact ⟨by omega, zero_next hz hx hq⟩
      · show ss.length - (i + 1) < ss.length - i; omega
  · -- t9 False
    replace hc1 := of_decide_eq_false hc1
    obtain rfl : i = ss.length := by omega
    refine JC.exit ?_
    refine JQ.thenE ?_
    refine JQ.thenE ?_
    refine JQ.blockE ?_
    refine JQ.thenN ?_
    refine JC.seq ?_
    refine JC.region ?_
    refine JL.mv ?_
    refine JL.asg ?_
    refine JL.nil ?_
    refine JQ.thenN ?_
    refine JC.ret ?_
    refine JQ.end1 (H' := []) (.inl rfl) rfl (.tmp rfl) ?_ ?_
    · exact Sub.k
    · rw [orL_none hz]

theorem clo_any (p q : Pl) (w : World) :
    Calls Tryd.prog 30 #[.agg (plc p).toArray, .agg (plc q).toArray] w (Ret w (fun v _ => v = .int .i64 (cmpP p q))) := by
  refine enter (vs := [.agg (plc p).toArray, .agg (plc q).toArray]) Tryd.func30 rfl Tryd.ntmps30 rfl ?_
  refine JC.seq ?_
  refine JC.region ?_
  refine JL.new rfl rfl rfl (.none rfl) (En.boxA rfl) (fun b2 hb2 => ?_)
  refine JL.new rfl rfl rfl (.none rfl) (En.boxA rfl) (fun b3 hb3 => ?_)
  refine JL.asg ?_
  refine JL.nil ?_
  refine JQ.thenN ?_
  refine JC.seq ?_
  refine JC.regionT 10 (by kernel_rfl) (by kernel_rfl) (List.take_append_drop 10 _).symm rfl ?_
  refine JW.val rfl rfl (.none rfl) (Ev.fld 0 rfl (fun _ _ => by kernel_rfl)) ?_
  refine JW.val rfl rfl (.none rfl) (Ev.load1 rfl Tryd.underlying3 rfl (Rd.own memK rfl)) ?_
  refine JW.val rfl rfl (.none rfl) (Ev.fld 0 rfl (fun _ _ => by kernel_rfl)) ?_
  refine JW.val rfl rfl (.none rfl) (Ev.load1 rfl Tryd.underlying3 rfl (Rd.own memK rfl)) ?_
  refine JW.call rfl (.none rfl) rfl Tryd.call32 (fun w1 hw1 => compare_any p.1 q.1 w1) ?_
  refine JW.val rfl rfl (.none rfl) (Ev.fld 1 rfl (fun _ _ => by kernel_rfl)) ?_
  refine JW.val rfl rfl (.none rfl) (Ev.load1 rfl Tryd.underlying3 rfl (Rd.own memK rfl)) ?_
  refine JW.val rfl rfl (.none rfl) (Ev.fld 1 rfl (fun _ _ => by kernel_rfl)) ?_
  refine JW.val rfl rfl (.none rfl) (Ev.load1 rfl Tryd.underlying3 rfl (Rd.own memK rfl)) ?_
  refine JW.call rfl (.none rfl) rfl Tryd.call32 (fun w1 hw1 => compare_any p.2 q.2 w1) ?_
  refine JW.tail ?_
  refine JL.new rfl rfl rfl (.none rfl) (En.bsN (e := 3) rfl (fun _ => by kernel_rfl)) (fun b15 hb15 => ?_)
  refine JL.callV rfl (.none rfl) rfl Tryd.call31 (fun w1 hw1 => or_any (some ⟨b15, 0, none⟩) 2 [cmpI p.1 q.1, cmpI p.2 q.2] w1 (Cs.own hw1 (xs := ints [cmpI p.1 q.1, cmpI p.2 q.2]) memK 2 (by decide))) ?_
  refine JL.asg ?_
  refine JL.nil ?_
  refine JQ.thenN ?_
  refine JC.ret ?_
  refine JQ.end1 (H' := []) (.inl rfl) rfl (.tmp rfl) ?_ ?_
  · exact Sub.k
  · exact congrArg (Value.int .i64) (orL_cmp p q)

theorem sort_any {w0 w1 : World} {H H0 : Blocks} {r : Option Row} {out : List Pl} (hcut : Cut (Row.b 27 r) H H0) (hr : Row.ok 2 out.length (pf out) r) (hl : out.length ≤ 1100000) (hw : Hp w0 H w1) :
    Calls Tryd.prog 29 #[Row.v out.length r, .func (.func 30) #[] #[]] w1 (Ret w0 fun v H' => v = .tuple #[] ∧ ∃ r' : Option Row, Row.v out.length r' = Row.v out.length r ∧ H' = H0 ++ Row.b 27 r' ∧ Row.ok 2 out.length (pf (srtP out)) r') := by
  have hw2 := hw.perm hcut.perm
  cases r with
  | none =>
    obtain ⟨h0, h1⟩ := hr
    have hout : out = [] := List.eq_nil_of_length_eq_zero h0
    subst hout
    refine (Go.Proofs.AnyF.slices_SortFunc_none (P := Tryd.prog) (ρ := Tryd.sortPl_ren) { Tryd.sortPl with } none 0 (.func (.func 30) #[] #[]) w1).mono ?_
    rintro e w' ⟨he, rfl⟩
    exact ⟨_, _, he, hw2, rfl, none, rfl, rfl, rfl, by rw [show srtP [] = [] from List.eq_nil_of_length_eq_zero (srtP_length [])]; rfl⟩
  | some R =>
    have hm : (R.g, Obj.cells R.cs 27 (0, 0)) ∈ H0 ++ Row.b 27 (some R) := List.mem_append_right _ (List.mem_cons_self ..)
    have hcmp : Go.Proofs.CmpLays Tryd.prog 30 #[] plc 2 cmpP R.g 0 out.toArray.size w1 := fun m os dk _ x y => by
      rw [Array.append_empty]
      refine (clo_any x y _).mono ?_
      rintro e w' ⟨v, H', he, h1, hv⟩
      exact ⟨by rw [he, hv], grown_of h1⟩
    refine (Go.Proofs.AnyQ.slices_SortFunc_total Tryd.sortPl 2 Tryd.isAgg27 Tryd.sizeOf27 plc (fun _ => rfl) plc_one cmpP swoP 30 #[] R.g 0 R.cap out.toArray w1 Tryd.call30 hcmp (holds_own hw2 hm hr) (hw2.lt hm) (by show out.length < _; omega) totP).mono ?_
    rintro e w' ⟨he, n, os, rfl⟩
    obtain ⟨R', hg, hc, h3, h4⟩ := sorted_row (m := srtP out) (n := n) (os := os) hw2 hr (srtP_length out)
    exact ⟨_, _, he, h3, rfl, some R', by show Value.slice (some ⟨R'.g, 0, none⟩) _ R'.cap = _; rw [hg, hc]; rfl, rfl, h4⟩

end Go.Proofs.YtjjoenbighmfoaaDoor
