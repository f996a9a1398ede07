/-
  The law of numbering.
-/
import Derived.Test.YtjjoenbighmfoaaDoorSmp7Nb
namespace Go.Proofs.YtjjoenbighmfoaaDoor
open Go Go.RowKit
set_option maxRecDepth 100000

theorem first_place : ∀ (b : Int) (ss : List Int) (p : Pl), (placesAt b ss)[0]? = some p → b ≤ p.1 ∧ p.2 = 0
  | _, [], _, h => by simp [placesAt] at h
  | b, k :: ss, p, h => by
    rw [placesAt] at h
    by_cases h0 : k.toNat = 0
    · rw [h0, show batch b 0 = [] from rfl, List.nil_append] at h
      have := first_place (b + 1) ss p h
      omega
    · rw [List.getElem?_append_left (by rw [batch_length]; omega), batch_get (by omega)] at h
      obtain rfl := Option.some.inj h
      exact ⟨Int.le_refl _, rfl⟩
theorem next_place : ∀ (b : Int) (ss : List Int) (j : Nat) (q p : Pl), (placesAt b ss)[j]? = some q → (placesAt b ss)[j + 1]? = some p → (p.1 = q.1 ∧ p.2 = q.2 + 1) ∨ (q.1 < p.1 ∧ p.2 = 0)
  | _, [], _, _, _, h, _ => by simp [placesAt] at h
  | b, k :: ss, j, q, p, h, h1 => by
    rw [placesAt] at h h1
    have hl := batch_length b k.toNat
    rcases Nat.lt_or_ge (j + 1) k.toNat with h2 | h2
    · rw [List.getElem?_append_left (by omega), batch_get (by omega)] at h h1
      obtain rfl := Option.some.inj h
      obtain rfl := Option.some.inj h1
      exact .inl ⟨rfl, by show ((j + 1 : Nat) : Int) = (j : Int) + 1; omega⟩
    · rcases Nat.lt_or_ge j k.toNat with h3 | h3
      · rw [List.getElem?_append_left (by omega), batch_get h3] at h
        rw [List.getElem?_append_right (by omega), hl, show j + 1 - k.toNat = 0 by omega] at h1
        obtain rfl := Option.some.inj h
        have h4 := first_place (b + 1) ss p h1
        exact .inr ⟨by show b < p.1; omega, h4.2⟩
      · rw [List.getElem?_append_right (by omega), hl] at h h1
        rw [show j + 1 - k.toNat = j - k.toNat + 1 by omega] at h1
        exact next_place (b + 1) ss _ q p h h1
/-- The place told last. -/
def lastI (ss : List Int) (n : Nat) (q : Pl) : Prop := (n = 0 ∧ q = (-1, 0)) ∨ (0 < n ∧ (allP ss)[n - 1]? = some q)
section
variable {ss : List Int} {n : Nat} {p q : Pl}
theorem last_step (h : lastI ss n q) (hp : (allP ss)[n]? = some p) : (p.1 = q.1 ∧ p.2 = q.2 + 1) ∨ (q.1 < p.1 ∧ p.2 = 0) := by
  rcases h with ⟨rfl, rfl⟩ | ⟨h1, h2⟩
  · have h3 := first_place 0 ss p hp
    exact .inr ⟨by show (-1 : Int) < p.1; omega, h3.2⟩
  · obtain ⟨m, rfl⟩ : ∃ m, n = m + 1 := ⟨n - 1, by omega⟩
    exact next_place 0 ss m q p h2 hp
theorem last_lo (h : lastI ss n q) (hp : (allP ss)[n]? = some p) : q.1 ≤ p.1 := by have := last_step h hp; omega
theorem last_eq (h : lastI ss n q) (hp : (allP ss)[n]? = some p) (e : p.1 = q.1) : p.2 = q.2 + 1 := by have := last_step h hp; omega
theorem last_gr (h : lastI ss n q) (hp : (allP ss)[n]? = some p) (e : q.1 < p.1) : p.2 = 0 := by have := last_step h hp; omega
end

set_option maxHeartbeats 4000000 in
theorem lawNumbering_any (oa : Option Addr) (cap : Nat) (ss : List Int) (w : World) (hs : Cs w oa ss.length cap (ints ss)) (hk : KMem 1 w) (hf : FMem 0 w) :
    Calls Tryd.prog 7 #[.slice oa ss.length cap] w (Ret w (fun v _ => v = .bool true)) := by
  refine enter (vs := [.slice oa ss.length cap]) Tryd.func7 rfl Tryd.ntmps7 rfl ?_
  refine JC.seq ?_
  refine JC.region ?_
  refine JL.asg ?_
  refine JL.nil ?_
  refine JQ.thenN ?_
  refine JC.seq ?_
  refine JC.seq ?_
  refine JC.region ?_
  refine JL.mv ?_
  refine JL.callV rfl (.none rfl) rfl Tryd.call19 (fun w1 hw1 => sgreat_any oa none ss.length 0 cap 0 w1) ?_
  refine JL.nil ?_
  refine JQ.thenN ?_
  refine JC.cond rfl (fun hc1 => ?_) (fun hc1 => ?_)
  · -- t22 True
    replace hc1 := of_decide_eq_true hc1
    refine JC.seq ?_
    refine JC.region ?_
    refine JL.callV rfl (.none rfl) rfl Tryd.call4 (fun w1 hw1 => sExamples_any w1 (hk.old hw1) (hf.old hw1)) ?_
    refine JL.asg ?_
    refine JL.nil ?_
    refine JQ.thenN ?_
    refine JC.ret ?_
    refine JQ.thenR ?_
    refine JQ.end1 (H' := []) (.inl rfl) rfl (.tmp rfl) ?_ ?_
    · exact Sub.k
    · rfl
  · -- t22 False
    replace hc1 := of_decide_eq_false hc1
    refine JC.skip ?_
    refine JQ.thenN ?_
    refine JC.seq ?_
    refine JC.region ?_
    refine JL.mv ?_
    refine JL.callV rfl (.none rfl) rfl Tryd.call16 (fun w1 hw1 => sTotal_any oa cap ss w1 (hs.old hw1)) ?_
    refine JL.mv ?_
    refine JL.val rfl rfl rfl (.none rfl) (Ev.ex0 rfl) ?_
    refine JL.val rfl rfl rfl (.none rfl) (Ev.ex1 rfl) ?_
    refine JL.asg ?_
    refine JL.asg ?_
    refine JL.nil ?_
    refine JQ.thenN ?_
    refine JC.seq ?_
    refine JC.seq ?_
    refine JC.region ?_
    refine JL.mv ?_
    refine JL.val rfl rfl rfl (.none rfl) (Ev.bin rfl rfl neq_int) ?_
    refine JL.nil ?_
    refine JQ.thenN ?_
    refine JC.cond rfl (fun hc => ?_) (fun hc => ?_)
    · -- t30 True
      replace hc := of_decide_eq_true hc
      have hbad : ¬ okZ ss := fun h => by rw [mayE_ok h] at hc; omega
      refine JC.seq ?_
      refine JC.region ?_
      refine JL.mv ?_
      refine JL.callV rfl (.none rfl) rfl Tryd.call14 (fun w1 hw1 => sAt_any oa cap ss 0 (by decide) w1 (hs.old hw1)) ?_
      refine JL.mv ?_
      refine JL.val rfl rfl rfl (.none rfl) (Ev.ex0 rfl) ?_
      refine JL.val rfl rfl rfl (.none rfl) (Ev.ex1 rfl) ?_
      refine JL.new rfl rfl rfl (.none rfl) (En.allocZ (cs := (plc (0, 0)).toArray) Tryd.zeroValue27 rfl) (fun b5 hb5 => ?_)
      refine JL.sto rfl rfl (.none rfl) (Es.storeA rfl rfl Tryd.sizeOf27 Upd.k rfl rfl (plc_one _)) ?_
      refine JL.asg ?_
      refine JL.nil ?_
      refine JQ.thenN ?_
      refine JC.seq ?_
      refine JC.region ?_
      refine JL.mv ?_
      refine JL.val rfl rfl rfl (.none rfl) (Ev.build (parts := []) (vs := []) (cs := (plc (0, 0)).toArray) (fun _ _ => rfl) (fun _ => by kernel_rfl)) ?_
      refine JL.callV rfl (.none rfl) rfl Tryd.call15 (fun w1 hw1 => sNumber_any oa cap ss (0, 0) w1 (hs.old hw1)) ?_
      refine JL.mv ?_
      refine JL.val rfl rfl rfl (.none rfl) (Ev.ex0 rfl) ?_
      refine JL.val rfl rfl rfl (.none rfl) (Ev.ex1 rfl) ?_
      refine JL.asg ?_
      refine JL.asg ?_
      refine JL.nil ?_
      refine JQ.thenN ?_
      refine JC.seq ?_
      refine JC.region ?_
      refine JL.mv ?_
      refine JL.val rfl rfl rfl (.none rfl) (Ev.bin rfl rfl eql_int) ?_
      refine JL.mv ?_
      refine JL.know (d := 44) (b := true) rfl ?_ ?_
      · exact decide_eq_true (totV_bad hbad)
      refine JL.val rfl rfl rfl (.yes rfl rfl rfl) (Ev.move rfl) ?_
      refine JL.val rfl rfl rfl (.yes rfl rfl rfl) (Ev.move rfl) ?_
      refine JL.val rfl rfl rfl (.yes rfl rfl rfl) (Ev.bin rfl rfl eql_int) ?_
      refine JL.val rfl rfl rfl (.none rfl) (Ev.pickT rfl rfl) ?_
      refine JL.mv ?_
      refine JL.know (d := 49) (b := true) rfl ?_ ?_
      · exact decide_eq_true (atE_bad hbad)
      refine JL.val rfl rfl rfl (.yes rfl rfl rfl) (Ev.move rfl) ?_
      refine JL.val rfl rfl rfl (.yes rfl rfl rfl) (Ev.move rfl) ?_
      refine JL.val rfl rfl rfl (.yes rfl rfl rfl) (Ev.bin rfl rfl eql_int) ?_
      refine JL.val rfl rfl rfl (.none rfl) (Ev.pickT rfl rfl) ?_
      refine JL.mv ?_
      refine JL.know (d := 54) (b := true) rfl ?_ ?_
      · exact decide_eq_true (nuE_bad hbad)
      refine JL.callV rfl (.yes rfl rfl rfl) rfl Tryd.call4 (fun w1 hw1 => sExamples_any w1 (hk.old hw1) (hf.old hw1)) ?_
      refine JL.val rfl rfl rfl (.none rfl) (Ev.pickT rfl rfl) ?_
      refine JL.asg ?_
      refine JL.nil ?_
      refine JQ.thenN ?_
      refine JC.ret ?_
      refine JQ.thenR ?_
      refine JQ.end1 (H' := []) (.inl rfl) rfl (.tmp rfl) ?_ ?_
      · exact Sub.k
      · rfl
    · -- t30 False
      replace hc := of_decide_eq_false hc
      have hz : mayE ss = 0 := by omega
      have hok : okZ ss := mayE_zero hz
      have hal := allP_le hok
      have hall := allP_length hok
      have hln := hok.1
      refine JC.skip ?_
      refine JQ.thenN ?_
      refine JC.seq ?_
      refine JC.region ?_
      refine JL.re (d := 3) (v' := .int .i64 ((allP ss).length : Int)) rfl (congrArg (Value.int .i64) (by rw [totV_ok hok, hall])) ?_
      refine JL.val rfl rfl rfl (.none rfl) (Ev.build (parts := [(0, .const (.int .i64 (-1)))]) (vs := [(0, .int .i64 (-1))]) (cs := (plc (-1, 0)).toArray) (fun _ _ => rfl) (fun _ => by kernel_rfl)) ?_
      refine JL.new rfl rfl rfl (.none rfl) (En.allocZ (cs := (plc (0, 0)).toArray) Tryd.zeroValue27 rfl) (fun b9 hb9 => ?_)
      refine JL.sto rfl rfl (.none rfl) (Es.storeA rfl rfl Tryd.sizeOf27 Upd.k rfl rfl (plc_one _)) ?_
      refine JL.nil ?_
      refine JQ.thenN ?_
      refine JC.seq ?_
      refine JC.seq ?_
      refine JC.region ?_
      refine JL.asg ?_
      refine JL.nil ?_
      refine JQ.thenN ?_
      refine JC.block ?_
      refine JC.loop (X := Nat × Pl)
        (fun ⟨n, q⟩ => [(0, .slice oa ss.length cap), (3, .int .i64 ((allP ss).length : Int)), (9, .pointer (some ⟨b9, 0, none⟩)), (10, .int .i64 (n : Int))])
        (fun ⟨n, q⟩ => [(b9, Obj.cells (plc q).toArray 27 (0, 0))])
        (fun ⟨n, q⟩ => n ≤ (allP ss).length ∧ lastI ss n q)
        (fun ⟨n, q⟩ => (allP ss).length - n) (0, (-1, 0)) ?_ ?_ ?_ ?_
      · exact Keeps.k
      · exact Sub.k
      · exact ⟨Nat.zero_le _, .inl ⟨rfl, rfl⟩⟩
      rintro ⟨n, q⟩ ⟨hi, hl⟩
      refine JC.seq ?_
      refine JC.seq ?_
      refine JC.region ?_
      refine JL.mv ?_
      refine JL.mv ?_
      refine JL.val rfl rfl rfl (.none rfl) (Ev.bin rfl rfl lss_int) ?_
      refine JL.nil ?_
      refine JQ.thenN ?_
      refine JC.cond rfl (fun hc2 => ?_) (fun hc2 => ?_)
      · -- t60 True
        replace hc2 := of_decide_eq_true hc2
        have hnl : n < (allP ss).length := by omega
        obtain ⟨p, hp⟩ := get_some hnl
        have hso : atO ss (n : Int) = some p := by rw [atO_nat]; exact hp
        obtain ⟨hnv, hne, hip⟩ := nu_at hok hp
        obtain ⟨hi1, hi2, hi3, hi4⟩ := hip
        have hlo := last_lo hl hp
        have hstep := And.intro (last_eq hl hp) True.intro
        have hstep0 := last_gr hl hp
        have hnb : -9223372036854775808 ≤ (n : Int) ∧ (n : Int) ≤ 9223372036854775807 := by omega
        obtain ⟨a, rfl⟩ := hs.get_some (by omega)
        obtain ⟨x, hx⟩ := get_some (l := ss) (k := p.1.toNat) (by omega)
        rw [List.getD_eq_getElem?_getD, hx] at hi4
        have hi4 : p.2 < x := hi4
        have hxv := hok.2 x (List.mem_of_getElem? hx)
        refine JC.skip ?_
        refine JQ.thenN ?_
        refine JC.seq ?_
        refine JC.block ?_
        refine JC.seq ?_
        refine JC.region ?_
        refine JL.mv ?_
        refine JL.mv ?_
        refine JL.callV rfl (.none rfl) rfl Tryd.call14 (fun w1 hw1 => sAt_any _ cap ss (n : Int) hnb w1 (hs.old hw1)) ?_
        refine JL.re (d := 66) (v' := .tuple #[.agg (plc p).toArray, .int .i64 0]) rfl (by rw [atV_some hok hso, atE_some hok hso]) ?_
        refine JL.mv ?_
        refine JL.val rfl rfl rfl (.none rfl) (Ev.ex0 rfl) ?_
        refine JL.val rfl rfl rfl (.none rfl) (Ev.ex1 rfl) ?_
        refine JL.new rfl rfl rfl (.none rfl) (En.allocZ (cs := (plc (0, 0)).toArray) Tryd.zeroValue27 rfl) (fun b11 hb11 => ?_)
        refine JL.sto rfl rfl (.none rfl) (Es.storeA rfl rfl Tryd.sizeOf27 Upd.k rfl rfl (plc_one _)) ?_
        refine JL.asg ?_
        refine JL.nil ?_
        refine JQ.thenN ?_
        refine JC.seq ?_
        refine JC.region ?_
        refine JL.mv ?_
        refine JL.val rfl rfl rfl (.none rfl) (Ev.loadB rfl memK Tryd.underlying27 rfl Tryd.sizeOf27 rfl) ?_
        refine JL.callV rfl (.none rfl) rfl Tryd.call15 (fun w1 hw1 => sNumber_any _ cap ss p w1 (hs.old hw1)) ?_
        refine JL.re (d := 72) (v' := .tuple #[.int .i64 (n : Int), .int .i64 0]) rfl (by rw [hnv, hne]) ?_
        refine JL.mv ?_
        refine JL.val rfl rfl rfl (.none rfl) (Ev.ex0 rfl) ?_
        refine JL.val rfl rfl rfl (.none rfl) (Ev.ex1 rfl) ?_
        refine JL.asg ?_
        refine JL.asg ?_
        refine JL.nil ?_
        refine JQ.thenN ?_
        refine JC.seq ?_
        refine JC.seq ?_
        refine JC.regionQ (by kernel_rfl) (by kernel_rfl) ?_
        refine JW.val rfl rfl (.none rfl) (Ev.move rfl) ?_
        refine JW.val rfl rfl (.none rfl) (Ev.bin rfl rfl neq_int) ?_
        refine JW.val rfl rfl (.none rfl) (Ev.move rfl) ?_
        refine JW.know (d := 77) (b := false) rfl ?_ ?_
        · first | exact decide_eq_false (fun h => h rfl) | exact decide_eq_false (by omega) | (exfalso; omega)
        refine JW.val rfl rfl (.yes rfl rfl rfl) (Ev.move rfl) ?_
        refine JW.val rfl rfl (.yes rfl rfl rfl) (Ev.bin rfl rfl neq_int) ?_
        refine JW.val rfl rfl (.none rfl) (Ev.pickF rfl rfl) ?_
        refine JW.val rfl rfl (.none rfl) (Ev.move rfl) ?_
        refine JW.know (d := 81) (b := false) rfl ?_ ?_
        · first | exact decide_eq_false (fun h => h rfl) | exact decide_eq_false (by omega) | (exfalso; omega)
        refine JW.val rfl rfl (.yes rfl rfl rfl) (Ev.move rfl) ?_
        refine JW.val rfl rfl (.yes rfl rfl rfl) (Ev.move rfl) ?_
        refine JW.val rfl rfl (.yes rfl rfl rfl) (Ev.bin rfl rfl neq_int) ?_
        refine JW.val rfl rfl (.none rfl) (Ev.pickF rfl rfl) ?_
        refine JW.val rfl rfl (.none rfl) (Ev.move rfl) ?_
        refine JW.know (d := 86) (b := false) rfl ?_ ?_
        · first | exact decide_eq_false (fun h => h rfl) | exact decide_eq_false (by omega) | (exfalso; omega)
        refine JW.val rfl rfl (.yes rfl rfl rfl) (Ev.fld 0 rfl (fun _ _ => by kernel_rfl)) ?_
        refine JW.val rfl rfl (.yes rfl rfl rfl) (Ev.load1 rfl Tryd.underlying3 rfl (Rd.own memK rfl)) ?_
        refine JW.val rfl rfl (.yes rfl rfl rfl) (Ev.bin rfl rfl lss_int) ?_
        refine JW.val rfl rfl (.none rfl) (Ev.pickF rfl rfl) ?_
        refine JW.val rfl rfl (.none rfl) (Ev.move rfl) ?_
        refine JW.know (d := 91) (b := false) rfl ?_ ?_
        · first | exact decide_eq_false (fun h => h rfl) | exact decide_eq_false (by omega) | (exfalso; omega)
        refine JW.val rfl rfl (.yes rfl rfl rfl) (Ev.fld 0 rfl (fun _ _ => by kernel_rfl)) ?_
        refine JW.val rfl rfl (.yes rfl rfl rfl) (Ev.load1 rfl Tryd.underlying3 rfl (Rd.own memK rfl)) ?_
        refine JW.val rfl rfl (.yes rfl rfl rfl) (Ev.move rfl) ?_
        refine JW.val rfl rfl (.yes rfl rfl rfl) (Ev.lenS rfl Tryd.underlying28) ?_
        refine JW.val rfl rfl (.yes rfl rfl rfl) (Ev.bin rfl rfl geq_int) ?_
        refine JW.val rfl rfl (.none rfl) (Ev.pickF rfl rfl) ?_
        refine JW.val rfl rfl (.none rfl) (Ev.move rfl) ?_
        refine JW.know (d := 98) (b := false) rfl ?_ ?_
        · first | exact decide_eq_false (fun h => h rfl) | exact decide_eq_false (by omega) | (exfalso; omega)
        refine JW.val rfl rfl (.yes rfl rfl rfl) (Ev.fld 1 rfl (fun _ _ => by kernel_rfl)) ?_
        refine JW.val rfl rfl (.yes rfl rfl rfl) (Ev.load1 rfl Tryd.underlying3 rfl (Rd.own memK rfl)) ?_
        refine JW.val rfl rfl (.yes rfl rfl rfl) (Ev.bin rfl rfl lss_int) ?_
        refine JW.val rfl rfl (.none rfl) (Ev.pickF rfl rfl) ?_
        refine JW.val rfl rfl (.none rfl) (Ev.move rfl) ?_
        refine JW.know (d := 103) (b := false) rfl ?_ ?_
        · first | exact decide_eq_false (fun h => h rfl) | exact decide_eq_false (by omega) | (exfalso; omega)
        refine JW.val rfl rfl (.yes rfl rfl rfl) (Ev.fld 1 rfl (fun _ _ => by kernel_rfl)) ?_
        refine JW.val rfl rfl (.yes rfl rfl rfl) (Ev.load1 rfl Tryd.underlying3 rfl (Rd.own memK rfl)) ?_
        refine JW.val rfl rfl (.yes rfl rfl rfl) (Ev.move rfl) ?_
        refine JW.val rfl rfl (.yes rfl rfl rfl) (Ev.fld 0 rfl (fun _ _ => by kernel_rfl)) ?_
        refine JW.val rfl rfl (.yes rfl rfl rfl) (Ev.load1 rfl Tryd.underlying3 rfl (Rd.own memK rfl)) ?_
        refine JW.val rfl rfl (.yes rfl rfl rfl) (Ev.idxS1 rfl rfl Tryd.underlying28 Tryd.sizeOf3 (k := p.1.toNat) (by show p.1 = _; omega) (by omega)) ?_
        refine JW.val rfl rfl (.yes rfl rfl rfl) (Ev.load1 rfl Tryd.underlying3 rfl ((Rds.old (hs.mem _ rfl)).at (k := p.1.toNat) (ints_get hx))) ?_
        refine JW.val rfl rfl (.yes rfl rfl rfl) (Ev.bin rfl rfl geq_int) ?_
        refine JW.val rfl rfl (.none rfl) (Ev.pickF rfl rfl) ?_
        refine JW.val rfl rfl (.none rfl) (Ev.move rfl) ?_
        refine JW.know (d := 113) (b := false) rfl ?_ ?_
        · first | exact decide_eq_false (fun h => h rfl) | exact decide_eq_false (by omega) | (exfalso; omega)
        refine JW.val rfl rfl (.yes rfl rfl rfl) (Ev.fld 0 rfl (fun _ _ => by kernel_rfl)) ?_
        refine JW.val rfl rfl (.yes rfl rfl rfl) (Ev.load1 rfl Tryd.underlying3 rfl (Rd.own memK rfl)) ?_
        refine JW.val rfl rfl (.yes rfl rfl rfl) (Ev.fld 0 rfl (fun _ _ => by kernel_rfl)) ?_
        refine JW.val rfl rfl (.yes rfl rfl rfl) (Ev.load1 rfl Tryd.underlying3 rfl (Rd.own memK rfl)) ?_
        refine JW.val rfl rfl (.yes rfl rfl rfl) (Ev.bin rfl rfl lss_int) ?_
        refine JW.val rfl rfl (.none rfl) (Ev.pickF rfl rfl) ?_
        refine JW.val rfl rfl (.none rfl) (Ev.move rfl) ?_
        refine JW.know (d := 120) (b := false) rfl ?_ ?_
        · first | exact decide_eq_false (fun h => h rfl) | exact decide_eq_false (by omega) | (exfalso; omega)
        refine JW.val rfl rfl (.yes rfl rfl rfl) (Ev.fld 0 rfl (fun _ _ => by kernel_rfl)) ?_
        refine JW.val rfl rfl (.yes rfl rfl rfl) (Ev.load1 rfl Tryd.underlying3 rfl (Rd.own memK rfl)) ?_
        refine JW.val rfl rfl (.yes rfl rfl rfl) (Ev.fld 0 rfl (fun _ _ => by kernel_rfl)) ?_
        refine JW.val rfl rfl (.yes rfl rfl rfl) (Ev.load1 rfl Tryd.underlying3 rfl (Rd.own memK rfl)) ?_
        refine JW.val rfl rfl (.yes rfl rfl rfl) (Ev.bin rfl rfl eql_int) ?_
        refine JW.val rfl rfl (.yes rfl rfl rfl) (Ev.move rfl) ?_
        refine JW.split (d := 126) rfl (fun hA => ?_) (fun hA => ?_)
        · -- guard 126 true
          have hA := of_decide_eq_true hA
          have hstep := hstep.1 hA
          refine JW.val rfl rfl (.yes rfl rfl rfl) (Ev.fld 1 rfl (fun _ _ => by kernel_rfl)) ?_
          refine JW.val rfl rfl (.yes rfl rfl rfl) (Ev.load1 rfl Tryd.underlying3 rfl (Rd.own memK rfl)) ?_
          refine JW.val rfl rfl (.yes rfl rfl rfl) (Ev.fld 1 rfl (fun _ _ => by kernel_rfl)) ?_
          refine JW.val rfl rfl (.yes rfl rfl rfl) (Ev.load1 rfl Tryd.underlying3 rfl (Rd.own memK rfl)) ?_
          refine JW.val rfl rfl (.yes rfl rfl rfl) (Ev.bin rfl rfl (add_i64 (by omega))) ?_
          refine JW.val rfl rfl (.yes rfl rfl rfl) (Ev.bin rfl rfl neq_int) ?_
          refine JW.val rfl rfl (.yes rfl rfl rfl) (Ev.pickT rfl rfl) ?_
          refine JW.val rfl rfl (.none rfl) (Ev.pickF rfl rfl) ?_
          refine JW.val rfl rfl (.none rfl) (Ev.move rfl) ?_
          refine JW.know (d := 135) (b := false) rfl ?_ ?_
          · first | exact decide_eq_false (fun h => h rfl) | exact decide_eq_false (by omega) | (exfalso; omega)
          refine JW.val rfl rfl (.yes rfl rfl rfl) (Ev.fld 0 rfl (fun _ _ => by kernel_rfl)) ?_
          refine JW.val rfl rfl (.yes rfl rfl rfl) (Ev.load1 rfl Tryd.underlying3 rfl (Rd.own memK rfl)) ?_
          refine JW.val rfl rfl (.yes rfl rfl rfl) (Ev.fld 0 rfl (fun _ _ => by kernel_rfl)) ?_
          refine JW.val rfl rfl (.yes rfl rfl rfl) (Ev.load1 rfl Tryd.underlying3 rfl (Rd.own memK rfl)) ?_
          refine JW.val rfl rfl (.yes rfl rfl rfl) (Ev.bin rfl rfl gtr_int) ?_
          refine JW.val rfl rfl (.yes rfl rfl rfl) (Ev.move rfl) ?_
          refine JW.split (d := 141) rfl (fun hB => ?_) (fun hB => ?_)
          · -- guard 141 true
            have hB := of_decide_eq_true hB
            have hgr := hstep0 hB
            refine JW.val rfl rfl (.yes rfl rfl rfl) (Ev.fld 1 rfl (fun _ _ => by kernel_rfl)) ?_
            refine JW.val rfl rfl (.yes rfl rfl rfl) (Ev.load1 rfl Tryd.underlying3 rfl (Rd.own memK rfl)) ?_
            refine JW.val rfl rfl (.yes rfl rfl rfl) (Ev.bin rfl rfl neq_int) ?_
            refine JW.val rfl rfl (.yes rfl rfl rfl) (Ev.pickT rfl rfl) ?_
            refine JW.val rfl rfl (.none rfl) (Ev.pickF rfl rfl) ?_
            refine JW.nilQ ?_
            refine JQ.thenN ?_
            refine JC.knowF rfl ?_ ?_
            · first | exact decide_eq_false (fun h => h rfl) | exact decide_eq_false (by omega) | (exfalso; omega)
            refine JC.skip ?_
            refine JQ.thenN ?_
            refine JC.region ?_
            refine JL.val rfl rfl rfl (.none rfl) (Ev.loadB rfl memK Tryd.underlying27 rfl Tryd.sizeOf27 rfl) ?_
            refine JL.sto rfl rfl (.none rfl) (Es.storeA rfl rfl Tryd.sizeOf27 Upd.k rfl rfl (plc_one _)) ?_
            refine JL.nil ?_
            refine JQ.blockN ?_
            refine JQ.thenN ?_
            refine JC.region ?_
            refine JL.mv ?_
            refine JL.val rfl rfl rfl (.none rfl) (Ev.bin rfl rfl (add_i64 (by omega))) ?_
            refine JL.asg ?_
            refine JL.nil ?_
            refine JQ.loopN (n + 1, p) ?_ ?_ ?_ ?_
            · exact Keeps.k
            · exact Sub.k
            · exact ⟨by omega, .inr ⟨Nat.succ_pos _, hp⟩⟩
            · show (allP ss).length - (n + 1) < (allP ss).length - n; omega
          · -- guard 141 false
            have hB := of_decide_eq_false hB
            refine JW.skip rfl rfl (.noT rfl rfl rfl) ?_
            refine JW.skip rfl rfl (.noT rfl rfl rfl) ?_
            refine JW.skip rfl rfl (.noT rfl rfl rfl) ?_
            refine JW.val rfl rfl (.yes rfl rfl rfl) (Ev.pickF rfl rfl) ?_
            refine JW.val rfl rfl (.none rfl) (Ev.pickF rfl rfl) ?_
            refine JW.nilQ ?_
            refine JQ.thenN ?_
            refine JC.condF rfl ?_
            refine JC.skip ?_
            refine JQ.thenN ?_
            refine JC.region ?_
            refine JL.val rfl rfl rfl (.none rfl) (Ev.loadB rfl memK Tryd.underlying27 rfl Tryd.sizeOf27 rfl) ?_
            refine JL.sto rfl rfl (.none rfl) (Es.storeA rfl rfl Tryd.sizeOf27 Upd.k rfl rfl (plc_one _)) ?_
            refine JL.nil ?_
            refine JQ.blockN ?_
            refine JQ.thenN ?_
            refine JC.region ?_
            refine JL.mv ?_
            refine JL.val rfl rfl rfl (.none rfl) (Ev.bin rfl rfl (add_i64 (by omega))) ?_
            refine JL.asg ?_
            refine JL.nil ?_
            refine JQ.loopN (n + 1, p) ?_ ?_ ?_ ?_
            · exact Keeps.k
            · exact Sub.k
            · exact ⟨by omega, .inr ⟨Nat.succ_pos _, hp⟩⟩
            · show (allP ss).length - (n + 1) < (allP ss).length - n; omega
        · -- guard 126 false
          have hA := of_decide_eq_false hA
          refine JW.skip rfl rfl (.noT rfl rfl rfl) ?_
          refine JW.skip rfl rfl (.noT rfl rfl rfl) ?_
          refine JW.skip rfl rfl (.noT rfl rfl rfl) ?_
          refine JW.skip rfl rfl (.noT rfl rfl rfl) ?_
          refine JW.skip rfl rfl (.noT rfl rfl rfl) ?_
          refine JW.skip rfl rfl (.noT rfl rfl rfl) ?_
          refine JW.val rfl rfl (.yes rfl rfl rfl) (Ev.pickF rfl rfl) ?_
          refine JW.val rfl rfl (.none rfl) (Ev.pickF rfl rfl) ?_
          refine JW.val rfl rfl (.none rfl) (Ev.move rfl) ?_
          refine JW.val rfl rfl (.yes rfl rfl rfl) (Ev.fld 0 rfl (fun _ _ => by kernel_rfl)) ?_
          refine JW.val rfl rfl (.yes rfl rfl rfl) (Ev.load1 rfl Tryd.underlying3 rfl (Rd.own memK rfl)) ?_
          refine JW.val rfl rfl (.yes rfl rfl rfl) (Ev.fld 0 rfl (fun _ _ => by kernel_rfl)) ?_
          refine JW.val rfl rfl (.yes rfl rfl rfl) (Ev.load1 rfl Tryd.underlying3 rfl (Rd.own memK rfl)) ?_
          refine JW.val rfl rfl (.yes rfl rfl rfl) (Ev.bin rfl rfl gtr_int) ?_
          refine JW.val rfl rfl (.yes rfl rfl rfl) (Ev.move rfl) ?_
          refine JW.split (d := 141) rfl (fun hB => ?_) (fun hB => ?_)
          · -- guard 141 true
            have hB := of_decide_eq_true hB
            have hgr := hstep0 hB
            refine JW.val rfl rfl (.yes rfl rfl rfl) (Ev.fld 1 rfl (fun _ _ => by kernel_rfl)) ?_
            refine JW.val rfl rfl (.yes rfl rfl rfl) (Ev.load1 rfl Tryd.underlying3 rfl (Rd.own memK rfl)) ?_
            refine JW.val rfl rfl (.yes rfl rfl rfl) (Ev.bin rfl rfl neq_int) ?_
            refine JW.val rfl rfl (.yes rfl rfl rfl) (Ev.pickT rfl rfl) ?_
            refine JW.val rfl rfl (.none rfl) (Ev.pickF rfl rfl) ?_
            refine JW.nilQ ?_
            refine JQ.thenN ?_
            refine JC.knowF rfl ?_ ?_
            · first | exact decide_eq_false (fun h => h rfl) | exact decide_eq_false (by omega) | (exfalso; omega)
            refine JC.skip ?_
            refine JQ.thenN ?_
            refine JC.region ?_
            refine JL.val rfl rfl rfl (.none rfl) (Ev.loadB rfl memK Tryd.underlying27 rfl Tryd.sizeOf27 rfl) ?_
            refine JL.sto rfl rfl (.none rfl) (Es.storeA rfl rfl Tryd.sizeOf27 Upd.k rfl rfl (plc_one _)) ?_
            refine JL.nil ?_
            refine JQ.blockN ?_
            refine JQ.thenN ?_
            refine JC.region ?_
            refine JL.mv ?_
            refine JL.val rfl rfl rfl (.none rfl) (Ev.bin rfl rfl (add_i64 (by omega))) ?_
            refine JL.asg ?_
            refine JL.nil ?_
            refine JQ.loopN (n + 1, p) ?_ ?_ ?_ ?_
            · exact Keeps.k
            · exact Sub.k
            · exact ⟨by omega, .inr ⟨Nat.succ_pos _, hp⟩⟩
            · show (allP ss).length - (n + 1) < (allP ss).length - n; omega
          · -- guard 141 false
            have hB := of_decide_eq_false hB
            refine JW.skip rfl rfl (.noT rfl rfl rfl) ?_
            refine JW.skip rfl rfl (.noT rfl rfl rfl) ?_
            refine JW.skip rfl rfl (.noT rfl rfl rfl) ?_
            refine JW.val rfl rfl (.yes rfl rfl rfl) (Ev.pickF rfl rfl) ?_
            refine JW.val rfl rfl (.none rfl) (Ev.pickF rfl rfl) ?_
            refine JW.nilQ ?_
            refine JQ.thenN ?_
            refine JC.condF rfl ?_
            refine JC.skip ?_
            refine JQ.thenN ?_
            refine JC.region ?_
            refine JL.val rfl rfl rfl (.none rfl) (Ev.loadB rfl memK Tryd.underlying27 rfl Tryd.sizeOf27 rfl) ?_
            refine JL.sto rfl rfl (.none rfl) (Es.storeA rfl rfl Tryd.sizeOf27 Upd.k rfl rfl (plc_one _)) ?_
            refine JL.nil ?_
            refine JQ.blockN ?_
            refine JQ.thenN ?_
            refine JC.region ?_
            refine JL.mv ?_
            refine JL.val rfl rfl rfl (.none rfl) (Ev.bin rfl rfl (add_i64 (by omega))) ?_
            refine JL.asg ?_
            refine JL.nil ?_
            refine JQ.loopN (n + 1, p) ?_ ?_ ?_ ?_
            · exact Keeps.k
            · exact Sub.k
            · exact ⟨by omega, .inr ⟨Nat.succ_pos _, hp⟩⟩
            · show (allP ss).length - (n + 1) < (allP ss).length - n; omega
      · -- t60 False
        replace hc2 := of_decide_eq_false hc2
        obtain rfl : n = (allP ss).length := by omega
        have htb : -9223372036854775808 ≤ ((allP ss).length : Int) ∧ ((allP ss).length : Int) ≤ 9223372036854775807 := by omega
        have hng : atO ss ((allP ss).length : Int) = none := atO_gr hok (by omega)
        have hnn : atO ss (-1) = none := atO_neg (by decide)
        refine JC.exit ?_
        refine JQ.thenE ?_
        refine JQ.thenE ?_
        refine JQ.blockE ?_
        refine JQ.thenN ?_
        refine JC.seq ?_
        refine JC.region ?_
        refine JL.mv ?_
        refine JL.mv ?_
        refine JL.callV rfl (.none rfl) rfl Tryd.call14 (fun w1 hw1 => sAt_any oa cap ss ((allP ss).length : Int) htb w1 (hs.old hw1)) ?_
        refine JL.re (d := 151) (v' := .tuple #[.agg (plc (0, 0)).toArray, .int .i64 6]) rfl (by rw [atV_none hok hng, atE_none hok hng]) ?_
        refine JL.mv ?_
        refine JL.val rfl rfl rfl (.none rfl) (Ev.ex0 rfl) ?_
        refine JL.val rfl rfl rfl (.none rfl) (Ev.ex1 rfl) ?_
        refine JL.new rfl rfl rfl (.none rfl) (En.allocZ (cs := (plc (0, 0)).toArray) Tryd.zeroValue27 rfl) (fun b15 hb15 => ?_)
        refine JL.sto rfl rfl (.none rfl) (Es.storeA rfl rfl Tryd.sizeOf27 Upd.k rfl rfl (plc_one _)) ?_
        refine JL.asg ?_
        refine JL.nil ?_
        refine JQ.thenN ?_
        refine JC.seq ?_
        refine JC.region ?_
        refine JL.mv ?_
        refine JL.callV rfl (.none rfl) rfl Tryd.call14 (fun w1 hw1 => sAt_any oa cap ss (-1) (by decide) w1 (hs.old hw1)) ?_
        refine JL.re (d := 156) (v' := .tuple #[.agg (plc (0, 0)).toArray, .int .i64 6]) rfl (by rw [atV_none hok hnn, atE_none hok hnn]) ?_
        refine JL.mv ?_
        refine JL.val rfl rfl rfl (.none rfl) (Ev.ex0 rfl) ?_
        refine JL.val rfl rfl rfl (.none rfl) (Ev.ex1 rfl) ?_
        refine JL.new rfl rfl rfl (.none rfl) (En.allocZ (cs := (plc (0, 0)).toArray) Tryd.zeroValue27 rfl) (fun b17 hb17 => ?_)
        refine JL.sto rfl rfl (.none rfl) (Es.storeA rfl rfl Tryd.sizeOf27 Upd.k rfl rfl (plc_one _)) ?_
        refine JL.asg ?_
        refine JL.nil ?_
        refine JQ.thenN ?_
        refine JC.seq ?_
        refine JC.region ?_
        refine JL.asg ?_
        refine JL.nil ?_
        refine JQ.thenN ?_
        refine JC.seq ?_
        refine JC.seq ?_
        refine JC.region ?_
        refine JL.asg ?_
        refine JL.nil ?_
        refine JQ.thenN ?_
        refine JC.block ?_
        refine JC.loop (X := Nat)
          (fun i => [(0, .slice oa ss.length cap), (3, .int .i64 ((allP ss).length : Int)), (16, .int .i64 6), (18, .int .i64 6), (19, .int .i64 (sumZ (ss.take i))), (20, .int .i64 (i : Int))])
          (fun i => [])
          (fun i => i ≤ ss.length)
          (fun i => ss.length - i) 0 ?_ ?_ ?_ ?_
        · exact Keeps.k
        · exact Sub.nil
        · exact Nat.zero_le _
        rintro i hi
        refine JC.seq ?_
        refine JC.seq ?_
        refine JC.region ?_
        refine JL.mv ?_
        refine JL.mv ?_
        refine JL.val rfl rfl rfl (.none rfl) (Ev.lenS rfl Tryd.underlying28) ?_
        refine JL.val rfl rfl rfl (.none rfl) (Ev.bin rfl rfl lss_int) ?_
        refine JL.nil ?_
        refine JQ.thenN ?_
        refine JC.cond rfl (fun hc3 => ?_) (fun hc3 => ?_)
        · -- t162 True
          replace hc3 := of_decide_eq_true hc3
          obtain ⟨a, rfl⟩ := hs.get_some (by omega)
          obtain ⟨x, hx⟩ := get_some (l := ss) (k := i) (by omega)
          have hxv := hok.2 x (List.mem_of_getElem? hx)
          have hst := sumZ_take hx
          have hsi := okZ_sum (okZ_take hok i)
          refine JC.skip ?_
          refine JQ.thenN ?_
          refine JC.seq ?_
          refine JC.block ?_
          refine JC.region ?_
          refine JL.mv ?_
          refine JL.mv ?_
          refine JL.mv ?_
          refine JL.val rfl rfl rfl (.none rfl) (Ev.idxS1 rfl rfl Tryd.underlying28 Tryd.sizeOf3 (k := i) rfl (by omega)) ?_
          refine JL.val rfl rfl rfl (.none rfl) (Ev.load1 rfl Tryd.underlying3 rfl ((Rds.old (hs.mem _ rfl)).at (k := i) (ints_get hx))) ?_
          refine JL.val rfl rfl rfl (.none rfl) (Ev.cast (v' := .int .i64 (sumZ (ss.take (i + 1)))) (by rw [hst]) (Ev.bin rfl rfl (add_i64 (by omega)))) ?_
          refine JL.asg ?_
          refine JL.nil ?_
          refine JQ.blockN ?_
          refine JQ.thenN ?_
          refine JC.region ?_
          refine JL.mv ?_
          refine JL.val rfl rfl rfl (.none rfl) (Ev.bin rfl rfl (add_i64 (by omega))) ?_
          refine JL.asg ?_
          refine JL.nil ?_
          refine JQ.loopN (i + 1) ?_ ?_ ?_ ?_
          · exact Keeps.k
          · exact Sub.nil
          · omega
          · show ss.length - (i + 1) < ss.length - i; omega
        · -- t162 False
          replace hc3 := of_decide_eq_false hc3
          obtain rfl : i = ss.length := by omega
          have hsum : sumZ (ss.take ss.length) = ((allP ss).length : Int) := by rw [List.take_length]; omega
          refine JC.exit ?_
          refine JQ.thenE ?_
          refine JQ.thenE ?_
          refine JQ.blockE ?_
          refine JQ.thenN ?_
          refine JC.seq ?_
          refine JC.region ?_
          refine JL.mv ?_
          refine JL.val rfl rfl rfl (.none rfl) (Ev.bin rfl rfl eql_int) ?_
          refine JL.mv ?_
          refine JL.know (d := 173) (b := true) rfl ?_ ?_
          · exact decide_eq_true rfl
          refine JL.val rfl rfl rfl (.yes rfl rfl rfl) (Ev.move rfl) ?_
          refine JL.val rfl rfl rfl (.yes rfl rfl rfl) (Ev.bin rfl rfl eql_int) ?_
          refine JL.val rfl rfl rfl (.none rfl) (Ev.pickT rfl rfl) ?_
          refine JL.mv ?_
          refine JL.know (d := 177) (b := true) rfl ?_ ?_
          · exact decide_eq_true rfl
          refine JL.val rfl rfl rfl (.yes rfl rfl rfl) (Ev.move rfl) ?_
          refine JL.val rfl rfl rfl (.yes rfl rfl rfl) (Ev.move rfl) ?_
          refine JL.val rfl rfl rfl (.yes rfl rfl rfl) (Ev.bin rfl rfl eql_int) ?_
          refine JL.val rfl rfl rfl (.none rfl) (Ev.pickT rfl rfl) ?_
          refine JL.mv ?_
          refine JL.know (d := 182) (b := true) rfl ?_ ?_
          · exact decide_eq_true hsum
          refine JL.callV rfl (.yes rfl rfl rfl) rfl Tryd.call4 (fun w1 hw1 => sExamples_any w1 (hk.old hw1) (hf.old hw1)) ?_
          refine JL.val rfl rfl rfl (.none rfl) (Ev.pickT rfl rfl) ?_
          refine JL.asg ?_
          refine JL.nil ?_
          refine JQ.thenN ?_
          refine JC.ret ?_
          refine JQ.end1 (H' := []) (.inl rfl) rfl (.tmp rfl) ?_ ?_
          · exact Sub.k
          · rfl

end Go.Proofs.YtjjoenbighmfoaaDoor
