/-
  Places drawn, in the program and in the reference.
-/
import Derived.Test.YtjjoenbighmfoaaDoorSmp2Uq
namespace Go.Proofs.YtjjoenbighmfoaaDoor
open Go Go.RowKit
set_option maxRecDepth 100000

theorem drawnV_below {s : List UInt8} {i : UInt32} {m : UInt64} (h : (drawn s i m).isSome) (hm : 1 ≤ m.toNat) : (drawnV s i m).toNat < m.toNat := by
  unfold drawnV
  unfold drawn at h ⊢
  cases hf : ((List.range 16).map (tryD s i)).find? (fun x => decide (small m x)) with
  | none => rw [hf] at h; simp at h
  | some x =>
    simp only [Option.map_some, Option.getD_some, UInt64.toNat_mod]
    exact Nat.mod_lt _ (by omega)
/-- The number of ballots, as the draw takes it. -/
def NZ (ss : List Int) : UInt64 := UInt64.ofNat (allP ss).length
theorem NZ_nat {ss : List Int} (h : okZ ss) : (NZ ss).toNat = (allP ss).length := by
  have := allP_le h
  rw [NZ, UInt64.toNat_ofNat']
  exact Nat.mod_eq_of_lt (by omega)
def pickP (ss : List Int) (n : UInt64) : Pl := (allP ss).getD n.toNat (0, 0)
noncomputable def posV (s : List UInt8) (f : UInt32) (many : Int) (ss : List Int) : List Pl := if okZ ss ∧ allP ss ≠ [] then (sampL s f many (NZ ss)).map (pickP ss) else []
noncomputable def posE (s : List UInt8) (f : UInt32) (many : Int) (ss : List Int) : Int := if ¬ okZ ss then mayE ss else if allP ss = [] then 6 else sampE s f many (NZ ss)
section
variable {s : List UInt8} {f : UInt32} {many : Int} {ss : List Int} {m : UInt64}
theorem posV_bad (h : ¬ okZ ss) : posV s f many ss = [] := if_neg (fun h1 => h h1.1)
theorem posE_bad (h : ¬ okZ ss) : posE s f many ss = mayE ss := if_pos h
theorem posV_nil (h : allP ss = []) : posV s f many ss = [] := if_neg (fun h1 => h1.2 h)
theorem posE_nil (h : okZ ss) (h1 : allP ss = []) : posE s f many ss = 6 := (if_neg (fun h2 => h2 h)).trans (if_pos h1)
theorem posV_ok (h : okZ ss) (h1 : allP ss ≠ []) : posV s f many ss = (sampL s f many (NZ ss)).map (pickP ss) := if_pos ⟨h, h1⟩
theorem posE_ok (h : okZ ss) (h1 : allP ss ≠ []) : posE s f many ss = sampE s f many (NZ ss) := (if_neg (fun h2 => h2 h)).trans (if_neg h1)
theorem sampL_err (h : sampE s f many m ≠ 0) : sampL s f many m = [] := by
  unfold sampE at h
  unfold sampL
  split
  · rfl
  · rename_i h1
    rw [if_neg h1] at h
    split
    · rfl
    · rename_i h2
      rw [if_neg h2] at h
      split
      · rename_i h3
        rw [if_pos h3] at h
        exact absurd rfl h
      · rfl
theorem sampE_okay (h : sampE s f many m = 0) : ∃ n : Nat, many = (n : Int) ∧ ¬ badS f (n : Int) m ∧ n ≤ 4096 ∧ allD s f m n ∧ sampL s f many m = draws s f m n := by
  unfold sampE at h
  split at h
  · cases h
  · rename_i h1
    split at h
    · cases h
    · rename_i h2
      split at h
      · rename_i h3
        have h0 : 0 ≤ many := by unfold badS at h1; omega
        obtain ⟨n, rfl⟩ : ∃ n : Nat, many = (n : Int) := ⟨many.toNat, by omega⟩
        rw [Int.toNat_natCast] at h3
        exact ⟨n, rfl, h1, by omega, h3, sampL_all h1 (by omega) h3⟩
      · cases h
theorem sampL_lt (h : sampE s f many m = 0) : ∀ x ∈ sampL s f many m, x.toNat < m.toNat := fun x hx => by
  obtain ⟨n, _, h1, _, h3, h4⟩ := sampE_okay h
  rw [h4, draws] at hx
  obtain ⟨k, hk, rfl⟩ := List.mem_map.1 hx
  obtain ⟨hm, _, _⟩ := okS h1
  exact drawnV_below (h3 k (List.mem_range.1 hk)) hm
theorem pick_next {i : Nat} {x : UInt64} {q : Pl} {l : List UInt64} (hx : l[i]? = some x) (hq : (allP ss)[x.toNat]? = some q) : (l.take i).map (pickP ss) ++ [q] = (l.take (i + 1)).map (pickP ss) := by
  rw [List.take_add_one, hx, List.map_append]
  congr 1
  show [q] = [pickP ss x]
  rw [pickP, List.getD_eq_getElem?_getD, hq]
  rfl
end

theorem sPositions_any (s : List UInt8) (hsd : s.length = 32) (f : UInt32) (many : Int) (hmn : -9223372036854775808 ≤ many ∧ many ≤ 9223372036854775807) (oa : Option Addr) (cap : Nat) (ss : List Int) (w : World) (hs : Cs w oa ss.length cap (ints ss)) (hk : KMem 1 w) (hf : FMem 0 w) :
    Calls Tryd.prog 17 #[.agg (arr8 s), u32 f, .int .i64 many, .slice oa ss.length cap] w (Ret w (fun v H => ∃ r : Option Row, v = .tuple #[Row.v (posV s f many ss).length r, .int .i64 (posE s f many ss)] ∧ H = Row.b 27 r ∧ Row.ok 2 (posV s f many ss).length (pf (posV s f many ss)) r)) := by
  refine enter (vs := [.agg (arr8 s), u32 f, .int .i64 many, .slice oa ss.length cap]) Tryd.func17 rfl Tryd.ntmps17 rfl ?_
  refine JC.seq ?_
  refine JC.region ?_
  refine JL.new rfl rfl rfl (.none rfl) (En.boxA rfl) (fun b4 hb4 => ?_)
  refine JL.asg ?_
  refine JL.asg ?_
  refine JL.nil ?_
  refine JQ.thenN ?_
  refine JC.seq ?_
  refine JC.region ?_
  refine JL.mv ?_
  refine JL.callV rfl (.none rfl) rfl Tryd.call16 (fun w1 hw1 => sTotal_any oa cap ss w1 (hs.old hw1)) ?_
  refine JL.mv ?_
  refine JL.val rfl rfl rfl (.none rfl) (Ev.ex0 rfl) ?_
  refine JL.val rfl rfl rfl (.none rfl) (Ev.ex1 rfl) ?_
  refine JL.asg ?_
  refine JL.asg ?_
  refine JL.nil ?_
  refine JQ.thenN ?_
  refine JC.seq ?_
  refine JC.block ?_
  refine JC.seq ?_
  refine JC.region ?_
  refine JL.mv ?_
  refine JL.val rfl rfl rfl (.none rfl) (Ev.bin rfl rfl neq_int) ?_
  refine JL.asg ?_
  refine JL.nil ?_
  refine JQ.thenN ?_
  refine JC.cond rfl (fun hc => ?_) (fun hc => ?_)
  · -- t21 True
    replace hc := of_decide_eq_true hc
    have hbad : ¬ okZ ss := fun h => by rw [mayE_ok h] at hc; omega
    refine JC.seq ?_
    refine JC.region ?_
    refine JL.mv ?_
    refine JL.asg ?_
    refine JL.asg ?_
    refine JL.nil ?_
    refine JQ.thenN ?_
    refine JC.ret ?_
    refine JQ.blockR ?_
    refine JQ.thenR ?_
    refine JQ.end2 (H' := []) (.inl rfl) rfl (.tmp rfl) (.tmp rfl) ?_ ?_
    · first | exact Sub.all | exact Sub.nil | exact Sub.of_cnt (fun a => by (try dsimp only); simp only [cntA]; omega)
    · exact ⟨none, by rw [posV_bad hbad, posE_bad hbad]; rfl, rfl, by rw [posV_bad hbad]; exact Row.ok0⟩
  · -- t21 False
    replace hc := of_decide_eq_false hc
    have hz : mayE ss = 0 := by omega
    have hok : okZ ss := mayE_zero hz
    have hal := allP_le hok
    have hall := allP_length hok
    refine JC.seq ?_
    refine JC.region ?_
    refine JL.mv ?_
    refine JL.val rfl rfl rfl (.none rfl) (Ev.bin rfl rfl eql_int) ?_
    refine JL.asg ?_
    refine JL.nil ?_
    refine JQ.thenN ?_
    refine JC.cond rfl (fun h0 => ?_) (fun h0 => ?_)
    · -- t25 True
      replace h0 := of_decide_eq_true h0
      rw [totV_ok hok] at h0
      have hnil : allP ss = [] := List.eq_nil_of_length_eq_zero (by omega)
      refine JC.seq ?_
      refine JC.region ?_
      refine JL.asg ?_
      refine JL.asg ?_
      refine JL.nil ?_
      refine JQ.thenN ?_
      refine JC.ret ?_
      refine JQ.blockR ?_
      refine JQ.thenR ?_
      refine JQ.end2 (H' := []) (.inl rfl) rfl (.tmp rfl) (.tmp rfl) ?_ ?_
      · first | exact Sub.all | exact Sub.nil | exact Sub.of_cnt (fun a => by (try dsimp only); simp only [cntA]; omega)
      · exact ⟨none, by rw [posV_nil hnil, posE_nil hok hnil]; rfl, rfl, by rw [posV_nil hnil]; exact Row.ok0⟩
    · -- t25 False
      replace h0 := of_decide_eq_false h0
      rw [totV_ok hok] at h0
      have hne : allP ss ≠ [] := fun h => by rw [h] at hall; simp at hall; omega
      refine JC.skip ?_
      refine JQ.blockN ?_
      refine JQ.thenN ?_
      refine JC.seq ?_
      refine JC.region ?_
      refine JL.val rfl rfl rfl (.none rfl) (Ev.loadB rfl memK Tryd.underlying40 rfl Tryd.sizeOf40 (by rw [arr8_size, hsd])) ?_
      refine JL.mv ?_
      refine JL.mv ?_
      refine JL.mv ?_
      refine JL.re (d := 32) (v' := .int .i64 (((allP ss).length : Nat) : Int)) rfl (congrArg (Value.int .i64) (by rw [totV_ok hok, hall])) ?_
      refine JL.val rfl rfl rfl (.none rfl) (Ev.conv rfl (conv_i64_u64 Tryd.underlying3 Tryd.underlying51 (by omega))) ?_
      refine JL.callN rfl (.none rfl) rfl Tryd.call27 (fun w1 hw1 => Sample_any s hsd f many hmn (NZ ss) w1 (hk.old hw1) (hf.old hw1)) ?_
      rintro _ _ ⟨r1, rfl, rfl, hr1⟩
      refine JL.mv ?_
      refine JL.val rfl rfl rfl (.none rfl) (Ev.ex0 rfl) ?_
      refine JL.val rfl rfl rfl (.none rfl) (Ev.ex1 rfl) ?_
      refine JL.asg ?_
      refine JL.asg ?_
      refine JL.nil ?_
      refine JQ.thenN ?_
      refine JC.seq ?_
      refine JC.seq ?_
      refine JC.region ?_
      refine JL.mv ?_
      refine JL.val rfl rfl rfl (.none rfl) (Ev.bin rfl rfl neq_int) ?_
      refine JL.nil ?_
      refine JQ.thenN ?_
      refine JC.cond rfl (fun he => ?_) (fun he => ?_)
      · -- t38 True
        replace he := of_decide_eq_true he
        have hse : (sampE s f many (NZ ss)) ≠ 0 := by omega
        have hln : (sampL s f many (NZ ss)) = [] := sampL_err hse
        refine JC.seq ?_
        refine JC.region ?_
        refine JL.mv ?_
        refine JL.asg ?_
        refine JL.asg ?_
        refine JL.nil ?_
        refine JQ.thenN ?_
        refine JC.ret ?_
        refine JQ.thenR ?_
        refine JQ.end2 (H' := []) (.inl rfl) rfl (.tmp rfl) (.tmp rfl) ?_ ?_
        · first | exact Sub.all | exact Sub.nil | exact Sub.of_cnt (fun a => by (try dsimp only); simp only [cntA]; omega)
        · exact ⟨none, by rw [posV_ok hok hne, posE_ok hok hne, hln]; rfl, rfl, by rw [posV_ok hok hne, hln]; exact Row.ok0⟩
      · -- t38 False
        replace he := of_decide_eq_false he
        have hs0 : (sampE s f many (NZ ss)) = 0 := by omega
        have hlt := sampL_lt hs0
        have hsl := sampL_le s f many (NZ ss)
        have hnz := NZ_nat hok
        refine JC.skip ?_
        refine JQ.thenN ?_
        refine JC.seq ?_
        refine JC.seq ?_
        refine JC.region ?_
        obtain ⟨o1, c1, e1, hn1, hC1⟩ := Row.vw (e := 51) hr1
        refine JL.re (d := 11) rfl e1 ?_
        refine JL.mv ?_
        refine JL.val rfl rfl rfl (.none rfl) (Ev.lenS rfl Tryd.underlying48) ?_
        refine JL.mv ?_
        refine JL.nil ?_
        refine JQ.thenN ?_
        refine JC.block ?_
        refine JC.loop (X := Nat × List Pl × Option Row)
          (fun ⟨i, out, r⟩ => [(3, .slice oa ss.length cap), (8, Row.v out.length r), (40, .slice o1 (sampL s f many (NZ ss)).length c1), (41, .int .i64 ((sampL s f many (NZ ss)).length : Int)), (42, .int .i64 (i : Int))])
          (fun ⟨i, out, r⟩ => Row.b 51 r1 ++ Row.b 27 r)
          (fun ⟨i, out, r⟩ => i ≤ (sampL s f many (NZ ss)).length ∧ out = ((sampL s f many (NZ ss)).take i).map (pickP ss) ∧ Row.ok 2 out.length (pf out) r ∧ out.length = i)
          (fun ⟨i, out, r⟩ => (sampL s f many (NZ ss)).length - i) (0, [], none) ?_ ?_ ?_ ?_
        · exact Keeps.k
        · exact Sub.of_cnt (fun a => by (try dsimp only); simp only [cntA]; omega)
        · exact ⟨Nat.zero_le _, rfl, Row.ok0, rfl⟩
        rintro ⟨i, out, r⟩ ⟨hi, ho, hr, hol⟩
        refine JC.seq ?_
        refine JC.region ?_
        refine JL.val rfl rfl rfl (.none rfl) (Ev.bin rfl rfl lss_int) ?_
        refine JL.nil ?_
        refine JQ.thenN ?_
        refine JC.seq ?_
        refine JC.cond rfl (fun hc1 => ?_) (fun hc1 => ?_)
        · -- t43 True
          replace hc1 := of_decide_eq_true hc1
          obtain ⟨a1, rfl⟩ : ∃ a, o1 = some a := by cases o1 with | none => (have := hn1 rfl; omega) | some a => exact ⟨a, rfl⟩
          obtain ⟨x, hx⟩ := get_some (l := (sampL s f many (NZ ss))) (k := i) (by omega)
          have hxl : x.toNat < (allP ss).length := by have := hlt x (List.mem_of_getElem? hx); omega
          obtain ⟨q, hq⟩ := get_some hxl
          have hso : atO ss (x.toNat : Int) = some q := by rw [atO_nat]; exact hq
          refine JC.skip ?_
          refine JQ.thenN ?_
          refine JC.seq ?_
          refine JC.block ?_
          refine JC.seq ?_
          refine JC.region ?_
          refine JL.val rfl rfl rfl (.none rfl) (Ev.idxS1 rfl rfl Tryd.underlying48 Tryd.sizeOf51 (k := i) rfl (by omega)) ?_
          refine JL.val rfl rfl rfl (.none rfl) (Ev.load1 rfl Tryd.underlying51 rfl (fun w hw => ((hC1 w hw (fun p hp => by simp [hp])).mem a1 rfl).atMap hx)) ?_
          refine JL.asg ?_
          refine JL.nil ?_
          refine JQ.thenN ?_
          refine JC.seq ?_
          refine JC.region ?_
          refine JL.mv ?_
          refine JL.mv ?_
          refine JL.val rfl rfl rfl (.none rfl) (Ev.conv rfl (conv_u64_i64 Tryd.underlying51 Tryd.underlying3 (by omega))) ?_
          refine JL.callV rfl (.none rfl) rfl Tryd.call14 (fun w1 hw1 => sAt_any oa cap ss (x.toNat : Int) (by omega) w1 (hs.old hw1)) ?_
          refine JL.re (d := 50) (v' := .tuple #[.agg (plc q).toArray, .int .i64 0]) rfl (by rw [atV_some hok hso, atE_some hok hso]) ?_
          refine JL.mv ?_
          refine JL.val rfl rfl rfl (.none rfl) (Ev.ex0 rfl) ?_
          refine JL.val rfl rfl rfl (.none rfl) (Ev.ex1 rfl) ?_
          refine JL.new rfl rfl rfl (.none rfl) (En.allocZ (cs := (plc (0, 0)).toArray) Tryd.zeroValue27 rfl) (fun b14 hb14 => ?_)
          refine JL.sto rfl rfl (.none rfl) (Es.storeA rfl rfl Tryd.sizeOf27 Upd.k rfl rfl (plc_one _)) ?_
          refine JL.asg ?_
          refine JL.nil ?_
          refine JQ.thenN ?_
          refine JC.region ?_
          refine JL.mv ?_
          refine JL.val rfl rfl rfl (.none rfl) (Ev.loadB rfl memK Tryd.underlying27 rfl Tryd.sizeOf27 rfl) ?_
          refine JL.new rfl rfl rfl (.none rfl) (En.bs1Pl (p := q) rfl Tryd.underlying22 Tryd.sizeOf27 Tryd.zeroValue27) (fun b55 hb55 => ?_)
          refine JL.gen rfl rfl rfl (.none rfl) (Eg.append1 (r := r) (n := out.length) (xs := pf out) (news := pf [q]) (z := (.agg #[.int .i64 0, .int .i64 0])) (s := 2) (bytes := 16) rfl rfl rfl Cut.k Tryd.underlying22 (by kernel_rfl) rfl (by decide) (by decide) hr (Rds.all memK) rfl (by decide) (pf_one _) (by omega)) ?_
          rintro _ _ ⟨rn, rfl, rfl, hrn⟩
          refine JL.asg ?_
          refine JL.nil ?_
          refine JQ.blockN ?_
          refine JQ.thenN ?_
          refine JC.region ?_
          refine JL.val rfl rfl rfl (.none rfl) (Ev.bin rfl rfl (add_i64 (by omega))) ?_
          refine JL.mv ?_
          refine JL.nil ?_
          refine JQ.loopN (i + 1, out ++ [q], some rn) ?_ ?_ ?_ ?_
          · (dsimp only; rw [List.length_append, List.length_singleton]; exact Keeps.k)
          · exact Sub.of_cnt (fun a => by (try dsimp only); simp only [cntA]; omega)
          · exact ⟨by omega, by rw [ho]; exact pick_next hx hq, by rw [List.length_append, pf_append]; exact hrn, by rw [List.length_append, hol]; rfl⟩
          · show (sampL s f many (NZ ss)).length - (i + 1) < (sampL s f many (NZ ss)).length - i; omega
        · -- t43 False
          replace hc1 := of_decide_eq_false hc1
          obtain rfl : i = (sampL s f many (NZ ss)).length := by omega
          refine JC.exit ?_
          refine JQ.thenE ?_
          refine JQ.thenE ?_
          refine JQ.blockE ?_
          refine JQ.thenN ?_
          refine JC.seq ?_
          refine JC.region ?_
          refine JL.mv ?_
          refine JL.asg ?_
          refine JL.asg ?_
          refine JL.nil ?_
          refine JQ.thenN ?_
          refine JC.ret ?_
          refine JQ.end2 (H' := (Row.b 27 r)) (.inl rfl) rfl (.tmp rfl) (.tmp rfl) ?_ ?_
          · first | exact Sub.all | exact Sub.nil | exact Sub.of_cnt (fun a => by (try dsimp only); simp only [cntA]; omega)
          · rw [List.take_length] at ho; subst ho; exact ⟨r, by rw [posV_ok hok hne, posE_ok hok hne, hs0], rfl, by rw [posV_ok hok hne]; exact hr⟩

end Go.Proofs.YtjjoenbighmfoaaDoor
