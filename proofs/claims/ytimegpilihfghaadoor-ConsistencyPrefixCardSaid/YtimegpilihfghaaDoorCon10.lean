/-
  Consistency: lists with one root; the main theorem's law.
-/
import Derived.Test.YtimegpilihfghaaDoorCon9
namespace Go.Proofs.YtimegpilihfghaaDoor
open Go Go.RowKit
set_option maxRecDepth 100000

theorem small_eq {l m : List Dig} (hlm : l.length = m.length) (hrt : rootR l = rootR m) (h : l.length < 2) : l = m := by
  match l, m, hlm, h with
  | [], [], _, _ => rfl
  | [a], [b], _, _ => rw [rootR_one, rootR_one] at hrt; rw [hrt]
  | _ :: _ :: _, _, _, h => simp only [List.length_cons] at h; omega
theorem nc_succ {s t : List (Dig × Dig)} {k : Nat} {E F : Dig × Dig} (hnc : ∀ j a b, j < k → s[j]? = some a → t[j]? = some b → clashP a b = false) (hE : s[k]? = some E) (hF : t[k]? = some F) (hcl : clashP E F = false) :
    ∀ j a b, j < k + 1 → s[j]? = some a → t[j]? = some b → clashP a b = false := by
  intro j a b hj h1 h2
  rcases Nat.lt_or_ge j k with h3 | h3
  · exact hnc j a b h3 h1 h2
  · obtain rfl : j = k := by omega
    rw [hE] at h1
    rw [hF] at h2
    obtain rfl := Option.some.inj h1
    obtain rfl := Option.some.inj h2
    exact hcl
theorem fcE_not {m n : Nat} {p : List Dig} (h : ¬ badC (m : Int) (n : Int)) : ¬ fcE (m : Int) (n : Int) p = 2 := by
  unfold fcE
  rw [if_neg h]
  split <;> decide
theorem vc_true {x y : Dig} {m n : Nat} {p : List Dig} (hok : ¬ badC (m : Int) (n : Int)) (h : vcV x y (m : Int) (n : Int) p = true) : p.length = stepsC m n true ∧ ledC m n true x p = (x, y) := by
  unfold vcV at h
  rw [if_neg (fcE_not hok)] at h
  simp only [Bool.and_eq_true, decide_eq_true_eq] at h
  obtain ⟨h0, h1, h2⟩ := h
  have hl : p.length = stepsC m n true := by
    unfold fcE at h0
    rw [if_neg hok] at h0
    split at h0
    · simp at h0
    · rename_i h3; exact Classical.not_not.1 h3
  rw [fcV_ok hok hl] at h1 h2
  exact ⟨hl, Prod.ext (Subtype.ext h1) (Subtype.ext h2)⟩
theorem no_clash_root {us bs ps : List Dig} (hm1 : 1 ≤ us.length) (hm2 : us.length ≤ bs.length) (hsb : ¬ 1024 < bs.length) (hpl : ps.length = stepsC us.length bs.length true) (hled : ledC us.length bs.length true (rootV us) ps = (rootV us, rootV bs))
    (hnc : ∀ j a b, j < (pairsR us.length bs.length true (rootV us) ps).1.length → (pairsR us.length bs.length true (rootV us) ps).1[j]? = some a → (pairsR us.length bs.length true (rootV (bs.take us.length)) (prV bs (us.length : Int))).1[j]? = some b → clashP a b = false) :
    rootR us = rootR (bs.take us.length) := by
  have htl : (bs.take us.length).length = us.length := by rw [List.length_take]; omega
  have hpv : prV bs (us.length : Int) = proofR bs us.length true := by rw [prV_ok hsb (by omega), Int.toNat_natCast]
  rw [hpv, rootV_ok (ds := bs.take us.length) (by omega), rootV_ok (ds := us) (by omega)] at hnc
  rw [rootV_ok (ds := us) (by omega), rootV_ok hsb] at hled
  exact prefix_root hm1 hm2 hpl hled (fun k a b ha hb hn => clashP_no (hnc k a b (List.getElem?_eq_some_iff.1 ha).1 ha hb) hn)

theorem cfound_any_step (N : Nat) (ih : ∀ (oa : Option Addr) (ob : Option Addr) (ca : Nat) (cb : Nat) (l : List Dig) (m : List Dig) (w : World) (_ : Dl w oa ca l) (_ : Dl w ob cb m) (_ : l.length = m.length) (_ : rootR l = rootR m) (_ : l.length ≤ 1024) (_ : KMem 1 w) (_ : FMem 0 w), l.length < N → Calls Tryd.prog 32 #[.slice oa l.length ca, .slice ob m.length cb] w (Ret w (fun v _ => v = .bool (!decide (l = m))))) (oa : Option Addr) (ob : Option Addr) (ca : Nat) (cb : Nat) (l : List Dig) (m : List Dig) (w : World) (hl : Dl w oa ca l) (hm : Dl w ob cb m) (hlm : l.length = m.length) (hrt : rootR l = rootR m) (hmx : l.length ≤ 1024) (hk : KMem 1 w) (hf : FMem 0 w) (hN : l.length = N) :
    Calls Tryd.prog 32 #[.slice oa l.length ca, .slice ob m.length cb] w (Ret w (fun v _ => v = .bool (!decide (l = m)))) := by
  refine enter (vs := [.slice oa l.length ca, .slice ob m.length cb]) Tryd.func32 rfl Tryd.ntmps32 rfl ?_
  refine JC.seq ?_
  refine JC.region ?_
  refine JL.asg ?_
  refine JL.nil ?_
  refine JQ.thenN ?_
  refine JC.seq ?_
  refine JC.seq ?_
  refine JC.region ?_
  refine JL.mv ?_
  refine JL.val rfl rfl rfl (.none rfl) (Ev.lenS rfl Tryd.underlying23) ?_
  refine JL.val rfl rfl rfl (.none rfl) (Ev.bin rfl rfl lss_int) ?_
  refine JL.mv ?_
  refine JL.split (d := 17) rfl (fun hgA => ?_) (fun hgA => ?_)
  · -- guard 17 true
    have hsmall : l.length < 2 := by have := of_decide_eq_true hgA; omega
    refine JL.skip rfl rfl (.noF rfl rfl rfl) ?_
    refine JL.skip rfl rfl (.noF rfl rfl rfl) ?_
    refine JL.skip rfl rfl (.noF rfl rfl rfl) ?_
    refine JL.val rfl rfl rfl (.none rfl) (Ev.pickT rfl rfl) ?_
    refine JL.nil ?_
    refine JQ.thenN ?_
    refine JC.condT rfl ?_
    refine JC.seq ?_
    refine JC.region ?_
    refine JL.asg ?_
    refine JL.nil ?_
    refine JQ.thenN ?_
    refine JC.ret ?_
    refine JQ.thenR ?_
    refine JQ.end1 (H' := []) (.inl rfl) rfl (.tmp rfl) ?_ ?_
    · exact Sub.k
    · first | exact congrArg Value.bool (by rw [decide_eq_true (small_eq hlm hrt hsmall)]; rfl) | exact congrArg Value.bool (by rw [decide_eq_true hcS]; rfl) | exact congrArg Value.bool (by rw [decide_eq_false hcS]; rfl) | exact congrArg Value.bool (by rw [decide_eq_false hcS, decide_eq_false (fun h => hcS (by rw [← List.take_append_drop (bel l.length) l, ← List.take_append_drop (bel l.length) m, htk, h]))])
  · -- guard 17 false
    have h2 : 2 ≤ l.length := by have := of_decide_eq_false hgA; omega
    refine JL.val rfl rfl rfl (.yes rfl rfl rfl) (Ev.move rfl) ?_
    refine JL.val rfl rfl rfl (.yes rfl rfl rfl) (Ev.move rfl) ?_
    refine JL.callV rfl (.yes rfl rfl rfl) rfl Tryd.call21 (fun w1 hw1 => dSame_any oa ob ca cb l m w1 (hl.old hw1) (hm.old hw1) (by omega)) ?_
    refine JL.val rfl rfl rfl (.none rfl) (Ev.pickF rfl rfl) ?_
    refine JL.nil ?_
    refine JQ.thenN ?_
    refine JC.cond rfl (fun hcS => ?_) (fun hcS => ?_)
    · -- t21 True
      replace hcS := of_decide_eq_true hcS
      refine JC.seq ?_
      refine JC.region ?_
      refine JL.asg ?_
      refine JL.nil ?_
      refine JQ.thenN ?_
      refine JC.ret ?_
      refine JQ.thenR ?_
      refine JQ.end1 (H' := []) (.inl rfl) rfl (.tmp rfl) ?_ ?_
      · exact Sub.k
      · first | exact congrArg Value.bool (by rw [decide_eq_true (small_eq hlm hrt hsmall)]; rfl) | exact congrArg Value.bool (by rw [decide_eq_true hcS]; rfl) | exact congrArg Value.bool (by rw [decide_eq_false hcS]; rfl) | exact congrArg Value.bool (by rw [decide_eq_false hcS, decide_eq_false (fun h => hcS (by rw [← List.take_append_drop (bel l.length) l, ← List.take_append_drop (bel l.length) m, htk, h]))])
    · -- t21 False
      replace hcS := of_decide_eq_false hcS
      have hbl := bel_lt h2
      have hbp := bel_pos l.length
      obtain ⟨ol, eol, hol⟩ := Dl.drop hl (show bel l.length ≤ l.length by omega)
      obtain ⟨om, eom, hom⟩ := Dl.drop hm (show bel l.length ≤ m.length by omega)
      have htl : (l.take (bel l.length)).length = bel l.length := by rw [List.length_take]; omega
      have htm : (m.take (bel l.length)).length = bel l.length := by rw [List.length_take]; omega
      have hdl : (l.drop (bel l.length)).length = l.length - bel l.length := List.length_drop
      have hdm : (m.drop (bel l.length)).length = m.length - bel l.length := List.length_drop
      have hva := rootV_ok (ds := (l.take (bel l.length))) (by omega)
      have hvb := rootV_ok (ds := (l.drop (bel l.length))) (by omega)
      have hvc := rootV_ok (ds := (m.take (bel l.length))) (by omega)
      have hvd := rootV_ok (ds := (m.drop (bel l.length))) (by omega)
      have hn1 : nodeD (rootV (l.take (bel l.length))) (rootV (l.drop (bel l.length))) = nodeD (rootV (m.take (bel l.length))) (rootV (m.drop (bel l.length))) := by have h3 := rootR_split (l := m) (by omega); rw [← hlm] at h3; rw [hva, hvb, hvc, hvd, ← rootR_split h2, ← h3]; exact hrt
      refine JC.skip ?_
      refine JQ.thenN ?_
      refine JC.seq ?_
      refine JC.region ?_
      refine JL.mv ?_
      refine JL.val rfl rfl rfl (.none rfl) (Ev.lenS rfl Tryd.underlying23) ?_
      refine JL.callV rfl (.none rfl) rfl Tryd.call56 (fun w1 hw1 => lbelow_any l.length h2 (by omega) w1) ?_
      refine JL.asg ?_
      refine JL.nil ?_
      refine JQ.thenN ?_
      refine JC.seq ?_
      refine JC.region ?_
      refine JL.mv ?_
      refine JL.mv ?_
      refine JL.val rfl rfl rfl (.none rfl) (Ev.cast (v' := .slice oa (l.take (bel l.length)).length ca) (by rw [sub3_0, htl]) (Ev.sliceHi rfl rfl Tryd.underlying23 Tryd.sizeOf22 (h := bel l.length) rfl (by have := hl.le; omega))) ?_
      refine JL.callV rfl (.none rfl) rfl Tryd.call29 (fun w1 hw1 => Root_any oa ca (l.take (bel l.length)) w1 (Dl.take (hl.old hw1) (by omega)) (by omega) (hk.old hw1) (hf.old hw1)) ?_
      refine JL.mv ?_
      refine JL.val rfl rfl rfl (.none rfl) (Ev.ex0 rfl) ?_
      refine JL.val rfl rfl rfl (.none rfl) (Ev.ex1 rfl) ?_
      refine JL.new rfl rfl rfl (.none rfl) (En.allocZ (cs := arr8 (List.replicate 32 0)) Tryd.zeroValue22 rfl) (fun b6 hb6 => ?_)
      refine JL.sto rfl rfl (.none rfl) (Es.sA Tryd.sizeOf22) ?_
      refine JL.asg ?_
      refine JL.nil ?_
      refine JQ.thenN ?_
      refine JC.seq ?_
      refine JC.region ?_
      refine JL.mv ?_
      refine JL.mv ?_
      refine JL.val rfl rfl rfl (.none rfl) (Ev.cast (v' := .slice ol (l.drop (bel l.length)).length (ca - bel l.length)) (eol) (Ev.sliceLo rfl rfl Tryd.underlying23 Tryd.sizeOf22 (l := bel l.length) rfl (by omega))) ?_
      refine JL.callV rfl (.none rfl) rfl Tryd.call29 (fun w1 hw1 => Root_any ol (ca - bel l.length) (l.drop (bel l.length)) w1 (hol w1 (hl.old hw1)) (by omega) (hk.old hw1) (hf.old hw1)) ?_
      refine JL.mv ?_
      refine JL.val rfl rfl rfl (.none rfl) (Ev.ex0 rfl) ?_
      refine JL.val rfl rfl rfl (.none rfl) (Ev.ex1 rfl) ?_
      refine JL.new rfl rfl rfl (.none rfl) (En.allocZ (cs := arr8 (List.replicate 32 0)) Tryd.zeroValue22 rfl) (fun b8 hb8 => ?_)
      refine JL.sto rfl rfl (.none rfl) (Es.sA Tryd.sizeOf22) ?_
      refine JL.asg ?_
      refine JL.nil ?_
      refine JQ.thenN ?_
      refine JC.seq ?_
      refine JC.region ?_
      refine JL.mv ?_
      refine JL.mv ?_
      refine JL.val rfl rfl rfl (.none rfl) (Ev.cast (v' := .slice ob (m.take (bel l.length)).length cb) (by rw [sub3_0, htm]) (Ev.sliceHi rfl rfl Tryd.underlying23 Tryd.sizeOf22 (h := bel l.length) rfl (by have := hm.le; omega))) ?_
      refine JL.callV rfl (.none rfl) rfl Tryd.call29 (fun w1 hw1 => Root_any ob cb (m.take (bel l.length)) w1 (Dl.take (hm.old hw1) (by omega)) (by omega) (hk.old hw1) (hf.old hw1)) ?_
      refine JL.mv ?_
      refine JL.val rfl rfl rfl (.none rfl) (Ev.ex0 rfl) ?_
      refine JL.val rfl rfl rfl (.none rfl) (Ev.ex1 rfl) ?_
      refine JL.new rfl rfl rfl (.none rfl) (En.allocZ (cs := arr8 (List.replicate 32 0)) Tryd.zeroValue22 rfl) (fun b10 hb10 => ?_)
      refine JL.sto rfl rfl (.none rfl) (Es.sA Tryd.sizeOf22) ?_
      refine JL.asg ?_
      refine JL.nil ?_
      refine JQ.thenN ?_
      refine JC.seq ?_
      refine JC.region ?_
      refine JL.mv ?_
      refine JL.mv ?_
      refine JL.val rfl rfl rfl (.none rfl) (Ev.cast (v' := .slice om (m.drop (bel l.length)).length (cb - bel l.length)) (eom) (Ev.sliceLo rfl rfl Tryd.underlying23 Tryd.sizeOf22 (l := bel l.length) rfl (by omega))) ?_
      refine JL.callV rfl (.none rfl) rfl Tryd.call29 (fun w1 hw1 => Root_any om (cb - bel l.length) (m.drop (bel l.length)) w1 (hom w1 (hm.old hw1)) (by omega) (hk.old hw1) (hf.old hw1)) ?_
      refine JL.mv ?_
      refine JL.val rfl rfl rfl (.none rfl) (Ev.ex0 rfl) ?_
      refine JL.val rfl rfl rfl (.none rfl) (Ev.ex1 rfl) ?_
      refine JL.new rfl rfl rfl (.none rfl) (En.allocZ (cs := arr8 (List.replicate 32 0)) Tryd.zeroValue22 rfl) (fun b12 hb12 => ?_)
      refine JL.sto rfl rfl (.none rfl) (Es.sA Tryd.sizeOf22) ?_
      refine JL.asg ?_
      refine JL.nil ?_
      refine JQ.thenN ?_
      refine JC.seq ?_
      refine JC.seq ?_
      refine JC.region ?_
      refine JL.val rfl rfl rfl (.none rfl) (Ev.lB Tryd.underlying22 Tryd.sizeOf22) ?_
      refine JL.val rfl rfl rfl (.none rfl) (Ev.lB Tryd.underlying22 Tryd.sizeOf22) ?_
      refine JL.val rfl rfl rfl (.none rfl) (Ev.buP rfl rfl Tryd.underlying60 Tryd.sizeOf22 Tryd.zeroValue60 rfl) ?_
      refine JL.val rfl rfl rfl (.none rfl) (Ev.lB Tryd.underlying22 Tryd.sizeOf22) ?_
      refine JL.val rfl rfl rfl (.none rfl) (Ev.lB Tryd.underlying22 Tryd.sizeOf22) ?_
      refine JL.val rfl rfl rfl (.none rfl) (Ev.buP rfl rfl Tryd.underlying60 Tryd.sizeOf22 Tryd.zeroValue60 rfl) ?_
      refine JL.callV rfl (.none rfl) rfl Tryd.call31 (fun w1 hw1 => cclash_any (rootV (l.take (bel l.length)), rootV (l.drop (bel l.length))) (rootV (m.take (bel l.length)), rootV (m.drop (bel l.length))) w1 (hk.old hw1) (hf.old hw1)) ?_
      refine JL.nil ?_
      refine JQ.thenN ?_
      refine JC.cond rfl (fun hcl => ?_) (fun hcl => ?_)
      · -- t59 True
        refine JC.seq ?_
        refine JC.region ?_
        refine JL.asg ?_
        refine JL.nil ?_
        refine JQ.thenN ?_
        refine JC.ret ?_
        refine JQ.thenR ?_
        refine JQ.end1 (H' := []) (.inl rfl) rfl (.tmp rfl) ?_ ?_
        · exact Sub.k
        · first | exact congrArg Value.bool (by rw [decide_eq_true (small_eq hlm hrt hsmall)]; rfl) | exact congrArg Value.bool (by rw [decide_eq_true hcS]; rfl) | exact congrArg Value.bool (by rw [decide_eq_false hcS]; rfl) | exact congrArg Value.bool (by rw [decide_eq_false hcS, decide_eq_false (fun h => hcS (by rw [← List.take_append_drop (bel l.length) l, ← List.take_append_drop (bel l.length) m, htk, h]))])
      · -- t59 False
        have hpp := clashP_no hcl hn1
        obtain ⟨hac, hbd⟩ := Prod.mk.inj hpp
        have hrT : rootR (l.take (bel l.length)) = rootR (m.take (bel l.length)) := by rw [← hva, ← hvc, hac]
        have hrD : rootR (l.drop (bel l.length)) = rootR (m.drop (bel l.length)) := by rw [← hvb, ← hvd, hbd]
        refine JC.skip ?_
        refine JQ.thenN ?_
        refine JC.seq ?_
        refine JC.regionA (by kernel_rfl) ?_
        refine JA.branch [0, 1] (by kernel_rfl) rfl ?_
        refine JAll.cons rfl ?_ ?_
        · -- 0
          refine JO.val rfl rfl rfl (.none rfl) (Ev.lB Tryd.underlying22 Tryd.sizeOf22) ?_
          refine JA.one 1 ?_
          refine JO.val rfl rfl rfl (.none rfl) (Ev.lB Tryd.underlying22 Tryd.sizeOf22) ?_
          refine JA.tk 2 rfl (.none rfl) (fun _ => (Ev.bin rfl rfl (eql_arr8 (n := 32) Tryd.underlying22 Tryd.underlying5 (by kernel_rfl) (by kernel_rfl) (by first | rfl | exact dig_len _ | assumption | exact sha_length _ | exact shaO_length _) (by first | rfl | exact dig_len _ | assumption | exact sha_length _ | exact shaO_length _)))) ?_
          refine JA.tk 3 rfl (.none rfl) (fun _ => (Ev.move rfl)) ?_
          refine JA.know (d := 63) (b := true) rfl ?_ ?_
          · exact decide_eq_true (congrArg Subtype.val hac)
          refine JA.tk 4 rfl (.yes rfl rfl rfl) (fun _ => (Ev.move rfl)) ?_
          refine JA.tk 5 rfl (.yes rfl rfl rfl) (fun _ => (Ev.move rfl)) ?_
          refine JA.tk 6 rfl (.yes rfl rfl rfl) (fun _ => (Ev.cast (v' := .slice oa (l.take (bel l.length)).length ca) (by rw [sub3_0, htl]) (Ev.sliceHi rfl rfl Tryd.underlying23 Tryd.sizeOf22 (h := bel l.length) rfl (by have := hl.le; omega)))) ?_
          refine JA.tk 7 rfl (.yes rfl rfl rfl) (fun _ => (Ev.move rfl)) ?_
          refine JA.tk 8 rfl (.yes rfl rfl rfl) (fun _ => (Ev.move rfl)) ?_
          refine JA.tk 9 rfl (.yes rfl rfl rfl) (fun _ => (Ev.cast (v' := .slice ob (m.take (bel l.length)).length cb) (by rw [sub3_0, htm]) (Ev.sliceHi rfl rfl Tryd.underlying23 Tryd.sizeOf22 (h := bel l.length) rfl (by have := hm.le; omega)))) ?_
          refine JA.one 10 ?_
          refine JO.callV rfl (.yes rfl rfl rfl) rfl Tryd.call32 (fun w1 hw1 => ih oa ob ca cb (l.take (bel l.length)) (m.take (bel l.length)) w1 (Dl.take (hl.old hw1) (by omega)) (Dl.take (hm.old hw1) (by omega)) (by omega) hrT (by omega) (hk.old hw1) (hf.old hw1) (by omega)) ?_
          refine JA.tk 11 rfl (.none rfl) (fun _ => (Ev.pickT rfl rfl)) ?_
          refine JA.tk 12 rfl (.none rfl) (fun _ => (Ev.move rfl)) ?_
          refine JA.split (d := 72) rfl (fun hgT => ?_) (fun hgT => ?_)
          · -- guard 72 true
            refine JA.branch [13, 14] (by kernel_rfl) rfl ?_
            refine JAll.cons rfl ?_ ?_
            · -- 13
              refine JO.skip rfl rfl (.noF rfl rfl rfl) ?_
              refine JA.one 14 ?_
              refine JO.skip rfl rfl (.noF rfl rfl rfl) ?_
              refine JA.skipR 15 (by kernel_rfl) rfl rfl rfl (by kernel_rfl) (by kernel_rfl) (by kernel_rfl) (fun _ _ _ h => h) (fun _ _ => rfl) (.noF rfl rfl rfl) ?_
              refine JA.skipR 16 (by kernel_rfl) rfl rfl rfl (by kernel_rfl) (by kernel_rfl) (by kernel_rfl) (fun _ _ _ h => h) (fun _ _ => rfl) (.noF rfl rfl rfl) ?_
              refine JA.skipW 17 (by kernel_rfl) rfl rfl rfl (by kernel_rfl) (by kernel_rfl) (by kernel_rfl) (fun _ _ _ h => h) (fun _ _ => rfl) (wantU rfl rfl rfl) ?_
              refine JA.skipW 18 (by kernel_rfl) rfl rfl rfl (by kernel_rfl) (by kernel_rfl) (by kernel_rfl) (fun _ _ _ h => h) (fun _ _ => rfl) (wantU rfl rfl rfl) ?_
              refine JA.skipW 19 (by kernel_rfl) rfl rfl rfl (by kernel_rfl) (by kernel_rfl) (by kernel_rfl) (fun _ _ _ h => h) (fun _ _ => rfl) (wantU rfl rfl rfl) ?_
              refine JA.skipW 20 (by kernel_rfl) rfl rfl rfl (by kernel_rfl) (by kernel_rfl) (by kernel_rfl) (fun _ _ _ h => h) (fun _ _ => rfl) (wantU rfl rfl rfl) ?_
              refine JA.skipW 21 (by kernel_rfl) rfl rfl rfl (by kernel_rfl) (by kernel_rfl) (by kernel_rfl) (fun _ _ _ h => h) (fun _ _ => rfl) (wantU rfl rfl rfl) ?_
              refine JA.skipW 22 (by kernel_rfl) rfl rfl rfl (by kernel_rfl) (by kernel_rfl) (by kernel_rfl) (fun _ _ _ h => h) (fun _ _ => rfl) (wantU rfl rfl rfl) ?_
              refine JA.one 23 ?_
              refine JO.skipW rfl rfl (wantU rfl rfl rfl) ?_
              refine JA.skipR 24 (by kernel_rfl) rfl rfl rfl (by kernel_rfl) (by kernel_rfl) (by kernel_rfl) (fun _ _ _ h => h) (fun _ _ => rfl) (.noF rfl rfl rfl) ?_
              refine JA.tk 25 rfl (.none rfl) (fun _ => (Ev.pickT rfl rfl)) ?_
              refine JA.tk 26 rfl (.none rfl) (fun _ => (Ev.assign rfl)) ?_
              refine JA.done (by kernel_rfl) ?_
              refine JQ.thenN ?_
              refine JC.ret ?_
              refine JQ.end1 (H' := []) (.inl rfl) rfl (.tmp rfl) ?_ ?_
              · exact Sub.k
              · first | exact congrArg Value.bool (by rw [decide_eq_true (small_eq hlm hrt hsmall)]; rfl) | exact congrArg Value.bool (by rw [decide_eq_true hcS]; rfl) | exact congrArg Value.bool (by rw [decide_eq_false hcS]; rfl) | exact congrArg Value.bool (by rw [decide_eq_false hcS, decide_eq_false (fun h => hcS (by rw [← List.take_append_drop (bel l.length) l, ← List.take_append_drop (bel l.length) m, htk, h]))])
            refine JAll.cons rfl ?_ JAll.nil
            refine JO.skip rfl rfl (.noF rfl rfl rfl) ?_
            refine JA.one 13 ?_
            refine JO.skip rfl rfl (.noF rfl rfl rfl) ?_
            refine JA.skipR 15 (by kernel_rfl) rfl rfl rfl (by kernel_rfl) (by kernel_rfl) (by kernel_rfl) (fun _ _ _ h => h) (fun _ _ => rfl) (.noF rfl rfl rfl) ?_
            refine JA.skipR 16 (by kernel_rfl) rfl rfl rfl (by kernel_rfl) (by kernel_rfl) (by kernel_rfl) (fun _ _ _ h => h) (fun _ _ => rfl) (.noF rfl rfl rfl) ?_
            refine JA.skipW 17 (by kernel_rfl) rfl rfl rfl (by kernel_rfl) (by kernel_rfl) (by kernel_rfl) (fun _ _ _ h => h) (fun _ _ => rfl) (wantU rfl rfl rfl) ?_
            refine JA.skipW 18 (by kernel_rfl) rfl rfl rfl (by kernel_rfl) (by kernel_rfl) (by kernel_rfl) (fun _ _ _ h => h) (fun _ _ => rfl) (wantU rfl rfl rfl) ?_
            refine JA.skipW 19 (by kernel_rfl) rfl rfl rfl (by kernel_rfl) (by kernel_rfl) (by kernel_rfl) (fun _ _ _ h => h) (fun _ _ => rfl) (wantU rfl rfl rfl) ?_
            refine JA.skipW 20 (by kernel_rfl) rfl rfl rfl (by kernel_rfl) (by kernel_rfl) (by kernel_rfl) (fun _ _ _ h => h) (fun _ _ => rfl) (wantU rfl rfl rfl) ?_
            refine JA.skipW 21 (by kernel_rfl) rfl rfl rfl (by kernel_rfl) (by kernel_rfl) (by kernel_rfl) (fun _ _ _ h => h) (fun _ _ => rfl) (wantU rfl rfl rfl) ?_
            refine JA.skipW 22 (by kernel_rfl) rfl rfl rfl (by kernel_rfl) (by kernel_rfl) (by kernel_rfl) (fun _ _ _ h => h) (fun _ _ => rfl) (wantU rfl rfl rfl) ?_
            refine JA.one 23 ?_
            refine JO.skipW rfl rfl (wantU rfl rfl rfl) ?_
            refine JA.skipR 24 (by kernel_rfl) rfl rfl rfl (by kernel_rfl) (by kernel_rfl) (by kernel_rfl) (fun _ _ _ h => h) (fun _ _ => rfl) (.noF rfl rfl rfl) ?_
            refine JA.tk 25 rfl (.none rfl) (fun _ => (Ev.pickT rfl rfl)) ?_
            refine JA.tk 26 rfl (.none rfl) (fun _ => (Ev.assign rfl)) ?_
            refine JA.done (by kernel_rfl) ?_
            refine JQ.thenN ?_
            refine JC.ret ?_
            refine JQ.end1 (H' := []) (.inl rfl) rfl (.tmp rfl) ?_ ?_
            · exact Sub.k
            · first | exact congrArg Value.bool (by rw [decide_eq_true (small_eq hlm hrt hsmall)]; rfl) | exact congrArg Value.bool (by rw [decide_eq_true hcS]; rfl) | exact congrArg Value.bool (by rw [decide_eq_false hcS]; rfl) | exact congrArg Value.bool (by rw [decide_eq_false hcS, decide_eq_false (fun h => hcS (by rw [← List.take_append_drop (bel l.length) l, ← List.take_append_drop (bel l.length) m, htk, h]))])
          · -- guard 72 false
            have htk : (l.take (bel l.length)) = (m.take (bel l.length)) := by simpa using hgT
            refine JA.branch [13, 14] (by kernel_rfl) rfl ?_
            refine JAll.cons rfl ?_ ?_
            · -- 13
              refine JO.val rfl rfl rfl (.yes rfl rfl rfl) (Ev.lB Tryd.underlying22 Tryd.sizeOf22) ?_
              refine JA.one 14 ?_
              refine JO.val rfl rfl rfl (.yes rfl rfl rfl) (Ev.lB Tryd.underlying22 Tryd.sizeOf22) ?_
              refine JA.tk 15 rfl (.yes rfl rfl rfl) (fun _ => (Ev.bin rfl rfl (eql_arr8 (n := 32) Tryd.underlying22 Tryd.underlying5 (by kernel_rfl) (by kernel_rfl) (by first | rfl | exact dig_len _ | assumption | exact sha_length _ | exact shaO_length _) (by first | rfl | exact dig_len _ | assumption | exact sha_length _ | exact shaO_length _)))) ?_
              refine JA.tk 16 rfl (.yes rfl rfl rfl) (fun _ => (Ev.move rfl)) ?_
              refine JA.know (d := 76) (b := true) rfl ?_ ?_
              · exact decide_eq_true (congrArg Subtype.val hbd)
              refine JA.tk 17 rfl (.yes rfl rfl rfl) (fun _ => (Ev.move rfl)) ?_
              refine JA.tk 18 rfl (.yes rfl rfl rfl) (fun _ => (Ev.move rfl)) ?_
              refine JA.tk 19 rfl (.yes rfl rfl rfl) (fun _ => (Ev.cast (v' := .slice ol (l.drop (bel l.length)).length (ca - bel l.length)) (eol) (Ev.sliceLo rfl rfl Tryd.underlying23 Tryd.sizeOf22 (l := bel l.length) rfl (by omega)))) ?_
              refine JA.tk 20 rfl (.yes rfl rfl rfl) (fun _ => (Ev.move rfl)) ?_
              refine JA.tk 21 rfl (.yes rfl rfl rfl) (fun _ => (Ev.move rfl)) ?_
              refine JA.tk 22 rfl (.yes rfl rfl rfl) (fun _ => (Ev.cast (v' := .slice om (m.drop (bel l.length)).length (cb - bel l.length)) (eom) (Ev.sliceLo rfl rfl Tryd.underlying23 Tryd.sizeOf22 (l := bel l.length) rfl (by omega)))) ?_
              refine JA.one 23 ?_
              refine JO.callV rfl (.yes rfl rfl rfl) rfl Tryd.call32 (fun w1 hw1 => ih ol om (ca - bel l.length) (cb - bel l.length) (l.drop (bel l.length)) (m.drop (bel l.length)) w1 (hol w1 (hl.old hw1)) (hom w1 (hm.old hw1)) (by omega) hrD (by omega) (hk.old hw1) (hf.old hw1) (by omega)) ?_
              refine JA.tk 24 rfl (.yes rfl rfl rfl) (fun _ => (Ev.pickT rfl rfl)) ?_
              refine JA.tk 25 rfl (.none rfl) (fun _ => (Ev.pickF rfl rfl)) ?_
              refine JA.tk 26 rfl (.none rfl) (fun _ => (Ev.assign rfl)) ?_
              refine JA.done (by kernel_rfl) ?_
              refine JQ.thenN ?_
              refine JC.ret ?_
              refine JQ.end1 (H' := []) (.inl rfl) rfl (.tmp rfl) ?_ ?_
              · exact Sub.k
              · first | exact congrArg Value.bool (by rw [decide_eq_true (small_eq hlm hrt hsmall)]; rfl) | exact congrArg Value.bool (by rw [decide_eq_true hcS]; rfl) | exact congrArg Value.bool (by rw [decide_eq_false hcS]; rfl) | exact congrArg Value.bool (by rw [decide_eq_false hcS, decide_eq_false (fun h => hcS (by rw [← List.take_append_drop (bel l.length) l, ← List.take_append_drop (bel l.length) m, htk, h]))])
            refine JAll.cons rfl ?_ JAll.nil
            refine JO.val rfl rfl rfl (.yes rfl rfl rfl) (Ev.lB Tryd.underlying22 Tryd.sizeOf22) ?_
            refine JA.one 13 ?_
            refine JO.val rfl rfl rfl (.yes rfl rfl rfl) (Ev.lB Tryd.underlying22 Tryd.sizeOf22) ?_
            refine JA.tk 15 rfl (.yes rfl rfl rfl) (fun _ => (Ev.bin rfl rfl (eql_arr8 (n := 32) Tryd.underlying22 Tryd.underlying5 (by kernel_rfl) (by kernel_rfl) (by first | rfl | exact dig_len _ | assumption | exact sha_length _ | exact shaO_length _) (by first | rfl | exact dig_len _ | assumption | exact sha_length _ | exact shaO_length _)))) ?_
            refine JA.tk 16 rfl (.yes rfl rfl rfl) (fun _ => (Ev.move rfl)) ?_
            refine JA.know (d := 76) (b := true) rfl ?_ ?_
            · exact decide_eq_true (congrArg Subtype.val hbd)
            refine JA.tk 17 rfl (.yes rfl rfl rfl) (fun _ => (Ev.move rfl)) ?_
            refine JA.tk 18 rfl (.yes rfl rfl rfl) (fun _ => (Ev.move rfl)) ?_
            refine JA.tk 19 rfl (.yes rfl rfl rfl) (fun _ => (Ev.cast (v' := .slice ol (l.drop (bel l.length)).length (ca - bel l.length)) (eol) (Ev.sliceLo rfl rfl Tryd.underlying23 Tryd.sizeOf22 (l := bel l.length) rfl (by omega)))) ?_
            refine JA.tk 20 rfl (.yes rfl rfl rfl) (fun _ => (Ev.move rfl)) ?_
            refine JA.tk 21 rfl (.yes rfl rfl rfl) (fun _ => (Ev.move rfl)) ?_
            refine JA.tk 22 rfl (.yes rfl rfl rfl) (fun _ => (Ev.cast (v' := .slice om (m.drop (bel l.length)).length (cb - bel l.length)) (eom) (Ev.sliceLo rfl rfl Tryd.underlying23 Tryd.sizeOf22 (l := bel l.length) rfl (by omega)))) ?_
            refine JA.one 23 ?_
            refine JO.callV rfl (.yes rfl rfl rfl) rfl Tryd.call32 (fun w1 hw1 => ih ol om (ca - bel l.length) (cb - bel l.length) (l.drop (bel l.length)) (m.drop (bel l.length)) w1 (hol w1 (hl.old hw1)) (hom w1 (hm.old hw1)) (by omega) hrD (by omega) (hk.old hw1) (hf.old hw1) (by omega)) ?_
            refine JA.tk 24 rfl (.yes rfl rfl rfl) (fun _ => (Ev.pickT rfl rfl)) ?_
            refine JA.tk 25 rfl (.none rfl) (fun _ => (Ev.pickF rfl rfl)) ?_
            refine JA.tk 26 rfl (.none rfl) (fun _ => (Ev.assign rfl)) ?_
            refine JA.done (by kernel_rfl) ?_
            refine JQ.thenN ?_
            refine JC.ret ?_
            refine JQ.end1 (H' := []) (.inl rfl) rfl (.tmp rfl) ?_ ?_
            · exact Sub.k
            · first | exact congrArg Value.bool (by rw [decide_eq_true (small_eq hlm hrt hsmall)]; rfl) | exact congrArg Value.bool (by rw [decide_eq_true hcS]; rfl) | exact congrArg Value.bool (by rw [decide_eq_false hcS]; rfl) | exact congrArg Value.bool (by rw [decide_eq_false hcS, decide_eq_false (fun h => hcS (by rw [← List.take_append_drop (bel l.length) l, ← List.take_append_drop (bel l.length) m, htk, h]))])
        refine JAll.cons rfl ?_ JAll.nil
        refine JO.val rfl rfl rfl (.none rfl) (Ev.lB Tryd.underlying22 Tryd.sizeOf22) ?_
        refine JA.one 0 ?_
        refine JO.val rfl rfl rfl (.none rfl) (Ev.lB Tryd.underlying22 Tryd.sizeOf22) ?_
        refine JA.tk 2 rfl (.none rfl) (fun _ => (Ev.bin rfl rfl (eql_arr8 (n := 32) Tryd.underlying22 Tryd.underlying5 (by kernel_rfl) (by kernel_rfl) (by first | rfl | exact dig_len _ | assumption | exact sha_length _ | exact shaO_length _) (by first | rfl | exact dig_len _ | assumption | exact sha_length _ | exact shaO_length _)))) ?_
        refine JA.tk 3 rfl (.none rfl) (fun _ => (Ev.move rfl)) ?_
        refine JA.know (d := 63) (b := true) rfl ?_ ?_
        · exact decide_eq_true (congrArg Subtype.val hac)
        refine JA.tk 4 rfl (.yes rfl rfl rfl) (fun _ => (Ev.move rfl)) ?_
        refine JA.tk 5 rfl (.yes rfl rfl rfl) (fun _ => (Ev.move rfl)) ?_
        refine JA.tk 6 rfl (.yes rfl rfl rfl) (fun _ => (Ev.cast (v' := .slice oa (l.take (bel l.length)).length ca) (by rw [sub3_0, htl]) (Ev.sliceHi rfl rfl Tryd.underlying23 Tryd.sizeOf22 (h := bel l.length) rfl (by have := hl.le; omega)))) ?_
        refine JA.tk 7 rfl (.yes rfl rfl rfl) (fun _ => (Ev.move rfl)) ?_
        refine JA.tk 8 rfl (.yes rfl rfl rfl) (fun _ => (Ev.move rfl)) ?_
        refine JA.tk 9 rfl (.yes rfl rfl rfl) (fun _ => (Ev.cast (v' := .slice ob (m.take (bel l.length)).length cb) (by rw [sub3_0, htm]) (Ev.sliceHi rfl rfl Tryd.underlying23 Tryd.sizeOf22 (h := bel l.length) rfl (by have := hm.le; omega)))) ?_
        refine JA.one 10 ?_
        refine JO.callV rfl (.yes rfl rfl rfl) rfl Tryd.call32 (fun w1 hw1 => ih oa ob ca cb (l.take (bel l.length)) (m.take (bel l.length)) w1 (Dl.take (hl.old hw1) (by omega)) (Dl.take (hm.old hw1) (by omega)) (by omega) hrT (by omega) (hk.old hw1) (hf.old hw1) (by omega)) ?_
        refine JA.tk 11 rfl (.none rfl) (fun _ => (Ev.pickT rfl rfl)) ?_
        refine JA.tk 12 rfl (.none rfl) (fun _ => (Ev.move rfl)) ?_
        refine JA.split (d := 72) rfl (fun hgT => ?_) (fun hgT => ?_)
        · -- guard 72 true
          refine JA.branch [13, 14] (by kernel_rfl) rfl ?_
          refine JAll.cons rfl ?_ ?_
          · -- 13
            refine JO.skip rfl rfl (.noF rfl rfl rfl) ?_
            refine JA.one 14 ?_
            refine JO.skip rfl rfl (.noF rfl rfl rfl) ?_
            refine JA.skipR 15 (by kernel_rfl) rfl rfl rfl (by kernel_rfl) (by kernel_rfl) (by kernel_rfl) (fun _ _ _ h => h) (fun _ _ => rfl) (.noF rfl rfl rfl) ?_
            refine JA.skipR 16 (by kernel_rfl) rfl rfl rfl (by kernel_rfl) (by kernel_rfl) (by kernel_rfl) (fun _ _ _ h => h) (fun _ _ => rfl) (.noF rfl rfl rfl) ?_
            refine JA.skipW 17 (by kernel_rfl) rfl rfl rfl (by kernel_rfl) (by kernel_rfl) (by kernel_rfl) (fun _ _ _ h => h) (fun _ _ => rfl) (wantU rfl rfl rfl) ?_
            refine JA.skipW 18 (by kernel_rfl) rfl rfl rfl (by kernel_rfl) (by kernel_rfl) (by kernel_rfl) (fun _ _ _ h => h) (fun _ _ => rfl) (wantU rfl rfl rfl) ?_
            refine JA.skipW 19 (by kernel_rfl) rfl rfl rfl (by kernel_rfl) (by kernel_rfl) (by kernel_rfl) (fun _ _ _ h => h) (fun _ _ => rfl) (wantU rfl rfl rfl) ?_
            refine JA.skipW 20 (by kernel_rfl) rfl rfl rfl (by kernel_rfl) (by kernel_rfl) (by kernel_rfl) (fun _ _ _ h => h) (fun _ _ => rfl) (wantU rfl rfl rfl) ?_
            refine JA.skipW 21 (by kernel_rfl) rfl rfl rfl (by kernel_rfl) (by kernel_rfl) (by kernel_rfl) (fun _ _ _ h => h) (fun _ _ => rfl) (wantU rfl rfl rfl) ?_
            refine JA.skipW 22 (by kernel_rfl) rfl rfl rfl (by kernel_rfl) (by kernel_rfl) (by kernel_rfl) (fun _ _ _ h => h) (fun _ _ => rfl) (wantU rfl rfl rfl) ?_
            refine JA.one 23 ?_
            refine JO.skipW rfl rfl (wantU rfl rfl rfl) ?_
            refine JA.skipR 24 (by kernel_rfl) rfl rfl rfl (by kernel_rfl) (by kernel_rfl) (by kernel_rfl) (fun _ _ _ h => h) (fun _ _ => rfl) (.noF rfl rfl rfl) ?_
            refine JA.tk 25 rfl (.none rfl) (fun _ => (Ev.pickT rfl rfl)) ?_
            refine JA.tk 26 rfl (.none rfl) (fun _ => (Ev.assign rfl)) ?_
            refine JA.done (by kernel_rfl) ?_
            refine JQ.thenN ?_
            refine JC.ret ?_
            refine JQ.end1 (H' := []) (.inl rfl) rfl (.tmp rfl) ?_ ?_
            · exact Sub.k
            · first | exact congrArg Value.bool (by rw [decide_eq_true (small_eq hlm hrt hsmall)]; rfl) | exact congrArg Value.bool (by rw [decide_eq_true hcS]; rfl) | exact congrArg Value.bool (by rw [decide_eq_false hcS]; rfl) | exact congrArg Value.bool (by rw [decide_eq_false hcS, decide_eq_false (fun h => hcS (by rw [← List.take_append_drop (bel l.length) l, ← List.take_append_drop (bel l.length) m, htk, h]))])
          refine JAll.cons rfl ?_ JAll.nil
          refine JO.skip rfl rfl (.noF rfl rfl rfl) ?_
          refine JA.one 13 ?_
          refine JO.skip rfl rfl (.noF rfl rfl rfl) ?_
          refine JA.skipR 15 (by kernel_rfl) rfl rfl rfl (by kernel_rfl) (by kernel_rfl) (by kernel_rfl) (fun _ _ _ h => h) (fun _ _ => rfl) (.noF rfl rfl rfl) ?_
          refine JA.skipR 16 (by kernel_rfl) rfl rfl rfl (by kernel_rfl) (by kernel_rfl) (by kernel_rfl) (fun _ _ _ h => h) (fun _ _ => rfl) (.noF rfl rfl rfl) ?_
          refine JA.skipW 17 (by kernel_rfl) rfl rfl rfl (by kernel_rfl) (by kernel_rfl) (by kernel_rfl) (fun _ _ _ h => h) (fun _ _ => rfl) (wantU rfl rfl rfl) ?_
          refine JA.skipW 18 (by kernel_rfl) rfl rfl rfl (by kernel_rfl) (by kernel_rfl) (by kernel_rfl) (fun _ _ _ h => h) (fun _ _ => rfl) (wantU rfl rfl rfl) ?_
          refine JA.skipW 19 (by kernel_rfl) rfl rfl rfl (by kernel_rfl) (by kernel_rfl) (by kernel_rfl) (fun _ _ _ h => h) (fun _ _ => rfl) (wantU rfl rfl rfl) ?_
          refine JA.skipW 20 (by kernel_rfl) rfl rfl rfl (by kernel_rfl) (by kernel_rfl) (by kernel_rfl) (fun _ _ _ h => h) (fun _ _ => rfl) (wantU rfl rfl rfl) ?_
          refine JA.skipW 21 (by kernel_rfl) rfl rfl rfl (by kernel_rfl) (by kernel_rfl) (by kernel_rfl) (fun _ _ _ h => h) (fun _ _ => rfl) (wantU rfl rfl rfl) ?_
          refine JA.skipW 22 (by kernel_rfl) rfl rfl rfl (by kernel_rfl) (by kernel_rfl) (by kernel_rfl) (fun _ _ _ h => h) (fun _ _ => rfl) (wantU rfl rfl rfl) ?_
          refine JA.one 23 ?_
          refine JO.skipW rfl rfl (wantU rfl rfl rfl) ?_
          refine JA.skipR 24 (by kernel_rfl) rfl rfl rfl (by kernel_rfl) (by kernel_rfl) (by kernel_rfl) (fun _ _ _ h => h) (fun _ _ => rfl) (.noF rfl rfl rfl) ?_
          refine JA.tk 25 rfl (.none rfl) (fun _ => (Ev.pickT rfl rfl)) ?_
          refine JA.tk 26 rfl (.none rfl) (fun _ => (Ev.assign rfl)) ?_
          refine JA.done (by kernel_rfl) ?_
          refine JQ.thenN ?_
          refine JC.ret ?_
          refine JQ.end1 (H' := []) (.inl rfl) rfl (.tmp rfl) ?_ ?_
          · exact Sub.k
          · first | exact congrArg Value.bool (by rw [decide_eq_true (small_eq hlm hrt hsmall)]; rfl) | exact congrArg Value.bool (by rw [decide_eq_true hcS]; rfl) | exact congrArg Value.bool (by rw [decide_eq_false hcS]; rfl) | exact congrArg Value.bool (by rw [decide_eq_false hcS, decide_eq_false (fun h => hcS (by rw [← List.take_append_drop (bel l.length) l, ← List.take_append_drop (bel l.length) m, htk, h]))])
        · -- guard 72 false
          have htk : (l.take (bel l.length)) = (m.take (bel l.length)) := by simpa using hgT
          refine JA.branch [13, 14] (by kernel_rfl) rfl ?_
          refine JAll.cons rfl ?_ ?_
          · -- 13
            refine JO.val rfl rfl rfl (.yes rfl rfl rfl) (Ev.lB Tryd.underlying22 Tryd.sizeOf22) ?_
            refine JA.one 14 ?_
            refine JO.val rfl rfl rfl (.yes rfl rfl rfl) (Ev.lB Tryd.underlying22 Tryd.sizeOf22) ?_
            refine JA.tk 15 rfl (.yes rfl rfl rfl) (fun _ => (Ev.bin rfl rfl (eql_arr8 (n := 32) Tryd.underlying22 Tryd.underlying5 (by kernel_rfl) (by kernel_rfl) (by first | rfl | exact dig_len _ | assumption | exact sha_length _ | exact shaO_length _) (by first | rfl | exact dig_len _ | assumption | exact sha_length _ | exact shaO_length _)))) ?_
            refine JA.tk 16 rfl (.yes rfl rfl rfl) (fun _ => (Ev.move rfl)) ?_
            refine JA.know (d := 76) (b := true) rfl ?_ ?_
            · exact decide_eq_true (congrArg Subtype.val hbd)
            refine JA.tk 17 rfl (.yes rfl rfl rfl) (fun _ => (Ev.move rfl)) ?_
            refine JA.tk 18 rfl (.yes rfl rfl rfl) (fun _ => (Ev.move rfl)) ?_
            refine JA.tk 19 rfl (.yes rfl rfl rfl) (fun _ => (Ev.cast (v' := .slice ol (l.drop (bel l.length)).length (ca - bel l.length)) (eol) (Ev.sliceLo rfl rfl Tryd.underlying23 Tryd.sizeOf22 (l := bel l.length) rfl (by omega)))) ?_
            refine JA.tk 20 rfl (.yes rfl rfl rfl) (fun _ => (Ev.move rfl)) ?_
            refine JA.tk 21 rfl (.yes rfl rfl rfl) (fun _ => (Ev.move rfl)) ?_
            refine JA.tk 22 rfl (.yes rfl rfl rfl) (fun _ => (Ev.cast (v' := .slice om (m.drop (bel l.length)).length (cb - bel l.length)) (eom) (Ev.sliceLo rfl rfl Tryd.underlying23 Tryd.sizeOf22 (l := bel l.length) rfl (by omega)))) ?_
            refine JA.one 23 ?_
            refine JO.callV rfl (.yes rfl rfl rfl) rfl Tryd.call32 (fun w1 hw1 => ih ol om (ca - bel l.length) (cb - bel l.length) (l.drop (bel l.length)) (m.drop (bel l.length)) w1 (hol w1 (hl.old hw1)) (hom w1 (hm.old hw1)) (by omega) hrD (by omega) (hk.old hw1) (hf.old hw1) (by omega)) ?_
            refine JA.tk 24 rfl (.yes rfl rfl rfl) (fun _ => (Ev.pickT rfl rfl)) ?_
            refine JA.tk 25 rfl (.none rfl) (fun _ => (Ev.pickF rfl rfl)) ?_
            refine JA.tk 26 rfl (.none rfl) (fun _ => (Ev.assign rfl)) ?_
            refine JA.done (by kernel_rfl) ?_
            refine JQ.thenN ?_
            refine JC.ret ?_
            refine JQ.end1 (H' := []) (.inl rfl) rfl (.tmp rfl) ?_ ?_
            · exact Sub.k
            · first | exact congrArg Value.bool (by rw [decide_eq_true (small_eq hlm hrt hsmall)]; rfl) | exact congrArg Value.bool (by rw [decide_eq_true hcS]; rfl) | exact congrArg Value.bool (by rw [decide_eq_false hcS]; rfl) | exact congrArg Value.bool (by rw [decide_eq_false hcS, decide_eq_false (fun h => hcS (by rw [← List.take_append_drop (bel l.length) l, ← List.take_append_drop (bel l.length) m, htk, h]))])
          refine JAll.cons rfl ?_ JAll.nil
          refine JO.val rfl rfl rfl (.yes rfl rfl rfl) (Ev.lB Tryd.underlying22 Tryd.sizeOf22) ?_
          refine JA.one 13 ?_
          refine JO.val rfl rfl rfl (.yes rfl rfl rfl) (Ev.lB Tryd.underlying22 Tryd.sizeOf22) ?_
          refine JA.tk 15 rfl (.yes rfl rfl rfl) (fun _ => (Ev.bin rfl rfl (eql_arr8 (n := 32) Tryd.underlying22 Tryd.underlying5 (by kernel_rfl) (by kernel_rfl) (by first | rfl | exact dig_len _ | assumption | exact sha_length _ | exact shaO_length _) (by first | rfl | exact dig_len _ | assumption | exact sha_length _ | exact shaO_length _)))) ?_
          refine JA.tk 16 rfl (.yes rfl rfl rfl) (fun _ => (Ev.move rfl)) ?_
          refine JA.know (d := 76) (b := true) rfl ?_ ?_
          · exact decide_eq_true (congrArg Subtype.val hbd)
          refine JA.tk 17 rfl (.yes rfl rfl rfl) (fun _ => (Ev.move rfl)) ?_
          refine JA.tk 18 rfl (.yes rfl rfl rfl) (fun _ => (Ev.move rfl)) ?_
          refine JA.tk 19 rfl (.yes rfl rfl rfl) (fun _ => (Ev.cast (v' := .slice ol (l.drop (bel l.length)).length (ca - bel l.length)) (eol) (Ev.sliceLo rfl rfl Tryd.underlying23 Tryd.sizeOf22 (l := bel l.length) rfl (by omega)))) ?_
          refine JA.tk 20 rfl (.yes rfl rfl rfl) (fun _ => (Ev.move rfl)) ?_
          refine JA.tk 21 rfl (.yes rfl rfl rfl) (fun _ => (Ev.move rfl)) ?_
          refine JA.tk 22 rfl (.yes rfl rfl rfl) (fun _ => (Ev.cast (v' := .slice om (m.drop (bel l.length)).length (cb - bel l.length)) (eom) (Ev.sliceLo rfl rfl Tryd.underlying23 Tryd.sizeOf22 (l := bel l.length) rfl (by omega)))) ?_
          refine JA.one 23 ?_
          refine JO.callV rfl (.yes rfl rfl rfl) rfl Tryd.call32 (fun w1 hw1 => ih ol om (ca - bel l.length) (cb - bel l.length) (l.drop (bel l.length)) (m.drop (bel l.length)) w1 (hol w1 (hl.old hw1)) (hom w1 (hm.old hw1)) (by omega) hrD (by omega) (hk.old hw1) (hf.old hw1) (by omega)) ?_
          refine JA.tk 24 rfl (.yes rfl rfl rfl) (fun _ => (Ev.pickT rfl rfl)) ?_
          refine JA.tk 25 rfl (.none rfl) (fun _ => (Ev.pickF rfl rfl)) ?_
          refine JA.tk 26 rfl (.none rfl) (fun _ => (Ev.assign rfl)) ?_
          refine JA.done (by kernel_rfl) ?_
          refine JQ.thenN ?_
          refine JC.ret ?_
          refine JQ.end1 (H' := []) (.inl rfl) rfl (.tmp rfl) ?_ ?_
          · exact Sub.k
          · first | exact congrArg Value.bool (by rw [decide_eq_true (small_eq hlm hrt hsmall)]; rfl) | exact congrArg Value.bool (by rw [decide_eq_true hcS]; rfl) | exact congrArg Value.bool (by rw [decide_eq_false hcS]; rfl) | exact congrArg Value.bool (by rw [decide_eq_false hcS, decide_eq_false (fun h => hcS (by rw [← List.take_append_drop (bel l.length) l, ← List.take_append_drop (bel l.length) m, htk, h]))])
theorem cfound_any (oa : Option Addr) (ob : Option Addr) (ca : Nat) (cb : Nat) (l : List Dig) (m : List Dig) (w : World) (hl : Dl w oa ca l) (hm : Dl w ob cb m) (hlm : l.length = m.length) (hrt : rootR l = rootR m) (hmx : l.length ≤ 1024) (hk : KMem 1 w) (hf : FMem 0 w) :
    Calls Tryd.prog 32 #[.slice oa l.length ca, .slice ob m.length cb] w (Ret w (fun v _ => v = .bool (!decide (l = m)))) := by
  have key : ∀ (N : Nat) (oa : Option Addr) (ob : Option Addr) (ca : Nat) (cb : Nat) (l : List Dig) (m : List Dig) (w : World) (hl : Dl w oa ca l) (hm : Dl w ob cb m) (hlm : l.length = m.length) (hrt : rootR l = rootR m) (hmx : l.length ≤ 1024) (hk : KMem 1 w) (hf : FMem 0 w), l.length = N → Calls Tryd.prog 32 #[.slice oa l.length ca, .slice ob m.length cb] w (Ret w (fun v _ => v = .bool (!decide (l = m)))) := by
    intro N
    induction N using Nat.strongRecOn with
    | _ N IH =>
      intro oa ob ca cb l m w hl hm hlm hrt hmx hk hf hN
      exact cfound_any_step N (fun oa ob ca cb l m w hl hm hlm hrt hmx hk hf hlt => IH _ hlt oa ob ca cb l m w hl hm hlm hrt hmx hk hf rfl) oa ob ca cb l m w hl hm hlm hrt hmx hk hf hN
  exact key _ oa ob ca cb l m w hl hm hlm hrt hmx hk hf rfl

theorem lawPrefix_any (oa ob oc : Option Addr) (ca cb cc : Nat) (us bs ps : List Dig) (w : World) (ha : Dl w oa ca us) (hb : Dl w ob cb bs) (hp : Dl w oc cc ps) (hk : KMem 1 w) (hf : FMem 0 w) :
    Calls Tryd.prog 8 #[.slice oa us.length ca, .slice ob bs.length cb, .slice oc ps.length cc] w (Ret w (fun v _ => v = .bool true)) := by
  refine enter (vs := [.slice oa us.length ca, .slice ob bs.length cb, .slice oc ps.length cc]) Tryd.func8 rfl Tryd.ntmps8 rfl ?_
  refine JC.seq ?_
  refine JC.region ?_
  refine JL.asg ?_
  refine JL.nil ?_
  refine JQ.thenN ?_
  refine JC.seq ?_
  refine JC.region ?_
  refine JL.callV rfl (.none rfl) rfl Tryd.call28 (fun w1 hw1 => calive_any w1 (hk.old hw1) (hf.old hw1)) ?_
  refine JL.asg ?_
  refine JL.nil ?_
  refine JQ.thenN ?_
  refine JC.seq ?_
  refine JC.region ?_
  refine JL.mv ?_
  refine JL.val rfl rfl rfl (.none rfl) (Ev.lenS rfl Tryd.underlying23) ?_
  refine JL.mv ?_
  refine JL.val rfl rfl rfl (.none rfl) (Ev.lenS rfl Tryd.underlying23) ?_
  refine JL.asg ?_
  refine JL.asg ?_
  refine JL.nil ?_
  refine JQ.thenN ?_
  refine JC.seq ?_
  refine JC.seq ?_
  refine JC.region ?_
  refine JL.mv ?_
  refine JL.callV rfl (.none rfl) rfl Tryd.call11 (fun w1 hw1 => great_any oa us.length ca w1) ?_
  refine JL.mv ?_
  refine JL.split (d := 32) rfl (fun hgA => ?_) (fun hgA => ?_)
  · -- guard 32 true
    refine JL.skip rfl rfl (.noF rfl rfl rfl) ?_
    refine JL.skip rfl rfl (.noF rfl rfl rfl) ?_
    refine JL.val rfl rfl rfl (.none rfl) (Ev.pickT rfl rfl) ?_
    refine JL.mv ?_
    refine JL.skip rfl rfl (.noF rfl rfl rfl) ?_
    refine JL.skip rfl rfl (.noF rfl rfl rfl) ?_
    refine JL.val rfl rfl rfl (.none rfl) (Ev.pickT rfl rfl) ?_
    refine JL.mv ?_
    refine JL.skip rfl rfl (.noF rfl rfl rfl) ?_
    refine JL.skip rfl rfl (.noF rfl rfl rfl) ?_
    refine JL.val rfl rfl rfl (.none rfl) (Ev.pickT rfl rfl) ?_
    refine JL.mv ?_
    refine JL.skip rfl rfl (.noF rfl rfl rfl) ?_
    refine JL.skip rfl rfl (.noF rfl rfl rfl) ?_
    refine JL.skip rfl rfl (.noF rfl rfl rfl) ?_
    refine JL.val rfl rfl rfl (.none rfl) (Ev.pickT rfl rfl) ?_
    refine JL.mv ?_
    refine JL.skip rfl rfl (.noF rfl rfl rfl) ?_
    refine JL.skip rfl rfl (.noF rfl rfl rfl) ?_
    refine JL.val rfl rfl rfl (.none rfl) (Ev.pickT rfl rfl) ?_
    refine JL.nil ?_
    refine JQ.thenN ?_
    refine JC.condT rfl ?_
    refine JC.seq ?_
    refine JC.region ?_
    refine JL.mv ?_
    refine JL.asg ?_
    refine JL.nil ?_
    refine JQ.thenN ?_
    refine JC.ret ?_
    refine JQ.thenR ?_
    refine JQ.end1 (H' := []) (.inl rfl) rfl (.tmp rfl) ?_ ?_
    · exact Sub.k
    · first | rfl | exact congrArg Value.bool (by rw [decide_eq_false hcS]; rfl)
  · -- guard 32 false
    have ha130 : ¬ 130 < (us.length : Int) := of_decide_eq_false hgA
    refine JL.val rfl rfl rfl (.yes rfl rfl rfl) (Ev.move rfl) ?_
    refine JL.callV rfl (.yes rfl rfl rfl) rfl Tryd.call11 (fun w1 hw1 => great_any ob bs.length cb w1) ?_
    refine JL.val rfl rfl rfl (.none rfl) (Ev.pickF rfl rfl) ?_
    refine JL.mv ?_
    refine JL.split (d := 36) rfl (fun hgB => ?_) (fun hgB => ?_)
    · -- guard 36 true
      refine JL.skip rfl rfl (.noF rfl rfl rfl) ?_
      refine JL.skip rfl rfl (.noF rfl rfl rfl) ?_
      refine JL.val rfl rfl rfl (.none rfl) (Ev.pickT rfl rfl) ?_
      refine JL.mv ?_
      refine JL.skip rfl rfl (.noF rfl rfl rfl) ?_
      refine JL.skip rfl rfl (.noF rfl rfl rfl) ?_
      refine JL.val rfl rfl rfl (.none rfl) (Ev.pickT rfl rfl) ?_
      refine JL.mv ?_
      refine JL.skip rfl rfl (.noF rfl rfl rfl) ?_
      refine JL.skip rfl rfl (.noF rfl rfl rfl) ?_
      refine JL.skip rfl rfl (.noF rfl rfl rfl) ?_
      refine JL.val rfl rfl rfl (.none rfl) (Ev.pickT rfl rfl) ?_
      refine JL.mv ?_
      refine JL.skip rfl rfl (.noF rfl rfl rfl) ?_
      refine JL.skip rfl rfl (.noF rfl rfl rfl) ?_
      refine JL.val rfl rfl rfl (.none rfl) (Ev.pickT rfl rfl) ?_
      refine JL.nil ?_
      refine JQ.thenN ?_
      refine JC.condT rfl ?_
      refine JC.seq ?_
      refine JC.region ?_
      refine JL.mv ?_
      refine JL.asg ?_
      refine JL.nil ?_
      refine JQ.thenN ?_
      refine JC.ret ?_
      refine JQ.thenR ?_
      refine JQ.end1 (H' := []) (.inl rfl) rfl (.tmp rfl) ?_ ?_
      · exact Sub.k
      · first | rfl | exact congrArg Value.bool (by rw [decide_eq_false hcS]; rfl)
    · -- guard 36 false
      have hb130 : ¬ 130 < (bs.length : Int) := of_decide_eq_false hgB
      refine JL.val rfl rfl rfl (.yes rfl rfl rfl) (Ev.move rfl) ?_
      refine JL.callV rfl (.yes rfl rfl rfl) rfl Tryd.call11 (fun w1 hw1 => great_any oc ps.length cc w1) ?_
      refine JL.val rfl rfl rfl (.none rfl) (Ev.pickF rfl rfl) ?_
      refine JL.mv ?_
      refine JL.split (d := 40) rfl (fun hgC => ?_) (fun hgC => ?_)
      · -- guard 40 true
        refine JL.skip rfl rfl (.noF rfl rfl rfl) ?_
        refine JL.skip rfl rfl (.noF rfl rfl rfl) ?_
        refine JL.val rfl rfl rfl (.none rfl) (Ev.pickT rfl rfl) ?_
        refine JL.mv ?_
        refine JL.skip rfl rfl (.noF rfl rfl rfl) ?_
        refine JL.skip rfl rfl (.noF rfl rfl rfl) ?_
        refine JL.skip rfl rfl (.noF rfl rfl rfl) ?_
        refine JL.val rfl rfl rfl (.none rfl) (Ev.pickT rfl rfl) ?_
        refine JL.mv ?_
        refine JL.skip rfl rfl (.noF rfl rfl rfl) ?_
        refine JL.skip rfl rfl (.noF rfl rfl rfl) ?_
        refine JL.val rfl rfl rfl (.none rfl) (Ev.pickT rfl rfl) ?_
        refine JL.nil ?_
        refine JQ.thenN ?_
        refine JC.condT rfl ?_
        refine JC.seq ?_
        refine JC.region ?_
        refine JL.mv ?_
        refine JL.asg ?_
        refine JL.nil ?_
        refine JQ.thenN ?_
        refine JC.ret ?_
        refine JQ.thenR ?_
        refine JQ.end1 (H' := []) (.inl rfl) rfl (.tmp rfl) ?_ ?_
        · exact Sub.k
        · first | rfl | exact congrArg Value.bool (by rw [decide_eq_false hcS]; rfl)
      · -- guard 40 false
        have hp130 : ¬ 130 < (ps.length : Int) := of_decide_eq_false hgC
        refine JL.val rfl rfl rfl (.yes rfl rfl rfl) (Ev.move rfl) ?_
        refine JL.val rfl rfl rfl (.yes rfl rfl rfl) (Ev.bin rfl rfl lss_int) ?_
        refine JL.val rfl rfl rfl (.none rfl) (Ev.pickF rfl rfl) ?_
        refine JL.mv ?_
        refine JL.split (d := 44) rfl (fun hgD => ?_) (fun hgD => ?_)
        · -- guard 44 true
          refine JL.skip rfl rfl (.noF rfl rfl rfl) ?_
          refine JL.skip rfl rfl (.noF rfl rfl rfl) ?_
          refine JL.skip rfl rfl (.noF rfl rfl rfl) ?_
          refine JL.val rfl rfl rfl (.none rfl) (Ev.pickT rfl rfl) ?_
          refine JL.mv ?_
          refine JL.skip rfl rfl (.noF rfl rfl rfl) ?_
          refine JL.skip rfl rfl (.noF rfl rfl rfl) ?_
          refine JL.val rfl rfl rfl (.none rfl) (Ev.pickT rfl rfl) ?_
          refine JL.nil ?_
          refine JQ.thenN ?_
          refine JC.condT rfl ?_
          refine JC.seq ?_
          refine JC.region ?_
          refine JL.mv ?_
          refine JL.asg ?_
          refine JL.nil ?_
          refine JQ.thenN ?_
          refine JC.ret ?_
          refine JQ.thenR ?_
          refine JQ.end1 (H' := []) (.inl rfl) rfl (.tmp rfl) ?_ ?_
          · exact Sub.k
          · first | rfl | exact congrArg Value.bool (by rw [decide_eq_false hcS]; rfl)
        · -- guard 44 false
          have hm1 : 1 ≤ us.length := by have := of_decide_eq_false hgD; omega
          refine JL.val rfl rfl rfl (.yes rfl rfl rfl) (Ev.move rfl) ?_
          refine JL.val rfl rfl rfl (.yes rfl rfl rfl) (Ev.move rfl) ?_
          refine JL.val rfl rfl rfl (.yes rfl rfl rfl) (Ev.bin rfl rfl gtr_int) ?_
          refine JL.val rfl rfl rfl (.none rfl) (Ev.pickF rfl rfl) ?_
          refine JL.mv ?_
          refine JL.split (d := 49) rfl (fun hgE => ?_) (fun hgE => ?_)
          · -- guard 49 true
            refine JL.skip rfl rfl (.noF rfl rfl rfl) ?_
            refine JL.skip rfl rfl (.noF rfl rfl rfl) ?_
            refine JL.val rfl rfl rfl (.none rfl) (Ev.pickT rfl rfl) ?_
            refine JL.nil ?_
            refine JQ.thenN ?_
            refine JC.condT rfl ?_
            refine JC.seq ?_
            refine JC.region ?_
            refine JL.mv ?_
            refine JL.asg ?_
            refine JL.nil ?_
            refine JQ.thenN ?_
            refine JC.ret ?_
            refine JQ.thenR ?_
            refine JQ.end1 (H' := []) (.inl rfl) rfl (.tmp rfl) ?_ ?_
            · exact Sub.k
            · first | rfl | exact congrArg Value.bool (by rw [decide_eq_false hcS]; rfl)
          · -- guard 49 false
            have hm2 : us.length ≤ bs.length := by have := of_decide_eq_false hgE; omega
            have hokc : ¬ badC (us.length : Int) (bs.length : Int) := by unfold badC; omega
            have hsa : ¬ 1024 < us.length := by omega
            have hsb : ¬ 1024 < bs.length := by omega
            have htk : (bs.take us.length).length = us.length := by rw [List.length_take]; omega
            obtain ⟨pe0, ppl, _, _, _, _, _, _⟩ := accept_ok (ds := bs) (n := us.length) (N := bs.length) rfl hm1 hm2 hsb
            obtain ⟨ab, rfl⟩ := Cs.get_some hb (by omega)
            refine JL.val rfl rfl rfl (.yes rfl rfl rfl) (Ev.move rfl) ?_
            refine JL.val rfl rfl rfl (.yes rfl rfl rfl) (Ev.not rfl) ?_
            refine JL.val rfl rfl rfl (.none rfl) (Ev.pickF rfl rfl) ?_
            refine JL.nil ?_
            refine JQ.thenN ?_
            refine JC.knowF rfl ?_ ?_
            · rfl
            refine JC.skip ?_
            refine JQ.thenN ?_
            refine JC.seq ?_
            refine JC.region ?_
            refine JL.mv ?_
            refine JL.callV rfl (.none rfl) rfl Tryd.call29 (fun w1 hw1 => Root_any oa ca us w1 (ha.old hw1) (by omega) (hk.old hw1) (hf.old hw1)) ?_
            refine JL.mv ?_
            refine JL.val rfl rfl rfl (.none rfl) (Ev.ex0 rfl) ?_
            refine JL.val rfl rfl rfl (.none rfl) (Ev.ex1 rfl) ?_
            refine JL.new rfl rfl rfl (.none rfl) (En.allocZ (cs := arr8 (List.replicate 32 0)) Tryd.zeroValue22 rfl) (fun b10 hb10 => ?_)
            refine JL.sto rfl rfl (.none rfl) (Es.sA Tryd.sizeOf22) ?_
            refine JL.asg ?_
            refine JL.nil ?_
            refine JQ.thenN ?_
            refine JC.seq ?_
            refine JC.region ?_
            refine JL.mv ?_
            refine JL.callV rfl (.none rfl) rfl Tryd.call29 (fun w1 hw1 => Root_any (some ab) cb bs w1 (hb.old hw1) (by omega) (hk.old hw1) (hf.old hw1)) ?_
            refine JL.mv ?_
            refine JL.val rfl rfl rfl (.none rfl) (Ev.ex0 rfl) ?_
            refine JL.val rfl rfl rfl (.none rfl) (Ev.ex1 rfl) ?_
            refine JL.new rfl rfl rfl (.none rfl) (En.allocZ (cs := arr8 (List.replicate 32 0)) Tryd.zeroValue22 rfl) (fun b12 hb12 => ?_)
            refine JL.sto rfl rfl (.none rfl) (Es.sA Tryd.sizeOf22) ?_
            refine JL.asg ?_
            refine JL.nil ?_
            refine JQ.thenN ?_
            refine JC.seq ?_
            refine JC.region ?_
            refine JL.mv ?_
            refine JL.mv ?_
            refine JL.val rfl rfl rfl (.none rfl) (Ev.lB Tryd.underlying22 Tryd.sizeOf22) ?_
            refine JL.val rfl rfl rfl (.none rfl) (Ev.lB Tryd.underlying22 Tryd.sizeOf22) ?_
            refine JL.mv ?_
            refine JL.callV rfl (.none rfl) rfl Tryd.call14 (fun w1 hw1 => cVerify_any (rootV us) (rootV bs) (us.length : Int) (bs.length : Int) (by constructor <;> omega) (by constructor <;> omega) oc cc ps w1 (hp.old hw1) (hk.old hw1) (hf.old hw1)) ?_
            refine JL.mv ?_
            refine JL.val rfl rfl rfl (.none rfl) (Ev.ex0 rfl) ?_
            refine JL.val rfl rfl rfl (.none rfl) (Ev.ex1 rfl) ?_
            refine JL.asg ?_
            refine JL.asg ?_
            refine JL.nil ?_
            refine JQ.thenN ?_
            refine JC.seq ?_
            refine JC.seq ?_
            refine JC.region ?_
            refine JL.re (d := 11) (v' := .int .i64 0) rfl (congrArg (Value.int .i64) (rootE_ok hsa)) ?_
            refine JL.re (d := 13) (v' := .int .i64 0) rfl (congrArg (Value.int .i64) (rootE_ok hsb)) ?_
            refine JL.re (d := 15) (v' := .int .i64 0) rfl (congrArg (Value.int .i64) (vcE_ok (fcE_not hokc))) ?_
            refine JL.mv ?_
            refine JL.val rfl rfl rfl (.none rfl) (Ev.bin rfl rfl neq_int) ?_
            refine JL.mv ?_
            refine JL.know (d := 75) (b := false) rfl ?_ ?_
            · rfl
            refine JL.val rfl rfl rfl (.yes rfl rfl rfl) (Ev.move rfl) ?_
            refine JL.val rfl rfl rfl (.yes rfl rfl rfl) (Ev.bin rfl rfl neq_int) ?_
            refine JL.val rfl rfl rfl (.none rfl) (Ev.pickF rfl rfl) ?_
            refine JL.mv ?_
            refine JL.know (d := 79) (b := false) rfl ?_ ?_
            · rfl
            refine JL.val rfl rfl rfl (.yes rfl rfl rfl) (Ev.move rfl) ?_
            refine JL.val rfl rfl rfl (.yes rfl rfl rfl) (Ev.bin rfl rfl neq_int) ?_
            refine JL.val rfl rfl rfl (.none rfl) (Ev.pickF rfl rfl) ?_
            refine JL.nil ?_
            refine JQ.thenN ?_
            refine JC.knowF rfl ?_ ?_
            · rfl
            refine JC.skip ?_
            refine JQ.thenN ?_
            refine JC.seq ?_
            refine JC.seq ?_
            refine JC.region ?_
            refine JL.mv ?_
            refine JL.val rfl rfl rfl (.none rfl) (Ev.not rfl) ?_
            refine JL.mv ?_
            refine JL.split (d := 85) rfl (fun hgF => ?_) (fun hgF => ?_)
            · -- guard 85 true
              refine JL.skip rfl rfl (.noF rfl rfl rfl) ?_
              refine JL.skip rfl rfl (.noF rfl rfl rfl) ?_
              refine JL.skip rfl rfl (.noF rfl rfl rfl) ?_
              refine JL.skip rfl rfl (.noF rfl rfl rfl) ?_
              refine JL.skip rfl rfl (.noF rfl rfl rfl) ?_
              refine JL.val rfl rfl rfl (.none rfl) (Ev.pickT rfl rfl) ?_
              refine JL.nil ?_
              refine JQ.thenN ?_
              refine JC.condT rfl ?_
              refine JC.seq ?_
              refine JC.region ?_
              refine JL.mv ?_
              refine JL.asg ?_
              refine JL.nil ?_
              refine JQ.thenN ?_
              refine JC.ret ?_
              refine JQ.thenR ?_
              refine JQ.end1 (H' := []) (.inl rfl) rfl (.tmp rfl) ?_ ?_
              · exact Sub.k
              · first | rfl | exact congrArg Value.bool (by rw [decide_eq_false hcS]; rfl)
            · -- guard 85 false
              have hvt : vcV (rootV us) (rootV bs) (us.length : Int) (bs.length : Int) ps = true := by simpa using hgF
              obtain ⟨hpl, hled⟩ := vc_true hokc hvt
              refine JL.val rfl rfl rfl (.yes rfl rfl rfl) (Ev.move rfl) ?_
              refine JL.val rfl rfl rfl (.yes rfl rfl rfl) (Ev.move rfl) ?_
              refine JL.val rfl rfl rfl (.yes rfl rfl rfl) (Ev.move rfl) ?_
              refine JL.val rfl rfl rfl (.yes rfl rfl rfl) (Ev.cast (v' := .slice (some ab) (bs.take us.length).length cb) (by rw [sub3_0, htk]) (Ev.sliceHi rfl rfl Tryd.underlying23 Tryd.sizeOf22 (h := us.length) rfl (by have := hb.le; omega))) ?_
              refine JL.callV rfl (.yes rfl rfl rfl) rfl Tryd.call21 (fun w1 hw1 => dSame_any oa (some ab) ca cb us (bs.take us.length) w1 (ha.old hw1) (Dl.take (hb.old hw1) (by omega)) (by omega)) ?_
              refine JL.val rfl rfl rfl (.none rfl) (Ev.pickF rfl rfl) ?_
              refine JL.nil ?_
              refine JQ.thenN ?_
              refine JC.cond rfl (fun hcS => ?_) (fun hcS => ?_)
              · -- t91 True
                replace hcS := of_decide_eq_true hcS
                refine JC.seq ?_
                refine JC.region ?_
                refine JL.mv ?_
                refine JL.asg ?_
                refine JL.nil ?_
                refine JQ.thenN ?_
                refine JC.ret ?_
                refine JQ.thenR ?_
                refine JQ.end1 (H' := []) (.inl rfl) rfl (.tmp rfl) ?_ ?_
                · exact Sub.k
                · first | rfl | exact congrArg Value.bool (by rw [decide_eq_false hcS]; rfl)
              · -- t91 False
                replace hcS := of_decide_eq_false hcS
                refine JC.skip ?_
                refine JQ.thenN ?_
                refine JC.seq ?_
                refine JC.region ?_
                refine JL.mv ?_
                refine JL.mv ?_
                refine JL.val rfl rfl rfl (.none rfl) (Ev.cast (v' := .slice (some ab) (bs.take us.length).length cb) (by rw [sub3_0, htk]) (Ev.sliceHi rfl rfl Tryd.underlying23 Tryd.sizeOf22 (h := us.length) rfl (by have := hb.le; omega))) ?_
                refine JL.callV rfl (.none rfl) rfl Tryd.call29 (fun w1 hw1 => Root_any (some ab) cb (bs.take us.length) w1 (Dl.take (hb.old hw1) (by omega)) (by omega) (hk.old hw1) (hf.old hw1)) ?_
                refine JL.mv ?_
                refine JL.val rfl rfl rfl (.none rfl) (Ev.ex0 rfl) ?_
                refine JL.val rfl rfl rfl (.none rfl) (Ev.ex1 rfl) ?_
                refine JL.new rfl rfl rfl (.none rfl) (En.allocZ (cs := arr8 (List.replicate 32 0)) Tryd.zeroValue22 rfl) (fun b16 hb16 => ?_)
                refine JL.sto rfl rfl (.none rfl) (Es.sA Tryd.sizeOf22) ?_
                refine JL.asg ?_
                refine JL.nil ?_
                refine JQ.thenN ?_
                refine JC.seq ?_
                refine JC.region ?_
                refine JL.mv ?_
                refine JL.mv ?_
                refine JL.callN rfl (.none rfl) rfl Tryd.call17 (fun w1 hw1 => cProve_any (some ab) cb bs (us.length : Int) (by constructor <;> omega) w1 (hb.old hw1) (hk.old hw1) (hf.old hw1)) ?_
                rintro _ _ ⟨r4, rfl, rfl, hr4⟩
                refine JL.mv ?_
                refine JL.val rfl rfl rfl (.none rfl) (Ev.ex0 rfl) ?_
                refine JL.val rfl rfl rfl (.none rfl) (Ev.ex1 rfl) ?_
                refine JL.asg ?_
                refine JL.asg ?_
                refine JL.nil ?_
                refine JQ.thenN ?_
                refine JC.seq ?_
                refine JC.seq ?_
                refine JC.region ?_
                refine JL.re (d := 17) (v' := .int .i64 0) rfl (congrArg (Value.int .i64) (rootE_ok (by omega))) ?_
                refine JL.re (d := 19) (v' := .int .i64 0) rfl (congrArg (Value.int .i64) (pe0)) ?_
                obtain ⟨o4, c4, e4, hn4, hC4⟩ := Row.vw (e := 22) hr4
                refine JL.re (d := 18) rfl e4 ?_
                refine JL.mv ?_
                refine JL.val rfl rfl rfl (.none rfl) (Ev.bin rfl rfl neq_int) ?_
                refine JL.mv ?_
                refine JL.know (d := 108) (b := false) rfl ?_ ?_
                · rfl
                refine JL.val rfl rfl rfl (.yes rfl rfl rfl) (Ev.move rfl) ?_
                refine JL.val rfl rfl rfl (.yes rfl rfl rfl) (Ev.bin rfl rfl neq_int) ?_
                refine JL.val rfl rfl rfl (.none rfl) (Ev.pickF rfl rfl) ?_
                refine JL.mv ?_
                refine JL.know (d := 112) (b := false) rfl ?_ ?_
                · rfl
                refine JL.val rfl rfl rfl (.yes rfl rfl rfl) (Ev.move rfl) ?_
                refine JL.val rfl rfl rfl (.yes rfl rfl rfl) (Ev.lenS rfl Tryd.underlying23) ?_
                refine JL.val rfl rfl rfl (.yes rfl rfl rfl) (Ev.move rfl) ?_
                refine JL.val rfl rfl rfl (.yes rfl rfl rfl) (Ev.lenS rfl Tryd.underlying23) ?_
                refine JL.val rfl rfl rfl (.yes rfl rfl rfl) (Ev.bin rfl rfl neq_int) ?_
                refine JL.val rfl rfl rfl (.none rfl) (Ev.pickF rfl rfl) ?_
                refine JL.nil ?_
                refine JQ.thenN ?_
                refine JC.knowF rfl ?_ ?_
                · exact decide_eq_false (by rw [ppl, hpl]; simp)
                refine JC.skip ?_
                refine JQ.thenN ?_
                refine JC.seq ?_
                refine JC.region ?_
                refine JL.mv ?_
                refine JL.mv ?_
                refine JL.val rfl rfl rfl (.none rfl) (Ev.lB Tryd.underlying22 Tryd.sizeOf22) ?_
                refine JL.mv ?_
                refine JL.callN rfl (.none rfl) rfl Tryd.call30 (fun w1 hw1 => pairsC_any (rootV us) us.length bs.length true oc cc ps w1 hm1 hm2 (by omega) (hp.old hw1) hpl (hk.old hw1) (hf.old hw1)) ?_
                rintro _ _ ⟨r5, rfl, rfl, hr5⟩
                refine JL.mv ?_
                refine JL.val rfl rfl rfl (.none rfl) (Ev.ex0 rfl) ?_
                refine JL.val rfl rfl rfl (.none rfl) (Ev.ex1 rfl) ?_
                refine JL.new rfl rfl rfl (.none rfl) (En.allocZ (cs := arr8 (List.replicate 32 0)) Tryd.zeroValue22 rfl) (fun b21 hb21 => ?_)
                refine JL.asg ?_
                refine JL.sto rfl rfl (.none rfl) (Es.sA Tryd.sizeOf22) ?_
                refine JL.nil ?_
                refine JQ.thenN ?_
                refine JC.seq ?_
                refine JC.region ?_
                refine JL.mv ?_
                refine JL.mv ?_
                refine JL.val rfl rfl rfl (.none rfl) (Ev.lB Tryd.underlying22 Tryd.sizeOf22) ?_
                refine JL.mv ?_
                refine JL.callN rfl (.none rfl) rfl Tryd.call30 (fun w1 hw1 => pairsC_any (rootV (bs.take us.length)) us.length bs.length true o4 c4 (prV bs (us.length : Int)) w1 hm1 hm2 (by omega) (hC4 w1 hw1 (fun p hp => by simp [hp])) ppl (hk.old hw1) (hf.old hw1)) ?_
                rintro _ _ ⟨r6, rfl, rfl, hr6⟩
                refine JL.mv ?_
                refine JL.val rfl rfl rfl (.none rfl) (Ev.ex0 rfl) ?_
                refine JL.val rfl rfl rfl (.none rfl) (Ev.ex1 rfl) ?_
                refine JL.new rfl rfl rfl (.none rfl) (En.allocZ (cs := arr8 (List.replicate 32 0)) Tryd.zeroValue22 rfl) (fun b23 hb23 => ?_)
                refine JL.asg ?_
                refine JL.sto rfl rfl (.none rfl) (Es.sA Tryd.sizeOf22) ?_
                refine JL.nil ?_
                refine JQ.thenN ?_
                refine JC.seq ?_
                refine JC.seq ?_
                refine JC.region ?_
                obtain ⟨o5, c5, e5, hn5, hC5⟩ := Row.vw (e := 60) hr5
                refine JL.re (d := 20) rfl e5 ?_
                obtain ⟨o6, c6, e6, hn6, hC6⟩ := Row.vw (e := 60) hr6
                refine JL.re (d := 22) rfl e6 ?_
                have hlen2 : (pairsR us.length bs.length true (rootV us) ps).1.length = (pairsR us.length bs.length true (rootV (bs.take us.length)) (prV bs (us.length : Int))).1.length := pairs_len _ _ _ _ _ _ _ _ (Nat.le_refl _) hm1 hm2 hpl ppl
                have hlw := pairsC_le bs.length us.length bs.length true (rootV us) ps (Nat.le_refl _) hm1 hm2
                refine JL.asg ?_
                refine JL.nil ?_
                refine JQ.thenN ?_
                refine JC.block ?_
                refine JC.loop (X := Nat)
                  (fun k => [(0, .slice oa us.length ca), (1, .slice (some ab) bs.length cb), (7, .bool true), (8, .int .i64 (us.length : Int)), (20, .slice o5 (pairsR us.length bs.length true (rootV us) ps).1.length c5), (22, .slice o6 (pairsR us.length bs.length true (rootV (bs.take us.length)) (prV bs (us.length : Int))).1.length c6), (24, .int .i64 (k : Int))])
                  (fun k => Row.b 60 r5 ++ Row.b 60 r6)
                  (fun k => k ≤ (pairsR us.length bs.length true (rootV us) ps).1.length ∧ ∀ j a b, j < k → (pairsR us.length bs.length true (rootV us) ps).1[j]? = some a → (pairsR us.length bs.length true (rootV (bs.take us.length)) (prV bs (us.length : Int))).1[j]? = some b → clashP a b = false)
                  (fun k => (pairsR us.length bs.length true (rootV us) ps).1.length - k) 0 ?_ ?_ ?_ ?_
                · exact Keeps.k
                · exact Sub.of_cnt (fun a => by (try dsimp only); simp only [cntA]; omega)
                · exact ⟨Nat.zero_le _, fun j a b hj => by omega⟩
                rintro k ⟨hkk, hnc⟩
                refine JC.seq ?_
                refine JC.seq ?_
                refine JC.region ?_
                refine JL.mv ?_
                refine JL.mv ?_
                refine JL.val rfl rfl rfl (.none rfl) (Ev.lenS rfl Tryd.underlying56) ?_
                refine JL.val rfl rfl rfl (.none rfl) (Ev.bin rfl rfl lss_int) ?_
                refine JL.mv ?_
                refine JL.split (d := 139) rfl (fun hgK => ?_) (fun hgK => ?_)
                · -- guard 139 true
                  have hkl : k < (pairsR us.length bs.length true (rootV us) ps).1.length := by have := of_decide_eq_true hgK; omega
                  refine JL.val rfl rfl rfl (.yes rfl rfl rfl) (Ev.move rfl) ?_
                  refine JL.val rfl rfl rfl (.yes rfl rfl rfl) (Ev.move rfl) ?_
                  refine JL.val rfl rfl rfl (.yes rfl rfl rfl) (Ev.lenS rfl Tryd.underlying56) ?_
                  refine JL.val rfl rfl rfl (.yes rfl rfl rfl) (Ev.bin rfl rfl lss_int) ?_
                  refine JL.val rfl rfl rfl (.none rfl) (Ev.pickT rfl rfl) ?_
                  refine JL.nil ?_
                  refine JQ.thenN ?_
                  refine JC.knowT rfl ?_ ?_
                  · exact decide_eq_true (by omega)
                  refine JC.skip ?_
                  refine JQ.thenN ?_
                  refine JC.seq ?_
                  refine JC.block ?_
                  refine JC.seq ?_
                  obtain ⟨E, hE⟩ := get_some (l := (pairsR us.length bs.length true (rootV us) ps).1) (k := k) hkl
                  obtain ⟨F, hF⟩ := get_some (l := (pairsR us.length bs.length true (rootV (bs.take us.length)) (prV bs (us.length : Int))).1) (k := k) (by omega)
                  obtain ⟨a5, rfl⟩ : ∃ a, o5 = some a := by cases o5 with | none => (have := hn5 rfl; omega) | some a => exact ⟨a, rfl⟩
                  obtain ⟨a6, rfl⟩ : ∃ a, o6 = some a := by cases o6 with | none => (have := hn6 rfl; omega) | some a => exact ⟨a, rfl⟩
                  refine JC.regionQ (by kernel_rfl) (by kernel_rfl) ?_
                  refine JW.val rfl rfl (.none rfl) (Ev.move rfl) ?_
                  refine JW.val rfl rfl (.none rfl) (Ev.move rfl) ?_
                  refine JW.val rfl rfl (.none rfl) (Ev.idxS rfl rfl Tryd.underlying56 Tryd.sizeOf60 (k := k) rfl (by omega)) ?_
                  refine JW.val rfl rfl (.none rfl) (Ev.loadA (l := fp [E]) rfl Tryd.underlying60 rfl Tryd.sizeOf60 (fun w1 hw1 => ((hC5 w1 hw1 (fun p hp => by simp [hp])).mem a5 rfl).pairA hE) (fp_length _)) ?_
                  refine JW.val rfl rfl (.none rfl) (Ev.move rfl) ?_
                  refine JW.val rfl rfl (.none rfl) (Ev.move rfl) ?_
                  refine JW.val rfl rfl (.none rfl) (Ev.idxS rfl rfl Tryd.underlying56 Tryd.sizeOf60 (k := k) rfl (by omega)) ?_
                  refine JW.val rfl rfl (.none rfl) (Ev.loadA (l := fp [F]) rfl Tryd.underlying60 rfl Tryd.sizeOf60 (fun w1 hw1 => ((hC6 w1 hw1 (fun p hp => by simp [hp])).mem a6 rfl).pairA hF) (fp_length _)) ?_
                  refine JW.call rfl (.none rfl) rfl Tryd.call31 (fun w1 hw1 => cclash_any E F w1 (hk.old hw1) (hf.old hw1)) ?_
                  refine JW.nilQ ?_
                  refine JQ.thenN ?_
                  refine JC.cond rfl (fun hcl => ?_) (fun hcl => ?_)
                  · -- t155 True
                    refine JC.seq ?_
                    refine JC.region ?_
                    refine JL.mv ?_
                    refine JL.asg ?_
                    refine JL.nil ?_
                    refine JQ.thenN ?_
                    refine JC.ret ?_
                    refine JQ.blockR ?_
                    refine JQ.thenR ?_
                    refine JQ.thenR ?_
                    refine JQ.blockR ?_
                    refine JQ.thenR ?_
                    refine JQ.end1 (H' := []) (.inl rfl) rfl (.tmp rfl) ?_ ?_
                    · exact Sub.k
                    · first | rfl | exact congrArg Value.bool (by rw [decide_eq_false hcS]; rfl)
                  · -- t155 False
                    refine JC.skip ?_
                    refine JQ.blockN ?_
                    refine JQ.thenN ?_
                    refine JC.region ?_
                    refine JL.mv ?_
                    refine JL.val rfl rfl rfl (.none rfl) (Ev.bin rfl rfl (add_i64 (by omega))) ?_
                    refine JL.asg ?_
                    refine JL.nil ?_
                    refine JQ.loopN (k + 1) ?_ ?_ ?_ ?_
                    · exact Keeps.k
                    · exact Sub.of_cnt (fun a => by (try dsimp only); simp only [cntA]; omega)
                    · exact ⟨by omega, nc_succ hnc hE hF hcl⟩
                    · show (pairsR us.length bs.length true (rootV us) ps).1.length - (k + 1) < (pairsR us.length bs.length true (rootV us) ps).1.length - k; omega
                · -- guard 139 false
                  have hkl : k = (pairsR us.length bs.length true (rootV us) ps).1.length := by have := of_decide_eq_false hgK; omega
                  have hroots := no_clash_root hm1 hm2 hsb hpl hled (hkl ▸ hnc)
                  refine JL.skip rfl rfl (.noT rfl rfl rfl) ?_
                  refine JL.skip rfl rfl (.noT rfl rfl rfl) ?_
                  refine JL.skip rfl rfl (.noT rfl rfl rfl) ?_
                  refine JL.skip rfl rfl (.noT rfl rfl rfl) ?_
                  refine JL.val rfl rfl rfl (.none rfl) (Ev.pickF rfl rfl) ?_
                  refine JL.nil ?_
                  refine JQ.thenN ?_
                  refine JC.condF rfl ?_
                  refine JC.exit ?_
                  refine JQ.thenE ?_
                  refine JQ.thenE ?_
                  refine JQ.blockE ?_
                  refine JQ.thenN ?_
                  refine JC.seq ?_
                  refine JC.region ?_
                  refine JL.mv ?_
                  refine JL.mv ?_
                  refine JL.mv ?_
                  refine JL.val rfl rfl rfl (.none rfl) (Ev.cast (v' := .slice (some ab) (bs.take us.length).length cb) (by rw [sub3_0, htk]) (Ev.sliceHi rfl rfl Tryd.underlying23 Tryd.sizeOf22 (h := us.length) rfl (by have := hb.le; omega))) ?_
                  refine JL.callV rfl (.none rfl) rfl Tryd.call32 (fun w1 hw1 => cfound_any oa (some ab) ca cb us (bs.take us.length) w1 (ha.old hw1) (Dl.take (hb.old hw1) (by omega)) (by omega) hroots (by omega) (hk.old hw1) (hf.old hw1)) ?_
                  refine JL.asg ?_
                  refine JL.nil ?_
                  refine JQ.thenN ?_
                  refine JC.ret ?_
                  refine JQ.end1 (H' := []) (.inl rfl) rfl (.tmp rfl) ?_ ?_
                  · exact Sub.k
                  · first | rfl | exact congrArg Value.bool (by rw [decide_eq_false hcS]; rfl)

end Go.Proofs.YtimegpilihfghaaDoor
