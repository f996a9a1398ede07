/-
  The law of samples continued.
-/
import Derived.Test.YtjjoenbighmfoaaDoorSmp8Px
namespace Go.Proofs.YtjjoenbighmfoaaDoor
open Go Go.RowKit
set_option maxRecDepth 100000

section
variable {s : List UInt8} {f : UInt32} {many : Int} {ss : List Int} {m : UInt64} {A B : Nat}
theorem posE_zero (h : posE s f many ss = 0) : okZ ss ∧ allP ss ≠ [] ∧ sampE s f many (NZ ss) = 0 := by
  by_cases h1 : okZ ss
  · by_cases h2 : allP ss = []
    · rw [posE_nil h1 h2] at h; cases h
    · exact ⟨h1, h2, by rw [posE_ok h1 h2] at h; exact h⟩
  · rw [posE_bad h1] at h
    exact absurd (mayE_zero h) h1
theorem posV_err (h : posE s f many ss ≠ 0) : posV s f many ss = [] := by
  by_cases h1 : okZ ss
  · by_cases h2 : allP ss = []
    · exact posV_nil h2
    · rw [posE_ok h1 h2] at h
      rw [posV_ok h1 h2, sampL_err h]
      rfl
  · exact posV_bad h1
theorem add_ofNat (f : UInt32) (A k : Nat) : f + UInt32.ofNat A + UInt32.ofNat k = f + UInt32.ofNat (A + k) := by
  rw [UInt32.add_assoc, UInt32.ofNat_add]
theorem draws_add (s : List UInt8) (f : UInt32) (m : UInt64) (A B : Nat) : draws s f m (A + B) = draws s f m A ++ draws s (f + UInt32.ofNat A) m B := by
  have e : (List.map (fun x => A + x) (List.range B)).map (fun k => drawnV s (f + UInt32.ofNat k) m) = (List.range B).map (fun k => drawnV s (f + UInt32.ofNat A + UInt32.ofNat k) m) := by
    rw [List.map_map]
    exact List.map_congr_left (fun k _ => by simp only [Function.comp]; rw [add_ofNat])
  unfold draws
  rw [List.range_add, List.map_append, e]
theorem toNat_add (hf : f.toNat ≤ 2147483648) (hA : A ≤ 60) : (f + UInt32.ofNat A).toNat = f.toNat + A := by
  have e : (UInt32.ofNat A).toNat = A := by
    rw [UInt32.toNat_ofNat']
    exact Nat.mod_eq_of_lt (by omega)
  rw [UInt32.toNat_add, e]
  exact Nat.mod_eq_of_lt (by omega)
/-- What a sample without error is. -/
theorem pos_zero {n : Nat} (h : posE s f (n : Int) ss = 0) : okZ ss ∧ allP ss ≠ [] ∧ ¬ badS f (n : Int) (NZ ss) ∧ n ≤ 4096 ∧ allD s f (NZ ss) n ∧ posV s f (n : Int) ss = (draws s f (NZ ss) n).map (pickP ss) := by
  obtain ⟨h1, h2, h3⟩ := posE_zero h
  obtain ⟨k, hk, h4, h5, h6, h7⟩ := sampE_okay h3
  obtain rfl : n = k := by omega
  exact ⟨h1, h2, h4, h5, h6, by rw [posV_ok h1 h2, h7]⟩
theorem pos_of {n : Nat} (h1 : okZ ss) (h2 : allP ss ≠ []) (h4 : ¬ badS f (n : Int) (NZ ss)) (h5 : n ≤ 4096) (h6 : allD s f (NZ ss) n) : posE s f (n : Int) ss = 0 ∧ posV s f (n : Int) ss = (draws s f (NZ ss) n).map (pickP ss) :=
  ⟨by rw [posE_ok h1 h2, sampE_all h4 h5 h6], by rw [posV_ok h1 h2, sampL_all h4 h5 h6]⟩
theorem pos_num {n : Nat} (h : posE s f (n : Int) ss = 0) : ∀ p ∈ posV s f (n : Int) ss, nuE ss p = 0 := fun p hp => by
  obtain ⟨h1, h2, h3, h4, h5, h6⟩ := pos_zero h
  rw [h6] at hp
  obtain ⟨x, hx, rfl⟩ := List.mem_map.1 hp
  have h7 := sampL_all h3 h4 h5
  have hlt := sampL_lt (sampE_all h3 h4 h5) x (by rw [h7]; exact hx)
  rw [NZ_nat h1] at hlt
  obtain ⟨q, hq⟩ := get_some hlt
  rw [pickP, List.getD_eq_getElem?_getD, hq]
  exact (nu_at h1 hq).2.1
theorem prefix_ok (hf : f.toNat ≤ 2147483648) (hAB : A + B ≤ 60) (h : posE s f ((A + B : Nat) : Int) ss = 0) : posE s f (A : Int) ss = 0 ∧ posE s (f + UInt32.ofNat A) (B : Int) ss = 0 ∧ posV s f (A : Int) ss ++ posV s (f + UInt32.ofNat A) (B : Int) ss = posV s f ((A + B : Nat) : Int) ss ∧ (posV s f ((A + B : Nat) : Int) ss).length = A + B ∧ ∀ p ∈ posV s f ((A + B : Nat) : Int) ss, nuE ss p = 0 := by
  obtain ⟨h1, h2, h3, h4, h5, h6⟩ := pos_zero h
  obtain ⟨hm1, hm2, _⟩ := okS h3
  have ha := toNat_add hf (A := A) (by omega)
  have q1 := pos_of (s := s) (f := f) (n := A) h1 h2 (notBad (by omega) (by omega) (by omega)) (by omega) (fun k hk => h5 k (by omega))
  have q2 := pos_of (s := s) (f := f + UInt32.ofNat A) (n := B) h1 h2 (notBad (by omega) (by omega) (by omega)) (by omega) (fun k hk => by rw [add_ofNat]; exact h5 (A + k) (by omega))
  refine ⟨q1.1, q2.1, ?_, by rw [h6, List.length_map, draws_length], pos_num h⟩
  rw [q1.2, q2.2, h6, draws_add, List.map_append]
end

set_option maxHeartbeats 4000000 in
theorem lawPrefix_any (s : List UInt8) (hsd : s.length = 32) (f : UInt32) (one two : Int) (h1b : -9223372036854775808 ≤ one ∧ one ≤ 9223372036854775807) (h2b : -9223372036854775808 ≤ two ∧ two ≤ 9223372036854775807) (oa : Option Addr) (cap : Nat) (ss : List Int) (w : World) (hs : Cs w oa ss.length cap (ints ss)) (hk : KMem 1 w) (hf : FMem 0 w) :
    Calls Tryd.prog 8 #[.agg (arr8 s), u32 f, .int .i64 one, .int .i64 two, .slice oa ss.length cap] w (Ret w (fun v _ => v = .bool true)) := by
  refine enter (vs := [.agg (arr8 s), u32 f, .int .i64 one, .int .i64 two, .slice oa ss.length cap]) Tryd.func8 rfl Tryd.ntmps8 rfl ?_
  refine JC.seq ?_
  refine JC.region ?_
  refine JL.new rfl rfl rfl (.none rfl) (En.boxA rfl) (fun b5 hb5 => ?_)
  refine JL.asg ?_
  refine JL.nil ?_
  refine JQ.thenN ?_
  refine JC.seq ?_
  refine JC.seq ?_
  refine JC.region ?_
  refine JL.mv ?_
  refine JL.callV rfl (.none rfl) rfl Tryd.call19 (fun w1 hw1 => sgreat_any oa none ss.length 0 cap 0 w1) ?_
  refine JL.mv ?_
  refine JL.split (d := 22) rfl (fun h0 => ?_) (fun h0 => ?_)
  · -- guard 22 true
    have h0 := of_decide_eq_true h0
    refine JL.skip rfl rfl (.noF rfl rfl rfl) ?_
    refine JL.skip rfl rfl (.noF rfl rfl rfl) ?_
    refine JL.val rfl rfl rfl (.none rfl) (Ev.pickT rfl rfl) ?_
    refine JL.mv ?_
    refine JL.skip rfl rfl (.noF rfl rfl rfl) ?_
    refine JL.skip rfl rfl (.noF rfl rfl rfl) ?_
    refine JL.val rfl rfl rfl (.none rfl) (Ev.pickT rfl rfl) ?_
    refine JL.mv ?_
    refine JL.skip rfl rfl (.noF rfl rfl rfl) ?_
    refine JL.skip rfl rfl (.noF rfl rfl rfl) ?_
    refine JL.val rfl rfl rfl (.none rfl) (Ev.pickT rfl rfl) ?_
    refine JL.mv ?_
    refine JL.skip rfl rfl (.noF rfl rfl rfl) ?_
    refine JL.skip rfl rfl (.noF rfl rfl rfl) ?_
    refine JL.val rfl rfl rfl (.none rfl) (Ev.pickT rfl rfl) ?_
    refine JL.mv ?_
    refine JL.skip rfl rfl (.noF rfl rfl rfl) ?_
    refine JL.skip rfl rfl (.noF rfl rfl rfl) ?_
    refine JL.skip rfl rfl (.noF rfl rfl rfl) ?_
    refine JL.skip rfl rfl (.noF rfl rfl rfl) ?_
    refine JL.val rfl rfl rfl (.none rfl) (Ev.pickT rfl rfl) ?_
    refine JL.mv ?_
    refine JL.skip rfl rfl (.noF rfl rfl rfl) ?_
    refine JL.skip rfl rfl (.noF rfl rfl rfl) ?_
    refine JL.val rfl rfl rfl (.none rfl) (Ev.pickT rfl rfl) ?_
    refine JL.nil ?_
    refine JQ.thenN ?_
    refine JC.condT rfl ?_
    refine JC.seq ?_
    refine JC.region ?_
    refine JL.callV rfl (.none rfl) rfl Tryd.call4 (fun w1 hw1 => sExamples_any w1 (hk.old hw1) (hf.old hw1)) ?_
    refine JL.asg ?_
    refine JL.nil ?_
    refine JQ.thenN ?_
    refine JC.ret ?_
    refine JQ.thenR ?_
    refine JQ.end1 (H' := []) (.inl rfl) rfl (.tmp rfl) ?_ ?_
    · exact Sub.k
    · rfl
  · -- guard 22 false
    have h0 := of_decide_eq_false h0
    refine JL.val rfl rfl rfl (.yes rfl rfl rfl) (Ev.move rfl) ?_
    refine JL.val rfl rfl rfl (.yes rfl rfl rfl) (Ev.bin rfl rfl lss_int) ?_
    refine JL.val rfl rfl rfl (.none rfl) (Ev.pickF rfl rfl) ?_
    refine JL.mv ?_
    refine JL.split (d := 26) rfl (fun h1 => ?_) (fun h1 => ?_)
    · -- guard 26 true
      have h1 := of_decide_eq_true h1
      refine JL.skip rfl rfl (.noF rfl rfl rfl) ?_
      refine JL.skip rfl rfl (.noF rfl rfl rfl) ?_
      refine JL.val rfl rfl rfl (.none rfl) (Ev.pickT rfl rfl) ?_
      refine JL.mv ?_
      refine JL.skip rfl rfl (.noF rfl rfl rfl) ?_
      refine JL.skip rfl rfl (.noF rfl rfl rfl) ?_
      refine JL.val rfl rfl rfl (.none rfl) (Ev.pickT rfl rfl) ?_
      refine JL.mv ?_
      refine JL.skip rfl rfl (.noF rfl rfl rfl) ?_
      refine JL.skip rfl rfl (.noF rfl rfl rfl) ?_
      refine JL.val rfl rfl rfl (.none rfl) (Ev.pickT rfl rfl) ?_
      refine JL.mv ?_
      refine JL.skip rfl rfl (.noF rfl rfl rfl) ?_
      refine JL.skip rfl rfl (.noF rfl rfl rfl) ?_
      refine JL.skip rfl rfl (.noF rfl rfl rfl) ?_
      refine JL.skip rfl rfl (.noF rfl rfl rfl) ?_
      refine JL.val rfl rfl rfl (.none rfl) (Ev.pickT rfl rfl) ?_
      refine JL.mv ?_
      refine JL.skip rfl rfl (.noF rfl rfl rfl) ?_
      refine JL.skip rfl rfl (.noF rfl rfl rfl) ?_
      refine JL.val rfl rfl rfl (.none rfl) (Ev.pickT rfl rfl) ?_
      refine JL.nil ?_
      refine JQ.thenN ?_
      refine JC.condT rfl ?_
      refine JC.seq ?_
      refine JC.region ?_
      refine JL.callV rfl (.none rfl) rfl Tryd.call4 (fun w1 hw1 => sExamples_any w1 (hk.old hw1) (hf.old hw1)) ?_
      refine JL.asg ?_
      refine JL.nil ?_
      refine JQ.thenN ?_
      refine JC.ret ?_
      refine JQ.thenR ?_
      refine JQ.end1 (H' := []) (.inl rfl) rfl (.tmp rfl) ?_ ?_
      · exact Sub.k
      · rfl
    · -- guard 26 false
      have h1 := of_decide_eq_false h1
      refine JL.val rfl rfl rfl (.yes rfl rfl rfl) (Ev.move rfl) ?_
      refine JL.val rfl rfl rfl (.yes rfl rfl rfl) (Ev.bin rfl rfl lss_int) ?_
      refine JL.val rfl rfl rfl (.none rfl) (Ev.pickF rfl rfl) ?_
      refine JL.mv ?_
      refine JL.split (d := 30) rfl (fun h2 => ?_) (fun h2 => ?_)
      · -- guard 30 true
        have h2 := of_decide_eq_true h2
        refine JL.skip rfl rfl (.noF rfl rfl rfl) ?_
        refine JL.skip rfl rfl (.noF rfl rfl rfl) ?_
        refine JL.val rfl rfl rfl (.none rfl) (Ev.pickT rfl rfl) ?_
        refine JL.mv ?_
        refine JL.skip rfl rfl (.noF rfl rfl rfl) ?_
        refine JL.skip rfl rfl (.noF rfl rfl rfl) ?_
        refine JL.val rfl rfl rfl (.none rfl) (Ev.pickT rfl rfl) ?_
        refine JL.mv ?_
        refine JL.skip rfl rfl (.noF rfl rfl rfl) ?_
        refine JL.skip rfl rfl (.noF rfl rfl rfl) ?_
        refine JL.skip rfl rfl (.noF rfl rfl rfl) ?_
        refine JL.skip rfl rfl (.noF rfl rfl rfl) ?_
        refine JL.val rfl rfl rfl (.none rfl) (Ev.pickT rfl rfl) ?_
        refine JL.mv ?_
        refine JL.skip rfl rfl (.noF rfl rfl rfl) ?_
        refine JL.skip rfl rfl (.noF rfl rfl rfl) ?_
        refine JL.val rfl rfl rfl (.none rfl) (Ev.pickT rfl rfl) ?_
        refine JL.nil ?_
        refine JQ.thenN ?_
        refine JC.condT rfl ?_
        refine JC.seq ?_
        refine JC.region ?_
        refine JL.callV rfl (.none rfl) rfl Tryd.call4 (fun w1 hw1 => sExamples_any w1 (hk.old hw1) (hf.old hw1)) ?_
        refine JL.asg ?_
        refine JL.nil ?_
        refine JQ.thenN ?_
        refine JC.ret ?_
        refine JQ.thenR ?_
        refine JQ.end1 (H' := []) (.inl rfl) rfl (.tmp rfl) ?_ ?_
        · exact Sub.k
        · rfl
      · -- guard 30 false
        have h2 := of_decide_eq_false h2
        refine JL.val rfl rfl rfl (.yes rfl rfl rfl) (Ev.move rfl) ?_
        refine JL.val rfl rfl rfl (.yes rfl rfl rfl) (Ev.bin rfl rfl gtr_int) ?_
        refine JL.val rfl rfl rfl (.none rfl) (Ev.pickF rfl rfl) ?_
        refine JL.mv ?_
        refine JL.split (d := 34) rfl (fun h3 => ?_) (fun h3 => ?_)
        · -- guard 34 true
          have h3 := of_decide_eq_true h3
          refine JL.skip rfl rfl (.noF rfl rfl rfl) ?_
          refine JL.skip rfl rfl (.noF rfl rfl rfl) ?_
          refine JL.val rfl rfl rfl (.none rfl) (Ev.pickT rfl rfl) ?_
          refine JL.mv ?_
          refine JL.skip rfl rfl (.noF rfl rfl rfl) ?_
          refine JL.skip rfl rfl (.noF rfl rfl rfl) ?_
          refine JL.skip rfl rfl (.noF rfl rfl rfl) ?_
          refine JL.skip rfl rfl (.noF rfl rfl rfl) ?_
          refine JL.val rfl rfl rfl (.none rfl) (Ev.pickT rfl rfl) ?_
          refine JL.mv ?_
          refine JL.skip rfl rfl (.noF rfl rfl rfl) ?_
          refine JL.skip rfl rfl (.noF rfl rfl rfl) ?_
          refine JL.val rfl rfl rfl (.none rfl) (Ev.pickT rfl rfl) ?_
          refine JL.nil ?_
          refine JQ.thenN ?_
          refine JC.condT rfl ?_
          refine JC.seq ?_
          refine JC.region ?_
          refine JL.callV rfl (.none rfl) rfl Tryd.call4 (fun w1 hw1 => sExamples_any w1 (hk.old hw1) (hf.old hw1)) ?_
          refine JL.asg ?_
          refine JL.nil ?_
          refine JQ.thenN ?_
          refine JC.ret ?_
          refine JQ.thenR ?_
          refine JQ.end1 (H' := []) (.inl rfl) rfl (.tmp rfl) ?_ ?_
          · exact Sub.k
          · rfl
        · -- guard 34 false
          have h3 := of_decide_eq_false h3
          refine JL.val rfl rfl rfl (.yes rfl rfl rfl) (Ev.move rfl) ?_
          refine JL.val rfl rfl rfl (.yes rfl rfl rfl) (Ev.bin rfl rfl gtr_int) ?_
          refine JL.val rfl rfl rfl (.none rfl) (Ev.pickF rfl rfl) ?_
          refine JL.mv ?_
          refine JL.split (d := 38) rfl (fun h4 => ?_) (fun h4 => ?_)
          · -- guard 38 true
            have h4 := of_decide_eq_true h4
            refine JL.skip rfl rfl (.noF rfl rfl rfl) ?_
            refine JL.skip rfl rfl (.noF rfl rfl rfl) ?_
            refine JL.skip rfl rfl (.noF rfl rfl rfl) ?_
            refine JL.skip rfl rfl (.noF rfl rfl rfl) ?_
            refine JL.val rfl rfl rfl (.none rfl) (Ev.pickT rfl rfl) ?_
            refine JL.mv ?_
            refine JL.skip rfl rfl (.noF rfl rfl rfl) ?_
            refine JL.skip rfl rfl (.noF rfl rfl rfl) ?_
            refine JL.val rfl rfl rfl (.none rfl) (Ev.pickT rfl rfl) ?_
            refine JL.nil ?_
            refine JQ.thenN ?_
            refine JC.condT rfl ?_
            refine JC.seq ?_
            refine JC.region ?_
            refine JL.callV rfl (.none rfl) rfl Tryd.call4 (fun w1 hw1 => sExamples_any w1 (hk.old hw1) (hf.old hw1)) ?_
            refine JL.asg ?_
            refine JL.nil ?_
            refine JQ.thenN ?_
            refine JC.ret ?_
            refine JQ.thenR ?_
            refine JQ.end1 (H' := []) (.inl rfl) rfl (.tmp rfl) ?_ ?_
            · exact Sub.k
            · rfl
          · -- guard 38 false
            have h4 := of_decide_eq_false h4
            refine JL.val rfl rfl rfl (.yes rfl rfl rfl) (Ev.move rfl) ?_
            refine JL.val rfl rfl rfl (.yes rfl rfl rfl) (Ev.move rfl) ?_
            refine JL.val rfl rfl rfl (.yes rfl rfl rfl) (Ev.bin rfl rfl (add_i64 (by omega))) ?_
            refine JL.val rfl rfl rfl (.yes rfl rfl rfl) (Ev.bin rfl rfl gtr_int) ?_
            refine JL.val rfl rfl rfl (.none rfl) (Ev.pickF rfl rfl) ?_
            refine JL.mv ?_
            refine JL.split (d := 44) rfl (fun h5 => ?_) (fun h5 => ?_)
            · -- guard 44 true
              have h5 := of_decide_eq_true h5
              refine JL.skip rfl rfl (.noF rfl rfl rfl) ?_
              refine JL.skip rfl rfl (.noF rfl rfl rfl) ?_
              refine JL.val rfl rfl rfl (.none rfl) (Ev.pickT rfl rfl) ?_
              refine JL.nil ?_
              refine JQ.thenN ?_
              refine JC.condT rfl ?_
              refine JC.seq ?_
              refine JC.region ?_
              refine JL.callV rfl (.none rfl) rfl Tryd.call4 (fun w1 hw1 => sExamples_any w1 (hk.old hw1) (hf.old hw1)) ?_
              refine JL.asg ?_
              refine JL.nil ?_
              refine JQ.thenN ?_
              refine JC.ret ?_
              refine JQ.thenR ?_
              refine JQ.end1 (H' := []) (.inl rfl) rfl (.tmp rfl) ?_ ?_
              · exact Sub.k
              · rfl
            · -- guard 44 false
              have h5 := of_decide_eq_false h5
              refine JL.val rfl rfl rfl (.yes rfl rfl rfl) (Ev.move rfl) ?_
              refine JL.val rfl rfl rfl (.yes rfl rfl rfl) (Ev.bin rfl rfl gtr_int) ?_
              refine JL.val rfl rfl rfl (.none rfl) (Ev.pickF rfl rfl) ?_
              refine JL.nil ?_
              refine JQ.thenN ?_
              refine JC.cond rfl (fun hf1 => ?_) (fun hf1 => ?_)
              · -- t47 True
                replace hf1 := of_decide_eq_true hf1
                refine JC.seq ?_
                refine JC.region ?_
                refine JL.callV rfl (.none rfl) rfl Tryd.call4 (fun w1 hw1 => sExamples_any w1 (hk.old hw1) (hf.old hw1)) ?_
                refine JL.asg ?_
                refine JL.nil ?_
                refine JQ.thenN ?_
                refine JC.ret ?_
                refine JQ.thenR ?_
                refine JQ.end1 (H' := []) (.inl rfl) rfl (.tmp rfl) ?_ ?_
                · exact Sub.k
                · rfl
              · -- t47 False
                replace hf1 := of_decide_eq_false hf1
                have hf1 : f.toNat ≤ 2147483648 := by omega
                obtain ⟨A, rfl⟩ : ∃ A : Nat, one = (A : Int) := ⟨one.toNat, by omega⟩
                obtain ⟨B, rfl⟩ : ∃ B : Nat, two = (B : Int) := ⟨two.toNat, by omega⟩
                have hAB : A + B ≤ 60 := by omega
                refine JC.skip ?_
                refine JQ.thenN ?_
                refine JC.seq ?_
                refine JC.region ?_
                refine JL.val rfl rfl rfl (.none rfl) (Ev.loadB rfl memK Tryd.underlying40 rfl Tryd.sizeOf40 (by rw [arr8_size, hsd])) ?_
                refine JL.mv ?_
                refine JL.mv ?_
                refine JL.mv ?_
                refine JL.val rfl rfl rfl (.none rfl) (Ev.cast (v' := .int .i64 ((A + B : Nat) : Int)) (congrArg (Value.int .i64) (by omega)) (Ev.bin rfl rfl (add_i64 (by omega)))) ?_
                refine JL.mv ?_
                refine JL.callN rfl (.none rfl) rfl Tryd.call17 (fun w1 hw1 => sPositions_any s hsd f ((A + B : Nat) : Int) (by omega) oa cap ss w1 (hs.old hw1) (hk.old hw1) (hf.old hw1)) ?_
                rintro _ _ ⟨r1, rfl, rfl, hr1⟩
                refine JL.mv ?_
                refine JL.val rfl rfl rfl (.none rfl) (Ev.ex0 rfl) ?_
                obtain ⟨o1, c1, e1, hn1, hC1⟩ := Row.vw (e := 27) hr1
                refine JL.re (d := 57) rfl e1 ?_
                refine JL.val rfl rfl rfl (.none rfl) (Ev.ex1 rfl) ?_
                refine JL.asg ?_
                refine JL.asg ?_
                refine JL.nil ?_
                refine JQ.thenN ?_
                refine JC.seq ?_
                refine JC.seq ?_
                refine JC.region ?_
                refine JL.mv ?_
                refine JL.val rfl rfl rfl (.none rfl) (Ev.bin rfl rfl neq_int) ?_
                refine JL.nil ?_
                refine JQ.thenN ?_
                refine JC.cond rfl (fun hc => ?_) (fun hc => ?_)
                · -- t60 True
                  replace hc := of_decide_eq_true hc
                  refine JC.seq ?_
                  refine JC.region ?_
                  refine JL.mv ?_
                  refine JL.val rfl rfl rfl (.none rfl) (Ev.lenS rfl Tryd.underlying22) ?_
                  refine JL.val rfl rfl rfl (.none rfl) (Ev.bin rfl rfl eql_int) ?_
                  refine JL.mv ?_
                  refine JL.know (d := 64) (b := true) rfl ?_ ?_
                  · exact decide_eq_true (by rw [posV_err hc]; rfl)
                  refine JL.callV rfl (.yes rfl rfl rfl) rfl Tryd.call4 (fun w1 hw1 => sExamples_any w1 (hk.old hw1) (hf.old hw1)) ?_
                  refine JL.val rfl rfl rfl (.none rfl) (Ev.pickT rfl rfl) ?_
                  refine JL.asg ?_
                  refine JL.nil ?_
                  refine JQ.thenN ?_
                  refine JC.ret ?_
                  refine JQ.thenR ?_
                  refine JQ.end1 (H' := []) (.inl rfl) rfl (.tmp rfl) ?_ ?_
                  · exact Sub.k
                  · rfl
                · -- t60 False
                  replace hc := of_decide_eq_false hc
                  have hc : posE s f ((A + B : Nat) : Int) ss = 0 := by omega
                  obtain ⟨hp1, hp2, hcat, hlen, hnum⟩ := prefix_ok hf1 hAB hc
                  have hl1 := posV_le s f (A : Int) ss
                  have hl2 := posV_le s (f + UInt32.ofNat A) (B : Int) ss
                  refine JC.skip ?_
                  refine JQ.thenN ?_
                  refine JC.seq ?_
                  refine JC.region ?_
                  refine JL.val rfl rfl rfl (.none rfl) (Ev.loadB rfl memK Tryd.underlying40 rfl Tryd.sizeOf40 (by rw [arr8_size, hsd])) ?_
                  refine JL.mv ?_
                  refine JL.mv ?_
                  refine JL.mv ?_
                  refine JL.callN rfl (.none rfl) rfl Tryd.call17 (fun w1 hw1 => sPositions_any s hsd f (A : Int) (by omega) oa cap ss w1 (hs.old hw1) (hk.old hw1) (hf.old hw1)) ?_
                  rintro _ _ ⟨r2, rfl, rfl, hr2⟩
                  refine JL.mv ?_
                  refine JL.val rfl rfl rfl (.none rfl) (Ev.ex0 rfl) ?_
                  obtain ⟨o2, c2, e2, hn2, hC2⟩ := Row.vw (e := 27) hr2
                  refine JL.re (d := 73) rfl e2 ?_
                  refine JL.val rfl rfl rfl (.none rfl) (Ev.ex1 rfl) ?_
                  refine JL.asg ?_
                  refine JL.asg ?_
                  refine JL.nil ?_
                  refine JQ.thenN ?_
                  refine JC.seq ?_
                  refine JC.region ?_
                  refine JL.val rfl rfl rfl (.none rfl) (Ev.loadB rfl memK Tryd.underlying40 rfl Tryd.sizeOf40 (by rw [arr8_size, hsd])) ?_
                  refine JL.mv ?_
                  refine JL.mv ?_
                  refine JL.val rfl rfl rfl (.none rfl) (Ev.conv rfl (conv_i64_u32 Tryd.underlying3 Tryd.underlying41 (by omega))) ?_
                  refine JL.val rfl rfl rfl (.none rfl) (Ev.bin rfl rfl add_u32) ?_
                  refine JL.mv ?_
                  refine JL.mv ?_
                  refine JL.callN rfl (.none rfl) rfl Tryd.call17 (fun w1 hw1 => sPositions_any s hsd (f + UInt32.ofNat A) (B : Int) (by omega) oa cap ss w1 (hs.old hw1) (hk.old hw1) (hf.old hw1)) ?_
                  rintro _ _ ⟨r3, rfl, rfl, hr3⟩
                  refine JL.mv ?_
                  refine JL.val rfl rfl rfl (.none rfl) (Ev.ex0 rfl) ?_
                  obtain ⟨o3, c3, e3, hn3, hC3⟩ := Row.vw (e := 27) hr3
                  refine JL.re (d := 84) rfl e3 ?_
                  refine JL.val rfl rfl rfl (.none rfl) (Ev.ex1 rfl) ?_
                  refine JL.asg ?_
                  refine JL.asg ?_
                  refine JL.nil ?_
                  refine JQ.thenN ?_
                  refine JC.seq ?_
                  refine JC.seq ?_
                  refine JC.region ?_
                  refine JL.mv ?_
                  refine JL.val rfl rfl rfl (.none rfl) (Ev.bin rfl rfl neq_int) ?_
                  refine JL.mv ?_
                  refine JL.know (d := 88) (b := false) rfl ?_ ?_
                  · exact decide_eq_false (fun h => h hp1)
                  refine JL.val rfl rfl rfl (.yes rfl rfl rfl) (Ev.move rfl) ?_
                  refine JL.val rfl rfl rfl (.yes rfl rfl rfl) (Ev.bin rfl rfl neq_int) ?_
                  refine JL.val rfl rfl rfl (.none rfl) (Ev.pickF rfl rfl) ?_
                  refine JL.mv ?_
                  refine JL.know (d := 92) (b := false) rfl ?_ ?_
                  · exact decide_eq_false (fun h => h hp2)
                  refine JL.val rfl rfl rfl (.yes rfl rfl rfl) (Ev.move rfl) ?_
                  refine JL.val rfl rfl rfl (.yes rfl rfl rfl) (Ev.lenS rfl Tryd.underlying22) ?_
                  refine JL.val rfl rfl rfl (.yes rfl rfl rfl) (Ev.move rfl) ?_
                  refine JL.val rfl rfl rfl (.yes rfl rfl rfl) (Ev.move rfl) ?_
                  refine JL.val rfl rfl rfl (.yes rfl rfl rfl) (Ev.bin rfl rfl (add_i64 (by omega))) ?_
                  refine JL.val rfl rfl rfl (.yes rfl rfl rfl) (Ev.bin rfl rfl neq_int) ?_
                  refine JL.val rfl rfl rfl (.none rfl) (Ev.pickF rfl rfl) ?_
                  refine JL.mv ?_
                  refine JL.know (d := 100) (b := false) rfl ?_ ?_
                  · exact decide_eq_false (fun h => h (by rw [hlen]; omega))
                  refine JL.new rfl rfl rfl (.yes rfl rfl rfl) (En.bsN (e := 27) (vs := []) rfl (fun _ => by kernel_rfl)) (fun b101 hb101 => ?_)
                  refine JL.val rfl rfl rfl (.yes rfl rfl rfl) (Ev.move rfl) ?_
                  refine JL.gen rfl rfl rfl (.yes rfl rfl rfl) (Eg.append (r := some ⟨b101, 0, #[]⟩) (n := 0) (m := (posV s f (A : Int) ss).length) (xs := []) (news := pf (posV s f (A : Int) ss)) (z := (.agg #[.int .i64 0, .int .i64 0])) (s := 2) (bytes := 16) rfl rfl rfl Cut.k Tryd.underlying22 (by kernel_rfl) rfl (by decide) (by decide) ⟨rfl, Nat.le_refl _, Nat.zero_le _, rfl, rfl⟩ (pf_length _) (fun a ha w hw => (hC2 w hw (fun p hp => by first | exact hp | simp [hp])).mem a ha) hn2 (pf_one _) (by omega)) ?_
                  rintro _ _ ⟨rx, rfl, rfl, hrx, _⟩
                  refine JL.val rfl rfl rfl (.yes rfl rfl rfl) (Ev.move rfl) ?_
                  refine JL.gen rfl rfl rfl (.yes rfl rfl rfl) (Eg.append (r := rx) (n := 0 + (posV s f (A : Int) ss).length) (m := (posV s (f + UInt32.ofNat A) (B : Int) ss).length) (xs := [] ++ pf (posV s f (A : Int) ss)) (news := pf (posV s (f + UInt32.ofNat A) (B : Int) ss)) (z := (.agg #[.int .i64 0, .int .i64 0])) (s := 2) (bytes := 16) rfl rfl rfl Cut.k Tryd.underlying22 (by kernel_rfl) rfl (by decide) (by decide) hrx (pf_length _) (fun a ha w hw => (hC3 w hw (fun p hp => by first | exact hp | simp [hp])).mem a ha) hn3 (pf_one _) (by omega)) ?_
                  rintro _ _ ⟨ry, rfl, rfl, hry, _⟩
                  rw [show 0 + (posV s f (A : Int) ss).length + (posV s (f + UInt32.ofNat A) (B : Int) ss).length = ((posV s f (A : Int) ss) ++ (posV s (f + UInt32.ofNat A) (B : Int) ss)).length by rw [List.length_append]; omega]
                  have hry : Row.ok 2 ((posV s f (A : Int) ss) ++ (posV s (f + UInt32.ofNat A) (B : Int) ss)).length (pf ((posV s f (A : Int) ss) ++ (posV s (f + UInt32.ofNat A) (B : Int) ss))) ry := by rw [pf_append, List.length_append]; rw [Nat.zero_add] at hry; exact hry
                  obtain ⟨o4, c4, e4, hn4, hC4⟩ := Row.vw (e := 27) hry
                  refine JL.re (d := 105) rfl e4 ?_
                  refine JL.val rfl rfl rfl (.yes rfl rfl rfl) (Ev.move rfl) ?_
                  refine JL.callV rfl (.yes rfl rfl rfl) rfl Tryd.call13 (fun w1 hw1 => pSame_any o4 o1 c4 c1 ((posV s f (A : Int) ss) ++ (posV s (f + UInt32.ofNat A) (B : Int) ss)) (posV s f ((A + B : Nat) : Int) ss) w1 (hC4 w1 hw1 (fun p hp => by first | exact hp | simp [hp])) (hC1 w1 hw1 (fun p hp => by first | exact hp | simp [hp])) (by rw [hcat, hlen]; omega)) ?_
                  refine JL.val rfl rfl rfl (.yes rfl rfl rfl) (Ev.not rfl) ?_
                  refine JL.val rfl rfl rfl (.none rfl) (Ev.pickF rfl rfl) ?_
                  refine JL.nil ?_
                  refine JQ.thenN ?_
                  refine JC.knowF rfl ?_ ?_
                  · simp [hcat]
                  refine JC.skip ?_
                  refine JQ.thenN ?_
                  refine JC.seq ?_
                  refine JC.seq ?_
                  refine JC.region ?_
                  refine JL.asg ?_
                  refine JL.nil ?_
                  refine JQ.thenN ?_
                  refine JC.block ?_
                  refine JC.loop (X := Nat)
                    (fun i => [(4, .slice oa ss.length cap), (11, .slice o1 (posV s f ((A + B : Nat) : Int) ss).length c1), (17, .int .i64 (i : Int))])
                    (fun i => Row.b 27 r1)
                    (fun i => i ≤ (posV s f ((A + B : Nat) : Int) ss).length)
                    (fun i => (posV s f ((A + B : Nat) : Int) ss).length - i) 0 ?_ ?_ ?_ ?_
                  · exact Keeps.k
                  · exact Sub.of_cnt (fun a => by (try dsimp only); simp only [cntA]; omega)
                  · exact Nat.zero_le _
                  rintro i hi
                  refine JC.seq ?_
                  refine JC.seq ?_
                  refine JC.region ?_
                  refine JL.mv ?_
                  refine JL.mv ?_
                  refine JL.val rfl rfl rfl (.none rfl) (Ev.lenS rfl Tryd.underlying22) ?_
                  refine JL.val rfl rfl rfl (.none rfl) (Ev.bin rfl rfl lss_int) ?_
                  refine JL.nil ?_
                  refine JQ.thenN ?_
                  refine JC.cond rfl (fun hc1 => ?_) (fun hc1 => ?_)
                  · -- t113 True
                    replace hc1 := of_decide_eq_true hc1
                    obtain ⟨x, hx⟩ := get_some (l := (posV s f ((A + B : Nat) : Int) ss)) (k := i) (by omega)
                    have hne := hnum x (List.mem_of_getElem? hx)
                    obtain ⟨a1, rfl⟩ : ∃ a, o1 = some a := by cases o1 with | none => (have := hn1 rfl; omega) | some a => exact ⟨a, rfl⟩
                    refine JC.skip ?_
                    refine JQ.thenN ?_
                    refine JC.seq ?_
                    refine JC.block ?_
                    refine JC.seq ?_
                    refine JC.region ?_
                    refine JL.mv ?_
                    refine JL.mv ?_
                    refine JL.mv ?_
                    refine JL.val rfl rfl rfl (.none rfl) (Ev.idxS rfl rfl Tryd.underlying22 Tryd.sizeOf27 (k := i) rfl (by omega)) ?_
                    refine JL.val rfl rfl rfl (.none rfl) (Ev.loadA (l := plc x) rfl Tryd.underlying27 rfl Tryd.sizeOf27 (fun w hw => ((hC1 w hw (fun p hp => by first | exact hp | simp [hp])).mem a1 rfl).plAt hx) rfl) ?_
                    refine JL.callV rfl (.none rfl) rfl Tryd.call15 (fun w1 hw1 => sNumber_any oa cap ss x w1 (hs.old hw1)) ?_
                    refine JL.mv ?_
                    refine JL.val rfl rfl rfl (.none rfl) (Ev.ex0 rfl) ?_
                    refine JL.val rfl rfl rfl (.none rfl) (Ev.ex1 rfl) ?_
                    refine JL.asg ?_
                    refine JL.asg ?_
                    refine JL.nil ?_
                    refine JQ.thenN ?_
                    refine JC.seq ?_
                    refine JC.region ?_
                    refine JL.mv ?_
                    refine JL.val rfl rfl rfl (.none rfl) (Ev.bin rfl rfl neq_int) ?_
                    refine JL.nil ?_
                    refine JQ.thenN ?_
                    refine JC.knowF rfl ?_ ?_
                    · exact decide_eq_false (fun h => h hne)
                    refine JC.skip ?_
                    refine JQ.blockN ?_
                    refine JQ.thenN ?_
                    refine JC.region ?_
                    refine JL.mv ?_
                    refine JL.val rfl rfl rfl (.none rfl) (Ev.bin rfl rfl (add_i64 (by omega))) ?_
                    refine JL.asg ?_
                    refine JL.nil ?_
                    refine JQ.loopN (i + 1) ?_ ?_ ?_ ?_
                    · exact Keeps.k
                    · first | exact Sub.all | exact Sub.of_cnt (fun a => by (try dsimp only); simp only [cntA]; omega)
                    · omega
                    · show (posV s f ((A + B : Nat) : Int) ss).length - (i + 1) < (posV s f ((A + B : Nat) : Int) ss).length - i; omega
                  · -- t113 False
                    replace hc1 := of_decide_eq_false hc1
                    obtain rfl : i = (posV s f ((A + B : Nat) : Int) ss).length := by omega
                    refine JC.exit ?_
                    refine JQ.thenE ?_
                    refine JQ.thenE ?_
                    refine JQ.blockE ?_
                    refine JQ.thenN ?_
                    refine JC.seq ?_
                    refine JC.region ?_
                    refine JL.callV rfl (.none rfl) rfl Tryd.call4 (fun w1 hw1 => sExamples_any w1 (hk.old hw1) (hf.old hw1)) ?_
                    refine JL.asg ?_
                    refine JL.nil ?_
                    refine JQ.thenN ?_
                    refine JC.ret ?_
                    refine JQ.end1 (H' := []) (.inl rfl) rfl (.tmp rfl) ?_ ?_
                    · exact Sub.k
                    · rfl

end Go.Proofs.YtjjoenbighmfoaaDoor
