/-
  A sample of numbers drawn, in the program and in the reference.
-/
import Derived.Test.YtjjoenbighmfoaaDoorDraw2Uq
namespace Go.Proofs.YtjjoenbighmfoaaDoor
open Go Go.RowKit
set_option maxRecDepth 100000

def draws (s : List UInt8) (i : UInt32) (m : UInt64) (n : Nat) : List UInt64 := (List.range n).map fun k => drawnV s (i + UInt32.ofNat k) m
def allD (s : List UInt8) (i : UInt32) (m : UInt64) (n : Nat) : Prop := ∀ k, k < n → (drawn s (i + UInt32.ofNat k) m).isSome
def badS (i : UInt32) (many : Int) (m : UInt64) : Prop := many < 0 ∨ 4294967296 < (i.toNat : Int) + many ∨ m.toNat < 1 ∨ 4294967296 < m.toNat
open Classical in
noncomputable def sampE (s : List UInt8) (i : UInt32) (many : Int) (m : UInt64) : Int := if badS i many m then 2 else if 4096 < many then 4 else if allD s i m many.toNat then 0 else 6
open Classical in
noncomputable def sampL (s : List UInt8) (i : UInt32) (many : Int) (m : UInt64) : List UInt64 := if badS i many m then [] else if 4096 < many then [] else if allD s i m many.toNat then draws s i m many.toNat else []
theorem draws_length (s : List UInt8) (i : UInt32) (m : UInt64) (n : Nat) : (draws s i m n).length = n := by simp [draws]
theorem draws_succ (s : List UInt8) (i : UInt32) (m : UInt64) (n : Nat) : draws s i m (n + 1) = draws s i m n ++ [drawnV s (i + UInt32.ofNat n) m] := by simp [draws, List.range_succ]
theorem allD_succ {s : List UInt8} {i : UInt32} {m : UInt64} {n : Nat} (h : allD s i m n) (h1 : (drawn s (i + UInt32.ofNat n) m).isSome) : allD s i m (n + 1) := all_succ h h1
theorem okS {i : UInt32} {n : Nat} {m : UInt64} (h : ¬ badS i (n : Int) m) : 1 ≤ m.toNat ∧ m.toNat ≤ 4294967296 ∧ i.toNat + n ≤ 4294967296 := by unfold badS at h; omega
theorem notBad {i : UInt32} {n : Nat} {m : UInt64} (h : i.toNat + n ≤ 4294967296) (h1 : ¬ m.toNat < 1) (h2 : ¬ 4294967296 < m.toNat) : ¬ badS i (n : Int) m := by unfold badS; omega
section
variable {s : List UInt8} {i : UInt32} {many : Int} {m : UInt64} {n : Nat}
theorem sampE_bad (h : badS i many m) : sampE s i many m = 2 := if_pos h
theorem sampL_bad (h : badS i many m) : sampL s i many m = [] := if_pos h
theorem sampE_great (h : ¬ badS i many m) (h1 : 4096 < many) : sampE s i many m = 4 := by unfold sampE; rw [if_neg h, if_pos h1]
theorem sampL_great (h : ¬ badS i many m) (h1 : 4096 < many) : sampL s i many m = [] := by unfold sampL; rw [if_neg h, if_pos h1]
theorem sampE_none (h : ¬ badS i (n : Int) m) (h1 : n ≤ 4096) (h2 : ¬ allD s i m n) : sampE s i (n : Int) m = 6 := by unfold sampE; rw [if_neg h, if_neg (by omega), if_neg (by simpa using h2)]
theorem sampL_none (h : ¬ badS i (n : Int) m) (h1 : n ≤ 4096) (h2 : ¬ allD s i m n) : sampL s i (n : Int) m = [] := by unfold sampL; rw [if_neg h, if_neg (by omega), if_neg (by simpa using h2)]
theorem sampE_all (h : ¬ badS i (n : Int) m) (h1 : n ≤ 4096) (h2 : allD s i m n) : sampE s i (n : Int) m = 0 := by unfold sampE; rw [if_neg h, if_neg (by omega), if_pos (by simpa using h2)]
theorem sampL_all (h : ¬ badS i (n : Int) m) (h1 : n ≤ 4096) (h2 : allD s i m n) : sampL s i (n : Int) m = draws s i m n := by unfold sampL; rw [if_neg h, if_neg (by omega), if_pos (by simpa using h2)]; simp
theorem sampL_le (s : List UInt8) (i : UInt32) (many : Int) (m : UInt64) : (sampL s i many m).length ≤ 1000000 := by
  unfold sampL
  split
  · simp
  · split
    · simp
    · split
      · rw [draws_length]; omega
      · simp
end
theorem add_u32_u64 (i : UInt32) {n : Nat} (hn : n ≤ 4294967296) : (i.toUInt64 + UInt64.ofNat n).toNat = i.toNat + n := by
  have := i.toNat_lt
  rw [UInt64.toNat_add, UInt32.toNat_toUInt64, UInt64.toNat_ofNat']
  omega

theorem Sample_any (s : List UInt8) (hs : s.length = 32) (i : UInt32) (many : Int) (hmn : -9223372036854775808 ≤ many ∧ many ≤ 9223372036854775807) (m : UInt64) (w : World) (hk : KMem 1 w) (hf : FMem 0 w) :
    Calls Tryd.prog 27 #[.agg (arr8 s), u32 i, .int .i64 many, u64 m] w (Ret w (fun v H => ∃ r : Option Row, v = .tuple #[Row.v (sampL s i many m).length r, .int .i64 (sampE s i many m)] ∧ H = Row.b 51 r ∧ Row.ok 1 (sampL s i many m).length ((sampL s i many m).map u64) r)) := by
  refine enter (vs := [.agg (arr8 s), u32 i, .int .i64 many, u64 m]) Tryd.func27 rfl Tryd.ntmps27 rfl ?_
  refine JC.seq ?_
  -- region 0
  refine JC.region ?_
  refine JL.new rfl rfl rfl (.none rfl) (En.boxA rfl) (fun b4 hb4 => ?_)
  refine JL.val rfl rfl rfl (.none rfl) (Ev.assign rfl) ?_
  refine JL.val rfl rfl rfl (.none rfl) (Ev.assign rfl) ?_
  refine JL.nil ?_
  refine JQ.thenN ?_
  refine JC.seq ?_
  refine JC.seq ?_
  -- region 1
  refine JC.region ?_
  refine JL.val rfl rfl rfl (.none rfl) (Ev.move rfl) ?_
  refine JL.val rfl rfl rfl (.none rfl) (Ev.bin rfl rfl lss_int) ?_
  refine JL.val rfl rfl rfl (.none rfl) (Ev.move rfl) ?_
  refine JL.split (d := 16) rfl (fun hg1 => ?_) (fun hg1 => ?_)
  · -- guard 16 true
    have hbad : badS i many m := .inl (by have := of_decide_eq_true hg1; omega)
    refine JL.skip rfl rfl (.noF rfl rfl rfl) ?_
    refine JL.skip rfl rfl (.noF rfl rfl rfl) ?_
    refine JL.val rfl rfl rfl (.none rfl) (Ev.pickT rfl rfl) ?_
    refine JL.val rfl rfl rfl (.none rfl) (Ev.move rfl) ?_
    refine JL.skip rfl rfl (.noF rfl rfl rfl) ?_
    refine JL.skip rfl rfl (.noF rfl rfl rfl) ?_
    refine JL.skip rfl rfl (.noF rfl rfl rfl) ?_
    refine JL.skip rfl rfl (.noF rfl rfl rfl) ?_
    refine JL.skip rfl rfl (.noF rfl rfl rfl) ?_
    refine JL.skip rfl rfl (.noF rfl rfl rfl) ?_
    refine JL.val rfl rfl rfl (.none rfl) (Ev.pickT rfl rfl) ?_
    refine JL.val rfl rfl rfl (.none rfl) (Ev.move rfl) ?_
    refine JL.skip rfl rfl (.noF rfl rfl rfl) ?_
    refine JL.skip rfl rfl (.noF rfl rfl rfl) ?_
    refine JL.val rfl rfl rfl (.none rfl) (Ev.pickT rfl rfl) ?_
    refine JL.val rfl rfl rfl (.none rfl) (Ev.move rfl) ?_
    refine JL.skip rfl rfl (.noF rfl rfl rfl) ?_
    refine JL.skip rfl rfl (.noF rfl rfl rfl) ?_
    refine JL.val rfl rfl rfl (.none rfl) (Ev.pickT rfl rfl) ?_
    refine JL.nil ?_
    refine JQ.thenN ?_
    refine JC.condT rfl ?_
    refine JC.seq ?_
    -- region 2
    refine JC.region ?_
    refine JL.val rfl rfl rfl (.none rfl) (Ev.assign rfl) ?_
    refine JL.val rfl rfl rfl (.none rfl) (Ev.assign rfl) ?_
    refine JL.nil ?_
    refine JQ.thenN ?_
    refine JC.ret ?_
    refine JQ.thenR ?_
    refine JQ.end2 (H' := []) (.inl rfl) rfl (.tmp rfl) (.tmp rfl) ?_ ?_
    · first | exact Sub.all | exact Sub.of_cnt (fun a => by (try dsimp only); simp only [cntA]; omega) | repeat (first | exact Sub.nil | refine Sub.cons (by first | exact .here | exact .there .here | exact .there (.there .here) | exact .there (.there (.there .here)) | exact .there (.there (.there (.there .here)))) ?_ | exact Sub.all)
    · exact ⟨none, by rw [sampL_bad hbad, sampE_bad hbad]; rfl, rfl, by rw [sampL_bad hbad]; exact Row.ok0⟩
  · -- guard 16 false
    obtain ⟨n, rfl⟩ : ∃ n : Nat, many = (n : Int) := ⟨many.toNat, by have := of_decide_eq_false hg1; omega⟩
    refine JL.val rfl rfl rfl (.yes rfl rfl rfl) (Ev.move rfl) ?_
    refine JL.val rfl rfl rfl (.yes rfl rfl rfl) (Ev.bin rfl rfl gtr_int) ?_
    refine JL.val rfl rfl rfl (.none rfl) (Ev.pickF rfl rfl) ?_
    refine JL.val rfl rfl rfl (.none rfl) (Ev.move rfl) ?_
    refine JL.split (d := 20) rfl (fun hg2 => ?_) (fun hg2 => ?_)
    · -- guard 20 true
      have hbad : badS i (n : Int) m := .inr (.inl (by have := of_decide_eq_true hg2; have := i.toNat_lt; omega))
      refine JL.skip rfl rfl (.noF rfl rfl rfl) ?_
      refine JL.skip rfl rfl (.noF rfl rfl rfl) ?_
      refine JL.skip rfl rfl (.noF rfl rfl rfl) ?_
      refine JL.skip rfl rfl (.noF rfl rfl rfl) ?_
      refine JL.skip rfl rfl (.noF rfl rfl rfl) ?_
      refine JL.skip rfl rfl (.noF rfl rfl rfl) ?_
      refine JL.val rfl rfl rfl (.none rfl) (Ev.pickT rfl rfl) ?_
      refine JL.val rfl rfl rfl (.none rfl) (Ev.move rfl) ?_
      refine JL.skip rfl rfl (.noF rfl rfl rfl) ?_
      refine JL.skip rfl rfl (.noF rfl rfl rfl) ?_
      refine JL.val rfl rfl rfl (.none rfl) (Ev.pickT rfl rfl) ?_
      refine JL.val rfl rfl rfl (.none rfl) (Ev.move rfl) ?_
      refine JL.skip rfl rfl (.noF rfl rfl rfl) ?_
      refine JL.skip rfl rfl (.noF rfl rfl rfl) ?_
      refine JL.val rfl rfl rfl (.none rfl) (Ev.pickT rfl rfl) ?_
      refine JL.nil ?_
      refine JQ.thenN ?_
      refine JC.condT rfl ?_
      refine JC.seq ?_
      -- region 2
      refine JC.region ?_
      refine JL.val rfl rfl rfl (.none rfl) (Ev.assign rfl) ?_
      refine JL.val rfl rfl rfl (.none rfl) (Ev.assign rfl) ?_
      refine JL.nil ?_
      refine JQ.thenN ?_
      refine JC.ret ?_
      refine JQ.thenR ?_
      refine JQ.end2 (H' := []) (.inl rfl) rfl (.tmp rfl) (.tmp rfl) ?_ ?_
      · first | exact Sub.all | exact Sub.of_cnt (fun a => by (try dsimp only); simp only [cntA]; omega) | repeat (first | exact Sub.nil | refine Sub.cons (by first | exact .here | exact .there .here | exact .there (.there .here) | exact .there (.there (.there .here)) | exact .there (.there (.there (.there .here)))) ?_ | exact Sub.all)
      · exact ⟨none, by rw [sampL_bad hbad, sampE_bad hbad]; rfl, rfl, by rw [sampL_bad hbad]; exact Row.ok0⟩
    · -- guard 20 false
      have hn32 : n ≤ 4294967296 := by have := of_decide_eq_false hg2; omega
      have hadd := add_u32_u64 i hn32
      refine JL.val rfl rfl rfl (.yes rfl rfl rfl) (Ev.move rfl) ?_
      refine JL.val rfl rfl rfl (.yes rfl rfl rfl) (Ev.conv rfl (conv_u32_u64 Tryd.underlying41 Tryd.underlying51)) ?_
      refine JL.val rfl rfl rfl (.yes rfl rfl rfl) (Ev.move rfl) ?_
      refine JL.val rfl rfl rfl (.yes rfl rfl rfl) (Ev.conv rfl (conv_i64_u64 Tryd.underlying3 Tryd.underlying51 (by omega))) ?_
      refine JL.val rfl rfl rfl (.yes rfl rfl rfl) (Ev.bin rfl rfl add_u64) ?_
      refine JL.val rfl rfl rfl (.yes rfl rfl rfl) (Ev.bin rfl rfl gtr_int) ?_
      refine JL.val rfl rfl rfl (.none rfl) (Ev.pickF rfl rfl) ?_
      refine JL.val rfl rfl rfl (.none rfl) (Ev.move rfl) ?_
      refine JL.split (d := 28) rfl (fun hg3 => ?_) (fun hg3 => ?_)
      · -- guard 28 true
        have hbad : badS i (n : Int) m := .inr (.inl (by have := of_decide_eq_true hg3; rw [hadd] at this; simp at this; omega))
        refine JL.skip rfl rfl (.noF rfl rfl rfl) ?_
        refine JL.skip rfl rfl (.noF rfl rfl rfl) ?_
        refine JL.val rfl rfl rfl (.none rfl) (Ev.pickT rfl rfl) ?_
        refine JL.val rfl rfl rfl (.none rfl) (Ev.move rfl) ?_
        refine JL.skip rfl rfl (.noF rfl rfl rfl) ?_
        refine JL.skip rfl rfl (.noF rfl rfl rfl) ?_
        refine JL.val rfl rfl rfl (.none rfl) (Ev.pickT rfl rfl) ?_
        refine JL.nil ?_
        refine JQ.thenN ?_
        refine JC.condT rfl ?_
        refine JC.seq ?_
        -- region 2
        refine JC.region ?_
        refine JL.val rfl rfl rfl (.none rfl) (Ev.assign rfl) ?_
        refine JL.val rfl rfl rfl (.none rfl) (Ev.assign rfl) ?_
        refine JL.nil ?_
        refine JQ.thenN ?_
        refine JC.ret ?_
        refine JQ.thenR ?_
        refine JQ.end2 (H' := []) (.inl rfl) rfl (.tmp rfl) (.tmp rfl) ?_ ?_
        · first | exact Sub.all | exact Sub.of_cnt (fun a => by (try dsimp only); simp only [cntA]; omega) | repeat (first | exact Sub.nil | refine Sub.cons (by first | exact .here | exact .there .here | exact .there (.there .here) | exact .there (.there (.there .here)) | exact .there (.there (.there (.there .here)))) ?_ | exact Sub.all)
        · exact ⟨none, by rw [sampL_bad hbad, sampE_bad hbad]; rfl, rfl, by rw [sampL_bad hbad]; exact Row.ok0⟩
      · -- guard 28 false
        have hle : i.toNat + n ≤ 4294967296 := by have := of_decide_eq_false hg3; rw [hadd] at this; simp at this; omega
        refine JL.val rfl rfl rfl (.yes rfl rfl rfl) (Ev.move rfl) ?_
        refine JL.val rfl rfl rfl (.yes rfl rfl rfl) (Ev.bin rfl rfl lss_int) ?_
        refine JL.val rfl rfl rfl (.none rfl) (Ev.pickF rfl rfl) ?_
        refine JL.val rfl rfl rfl (.none rfl) (Ev.move rfl) ?_
        refine JL.split (d := 32) rfl (fun hg4 => ?_) (fun hg4 => ?_)
        · -- guard 32 true
          have hbad : badS i (n : Int) m := .inr (.inr (.inl (by have := of_decide_eq_true hg4; exact Int.ofNat_lt.1 this)))
          refine JL.skip rfl rfl (.noF rfl rfl rfl) ?_
          refine JL.skip rfl rfl (.noF rfl rfl rfl) ?_
          refine JL.val rfl rfl rfl (.none rfl) (Ev.pickT rfl rfl) ?_
          refine JL.nil ?_
          refine JQ.thenN ?_
          refine JC.condT rfl ?_
          refine JC.seq ?_
          -- region 2
          refine JC.region ?_
          refine JL.val rfl rfl rfl (.none rfl) (Ev.assign rfl) ?_
          refine JL.val rfl rfl rfl (.none rfl) (Ev.assign rfl) ?_
          refine JL.nil ?_
          refine JQ.thenN ?_
          refine JC.ret ?_
          refine JQ.thenR ?_
          refine JQ.end2 (H' := []) (.inl rfl) rfl (.tmp rfl) (.tmp rfl) ?_ ?_
          · first | exact Sub.all | exact Sub.of_cnt (fun a => by (try dsimp only); simp only [cntA]; omega) | repeat (first | exact Sub.nil | refine Sub.cons (by first | exact .here | exact .there .here | exact .there (.there .here) | exact .there (.there (.there .here)) | exact .there (.there (.there (.there .here)))) ?_ | exact Sub.all)
          · exact ⟨none, by rw [sampL_bad hbad, sampE_bad hbad]; rfl, rfl, by rw [sampL_bad hbad]; exact Row.ok0⟩
        · -- guard 32 false
          have hm1 : ¬ m.toNat < 1 := by have := of_decide_eq_false hg4; exact fun h => this (Int.ofNat_lt.2 h)
          refine JL.val rfl rfl rfl (.yes rfl rfl rfl) (Ev.move rfl) ?_
          refine JL.val rfl rfl rfl (.yes rfl rfl rfl) (Ev.bin rfl rfl gtr_int) ?_
          refine JL.val rfl rfl rfl (.none rfl) (Ev.pickF rfl rfl) ?_
          refine JL.nil ?_
          refine JQ.thenN ?_
          refine JC.cond rfl (fun hc1 => ?_) (fun hc1 => ?_)
          · -- t35 True
            replace hc1 := of_decide_eq_true hc1
            have hbad : badS i (n : Int) m := .inr (.inr (.inr (by exact Int.ofNat_lt.1 (by simpa using hc1))))
            refine JC.seq ?_
            -- region 2
            refine JC.region ?_
            refine JL.val rfl rfl rfl (.none rfl) (Ev.assign rfl) ?_
            refine JL.val rfl rfl rfl (.none rfl) (Ev.assign rfl) ?_
            refine JL.nil ?_
            refine JQ.thenN ?_
            refine JC.ret ?_
            refine JQ.thenR ?_
            refine JQ.end2 (H' := []) (.inl rfl) rfl (.tmp rfl) (.tmp rfl) ?_ ?_
            · first | exact Sub.all | exact Sub.of_cnt (fun a => by (try dsimp only); simp only [cntA]; omega) | repeat (first | exact Sub.nil | refine Sub.cons (by first | exact .here | exact .there .here | exact .there (.there .here) | exact .there (.there (.there .here)) | exact .there (.there (.there (.there .here)))) ?_ | exact Sub.all)
            · exact ⟨none, by rw [sampL_bad hbad, sampE_bad hbad]; rfl, rfl, by rw [sampL_bad hbad]; exact Row.ok0⟩
          · -- t35 False
            replace hc1 := of_decide_eq_false hc1
            have hok : ¬ badS i (n : Int) m := notBad (by omega) hm1 (fun h => hc1 (Int.ofNat_lt.2 h))
            refine JC.skip ?_
            refine JQ.thenN ?_
            refine JC.seq ?_
            refine JC.seq ?_
            -- region 3
            refine JC.region ?_
            refine JL.val rfl rfl rfl (.none rfl) (Ev.move rfl) ?_
            refine JL.val rfl rfl rfl (.none rfl) (Ev.bin rfl rfl gtr_int) ?_
            refine JL.nil ?_
            refine JQ.thenN ?_
            refine JC.cond rfl (fun hc2 => ?_) (fun hc2 => ?_)
            · -- t37 True
              replace hc2 := of_decide_eq_true hc2
              have hgr : 4096 < (n : Int) := by omega
              refine JC.seq ?_
              -- region 4
              refine JC.region ?_
              refine JL.val rfl rfl rfl (.none rfl) (Ev.assign rfl) ?_
              refine JL.val rfl rfl rfl (.none rfl) (Ev.assign rfl) ?_
              refine JL.nil ?_
              refine JQ.thenN ?_
              refine JC.ret ?_
              refine JQ.thenR ?_
              refine JQ.end2 (H' := []) (.inl rfl) rfl (.tmp rfl) (.tmp rfl) ?_ ?_
              · first | exact Sub.all | exact Sub.of_cnt (fun a => by (try dsimp only); simp only [cntA]; omega) | repeat (first | exact Sub.nil | refine Sub.cons (by first | exact .here | exact .there .here | exact .there (.there .here) | exact .there (.there (.there .here)) | exact .there (.there (.there (.there .here)))) ?_ | exact Sub.all)
              · exact ⟨none, by rw [sampL_great hok hgr, sampE_great hok hgr]; rfl, rfl, by rw [sampL_great hok hgr]; exact Row.ok0⟩
            · -- t37 False
              replace hc2 := of_decide_eq_false hc2
              refine JC.skip ?_
              refine JQ.thenN ?_
              refine JC.seq ?_
              -- region 5
              refine JC.region ?_
              refine JL.val rfl rfl rfl (.none rfl) (Ev.loadB rfl (by repeat (first | exact List.Mem.head _ | refine List.Mem.tail _ ?_ | refine List.mem_append_right _ ?_ | assumption)) Tryd.underlying40 rfl Tryd.sizeOf40 (by rw [arr8_size, hs])) ?_
              refine JL.val rfl rfl rfl (.none rfl) (Ev.makeFuncP (xs := [.tmp 38]) (ys := []) rfl rfl) ?_
              refine JL.val rfl rfl rfl (.none rfl) (Ev.assign rfl) ?_
              refine JL.nil ?_
              refine JQ.thenN ?_
              refine JC.seq ?_
              refine JC.seq ?_
              -- region 6
              refine JC.region ?_
              refine JL.val rfl rfl rfl (.none rfl) (Ev.move rfl) ?_
              refine JL.val rfl rfl rfl (.none rfl) (Ev.move rfl) ?_
              refine JL.nil ?_
              refine JQ.thenN ?_
              refine JC.block ?_
              have hokn := hok
              have hn4 : n ≤ 4096 := by omega
              obtain ⟨hm1, hm2, hin⟩ := okS hok
              refine JC.loop (X := Nat × Option Row)
                (fun ⟨k, q⟩ => [(1, u32 i), (2, .int .i64 (n : Int)), (3, u64 m), (8, Row.v k q), (10, .func (.func 37) #[.agg (arr8 s)] #[]), (40, .int .i64 (n : Int)), (41, .int .i64 (k : Int)), (4, .pointer (some ⟨b4, 0, none⟩))])
                (fun ⟨k, q⟩ => Row.b 51 q ++ [(b4, .cells (arr8 s) 40 (0, 0))])
                (fun ⟨k, q⟩ => k ≤ n ∧ Row.ok 1 k ((draws s i m k).map u64) q ∧ allD s i m k)
                (fun ⟨k, q⟩ => n - k) (0, none) ?_ ?_ ?_ ?_
              · exact Keeps.get (by repeat (first | exact Keeps.nil | refine Keeps.cons rfl ?_))
              · first | exact Sub.all | exact Sub.of_cnt (fun a => by (try dsimp only); simp only [cntA]; omega) | repeat (first | exact Sub.nil | refine Sub.cons (by first | exact .here | exact .there .here | exact .there (.there .here) | exact .there (.there (.there .here)) | exact .there (.there (.there (.there .here)))) ?_ | exact Sub.all)
              · exact ⟨Nat.zero_le _, ⟨rfl, rfl⟩, fun j hj => by omega⟩
              rintro ⟨k, q⟩ ⟨hkn, hq, had⟩
              refine JC.seq ?_
              -- region 7
              refine JC.region ?_
              refine JL.val rfl rfl rfl (.none rfl) (Ev.bin rfl rfl lss_int) ?_
              refine JL.nil ?_
              refine JQ.thenN ?_
              refine JC.seq ?_
              refine JC.cond rfl (fun hc3 => ?_) (fun hc3 => ?_)
              · -- t42 True
                replace hc3 := of_decide_eq_true hc3
                have hk1 : k < n := by omega
                refine JC.skip ?_
                refine JQ.thenN ?_
                refine JC.seq ?_
                refine JC.block ?_
                refine JC.seq ?_
                -- region 8
                refine JC.region ?_
                refine JL.val rfl rfl rfl (.none rfl) (Ev.move rfl) ?_
                refine JL.val rfl rfl rfl (.none rfl) (Ev.assign rfl) ?_
                refine JL.nil ?_
                refine JQ.thenN ?_
                refine JC.seq ?_
                -- region 9
                refine JC.region ?_
                refine JL.val rfl rfl rfl (.none rfl) (Ev.move rfl) ?_
                refine JL.val rfl rfl rfl (.none rfl) (Ev.move rfl) ?_
                refine JL.val rfl rfl rfl (.none rfl) (Ev.move rfl) ?_
                refine JL.val rfl rfl rfl (.none rfl) (Ev.conv rfl (conv_i64_u32 Tryd.underlying3 Tryd.underlying41 (by omega))) ?_
                refine JL.val rfl rfl rfl (.none rfl) (Ev.bin rfl rfl add_u32) ?_
                refine JL.val rfl rfl rfl (.none rfl) (Ev.move rfl) ?_
                refine JL.callCloV rfl (.none rfl) rfl rfl Tryd.call37 (fun w1 hw1 => draw_any s hs (i + UInt32.ofNat k) m (by omega) (by omega) w1 (hk.old hw1) (hf.old hw1)) ?_
                refine JL.val rfl rfl rfl (.none rfl) (Ev.move rfl) ?_
                refine JL.val rfl rfl rfl (.none rfl) (Ev.ex0 rfl) ?_
                refine JL.val rfl rfl rfl (.none rfl) (Ev.ex1 rfl) ?_
                refine JL.val rfl rfl rfl (.none rfl) (Ev.assign rfl) ?_
                refine JL.val rfl rfl rfl (.none rfl) (Ev.assign rfl) ?_
                refine JL.nil ?_
                refine JQ.thenN ?_
                refine JC.seq ?_
                refine JC.seq ?_
                -- region 10
                refine JC.region ?_
                refine JL.val rfl rfl rfl (.none rfl) (Ev.move rfl) ?_
                refine JL.val rfl rfl rfl (.none rfl) (Ev.bin rfl rfl neq_int) ?_
                refine JL.nil ?_
                refine JQ.thenN ?_
                refine JC.cond rfl (fun hc4 => ?_) (fun hc4 => ?_)
                · -- t55 True
                  have hnd : ¬ (drawn s (i + UInt32.ofNat k) m).isSome := fun h => by rw [drawnE, if_pos h] at hc4; simp at hc4
                  have hall : ¬ allD s i m n := fun h => hnd (h k hk1)
                  refine JC.seq ?_
                  -- region 11
                  refine JC.region ?_
                  refine JL.val rfl rfl rfl (.none rfl) (Ev.move rfl) ?_
                  refine JL.val rfl rfl rfl (.none rfl) (Ev.assign rfl) ?_
                  refine JL.val rfl rfl rfl (.none rfl) (Ev.assign rfl) ?_
                  refine JL.nil ?_
                  refine JQ.thenN ?_
                  refine JC.ret ?_
                  refine JQ.thenR ?_
                  refine JQ.blockR ?_
                  refine JQ.thenR ?_
                  refine JQ.thenR ?_
                  refine JQ.blockR ?_
                  refine JQ.thenR ?_
                  refine JQ.end2 (H' := []) (.inl rfl) rfl (.tmp rfl) (.tmp rfl) ?_ ?_
                  · first | exact Sub.all | exact Sub.of_cnt (fun a => by (try dsimp only); simp only [cntA]; omega) | repeat (first | exact Sub.nil | refine Sub.cons (by first | exact .here | exact .there .here | exact .there (.there .here) | exact .there (.there (.there .here)) | exact .there (.there (.there (.there .here)))) ?_ | exact Sub.all)
                  · exact ⟨none, by rw [sampL_none hok hn4 hall, sampE_none hok hn4 hall, drawnE, if_neg hnd]; rfl, rfl, by rw [sampL_none hok hn4 hall]; exact Row.ok0⟩
                · -- t55 False
                  have hds : (drawn s (i + UInt32.ofNat k) m).isSome := Classical.byContradiction fun h => by rw [drawnE, if_neg h] at hc4; simp at hc4
                  refine JC.skip ?_
                  refine JQ.thenN ?_
                  -- region 12
                  refine JC.region ?_
                  refine JL.val rfl rfl rfl (.none rfl) (Ev.move rfl) ?_
                  refine JL.val rfl rfl rfl (.none rfl) (Ev.move rfl) ?_
                  refine JL.new rfl rfl rfl (.none rfl) (En.bsN (e := 51) rfl (fun _ => by kernel_rfl)) (fun b59 hb59 => ?_)
                  refine JL.gen rfl rfl rfl (.none rfl) (Eg.append1 (z := (.int .u64 0)) (s := 1) (bytes := 8) rfl rfl rfl (by repeat (first | exact .last | exact .here | apply Cut.past | apply Cut.there)) Tryd.underlying48 (by kernel_rfl) rfl (by decide) (by decide) (by assumption) (Rds.all (by repeat (first | exact List.Mem.head _ | refine List.Mem.tail _ ?_ | refine List.mem_append_right _ ?_ | assumption))) rfl (by decide) (by intro u hu; first | exact fl_one _ u hu | exact u8s_one _ u hu | (simp at hu; subst hu; rfl)) (by omega)) ?_
                  rintro _ _ ⟨r60, rfl, rfl, hr60⟩
                  refine JL.val rfl rfl rfl (.none rfl) (Ev.assign rfl) ?_
                  refine JL.nil ?_
                  refine JQ.blockN ?_
                  refine JQ.thenN ?_
                  -- region 13
                  refine JC.region ?_
                  refine JL.val rfl rfl rfl (.none rfl) (Ev.bin rfl rfl (add_i64 (by omega))) ?_
                  refine JL.val rfl rfl rfl (.none rfl) (Ev.move rfl) ?_
                  refine JL.nil ?_
                  refine JQ.loopN (k + 1, some r60) ?_ ?_ ?_ ?_
                  · exact Keeps.get (by repeat (first | exact Keeps.nil | refine Keeps.cons rfl ?_))
                  · first | exact Sub.all | exact Sub.of_cnt (fun a => by (try dsimp only); simp only [cntA]; omega) | repeat (first | exact Sub.nil | refine Sub.cons (by first | exact .here | exact .there .here | exact .there (.there .here) | exact .there (.there (.there .here)) | exact .there (.there (.there (.there .here)))) ?_ | exact Sub.all)
                  · exact ⟨by omega, by rw [draws_succ, List.map_append]; exact hr60, allD_succ had hds⟩
                  · show n - (k + 1) < n - k; omega
              · -- t42 False
                replace hc3 := of_decide_eq_false hc3
                obtain rfl : k = n := by omega
                refine JC.exit ?_
                refine JQ.thenE ?_
                refine JQ.thenE ?_
                refine JQ.blockE ?_
                refine JQ.thenN ?_
                refine JC.seq ?_
                -- region 14
                refine JC.region ?_
                refine JL.val rfl rfl rfl (.none rfl) (Ev.move rfl) ?_
                refine JL.val rfl rfl rfl (.none rfl) (Ev.assign rfl) ?_
                refine JL.val rfl rfl rfl (.none rfl) (Ev.assign rfl) ?_
                refine JL.nil ?_
                refine JQ.thenN ?_
                refine JC.ret ?_
                refine JQ.end2 (H' := Row.b 51 q) (.inl rfl) rfl (.tmp rfl) (.tmp rfl) ?_ ?_
                · first | exact Sub.all | exact Sub.of_cnt (fun a => by (try dsimp only); simp only [cntA]; omega) | repeat (first | exact Sub.nil | refine Sub.cons (by first | exact .here | exact .there .here | exact .there (.there .here) | exact .there (.there (.there .here)) | exact .there (.there (.there (.there .here)))) ?_ | exact Sub.all)
                · exact ⟨q, by rw [sampL_all hok hn4 had, sampE_all hok hn4 had, draws_length], rfl, by rw [sampL_all hok hn4 had, draws_length]; exact hq⟩

theorem sameInts_any (oa ob : Option Addr) (ca cb : Nat) (l m : List Int) (w : World) (hl : Cs w oa l.length ca (l.map i64)) (hm : Cs w ob m.length cb (m.map i64)) (hn : l.length ≤ 1000000) :
    Calls Tryd.prog 18 #[.slice oa l.length ca, .slice ob m.length cb] w (Ret w (fun v _ => v = .bool (decide (l = m)))) := by
  refine enter (vs := [.slice oa l.length ca, .slice ob m.length cb]) Tryd.func18 rfl Tryd.ntmps18 rfl ?_
  refine JC.seq ?_
  -- region 0
  refine JC.region ?_
  refine JL.val rfl rfl rfl (.none rfl) (Ev.assign rfl) ?_
  refine JL.nil ?_
  refine JQ.thenN ?_
  refine JC.seq ?_
  refine JC.seq ?_
  -- region 1
  refine JC.region ?_
  refine JL.val rfl rfl rfl (.none rfl) (Ev.move rfl) ?_
  refine JL.val rfl rfl rfl (.none rfl) (Ev.lenS rfl Tryd.underlying28) ?_
  refine JL.val rfl rfl rfl (.none rfl) (Ev.move rfl) ?_
  refine JL.val rfl rfl rfl (.none rfl) (Ev.lenS rfl Tryd.underlying28) ?_
  refine JL.val rfl rfl rfl (.none rfl) (Ev.bin rfl rfl neq_int) ?_
  refine JL.nil ?_
  refine JQ.thenN ?_
  refine JC.cond rfl (fun hc1 => ?_) (fun hc1 => ?_)
  · -- t10 True
    replace hc1 := of_decide_eq_true hc1
    have hne : l.length ≠ m.length := by omega
    refine JC.seq ?_
    -- region 2
    refine JC.region ?_
    refine JL.val rfl rfl rfl (.none rfl) (Ev.assign rfl) ?_
    refine JL.nil ?_
    refine JQ.thenN ?_
    refine JC.ret ?_
    refine JQ.thenR ?_
    refine JQ.end1 (H' := []) (.inl rfl) rfl (.tmp rfl) ?_ ?_
    · first | exact Sub.all | exact Sub.of_cnt (fun a => by (try dsimp only); simp only [cntA]; omega) | repeat (first | exact Sub.nil | refine Sub.cons (by first | exact .here | exact .there .here | exact .there (.there .here) | exact .there (.there (.there .here)) | exact .there (.there (.there (.there .here)))) ?_ | exact Sub.all)
    · exact congrArg Value.bool (decide_eq_false (fun h => hne (by rw [h]))).symm
  · -- t10 False
    replace hc1 := of_decide_eq_false hc1
    have hlen : l.length = m.length := by omega
    refine JC.skip ?_
    refine JQ.thenN ?_
    refine JC.seq ?_
    refine JC.seq ?_
    -- region 3
    refine JC.region ?_
    refine JL.val rfl rfl rfl (.none rfl) (Ev.assign rfl) ?_
    refine JL.nil ?_
    refine JQ.thenN ?_
    refine JC.block ?_
    refine JC.loop (X := Nat)
      (fun k => [(0, .slice oa l.length ca), (1, .slice ob m.length cb), (5, .int .i64 (k : Int))])
      (fun k => [])
      (fun k => k ≤ l.length ∧ ∀ j, j < k → l[j]? = m[j]?)
      (fun k => l.length - k) 0 ?_ ?_ ?_ ?_
    · exact Keeps.get (by repeat (first | exact Keeps.nil | refine Keeps.cons rfl ?_))
    · first | exact Sub.all | exact Sub.of_cnt (fun a => by (try dsimp only); simp only [cntA]; omega) | repeat (first | exact Sub.nil | refine Sub.cons (by first | exact .here | exact .there .here | exact .there (.there .here) | exact .there (.there (.there .here)) | exact .there (.there (.there (.there .here)))) ?_ | exact Sub.all)
    · exact ⟨Nat.zero_le _, fun j hj => by omega⟩
    rintro k ⟨hk, heq⟩
    refine JC.seq ?_
    refine JC.seq ?_
    -- region 4
    refine JC.region ?_
    refine JL.val rfl rfl rfl (.none rfl) (Ev.move rfl) ?_
    refine JL.val rfl rfl rfl (.none rfl) (Ev.move rfl) ?_
    refine JL.val rfl rfl rfl (.none rfl) (Ev.lenS rfl Tryd.underlying28) ?_
    refine JL.val rfl rfl rfl (.none rfl) (Ev.bin rfl rfl lss_int) ?_
    refine JL.nil ?_
    refine JQ.thenN ?_
    refine JC.cond rfl (fun hc2 => ?_) (fun hc2 => ?_)
    · -- t14 True
      replace hc2 := of_decide_eq_true hc2
      have hkn : k < l.length := by omega
      obtain ⟨x, hx⟩ := get_some hkn
      obtain ⟨y, hy⟩ := get_some (l := m) (k := k) (by omega)
      obtain ⟨a, rfl⟩ := hl.get_some (by omega)
      obtain ⟨b, rfl⟩ := hm.get_some (by omega)
      refine JC.skip ?_
      refine JQ.thenN ?_
      refine JC.seq ?_
      refine JC.block ?_
      refine JC.seq ?_
      -- region 6
      refine JC.regionQ (by kernel_rfl) (by kernel_rfl) ?_
      refine JW.val rfl rfl (.none rfl) (Ev.move rfl) ?_
      refine JW.val rfl rfl (.none rfl) (Ev.move rfl) ?_
      refine JW.val rfl rfl (.none rfl) (Ev.idxS1 rfl rfl Tryd.underlying28 Tryd.sizeOf3 (k := k) rfl (by omega)) ?_
      refine JW.val rfl rfl (.none rfl) (Ev.load1 rfl Tryd.underlying3 rfl (Rd.old ((hl.mem a rfl).atMap hx))) ?_
      refine JW.val rfl rfl (.none rfl) (Ev.move rfl) ?_
      refine JW.val rfl rfl (.none rfl) (Ev.move rfl) ?_
      refine JW.val rfl rfl (.none rfl) (Ev.idxS1 rfl rfl Tryd.underlying28 Tryd.sizeOf3 (k := k) rfl (by omega)) ?_
      refine JW.val rfl rfl (.none rfl) (Ev.load1 rfl Tryd.underlying3 rfl (Rd.old ((hm.mem b rfl).atMap hy))) ?_
      refine JW.val rfl rfl (.none rfl) (Ev.bin rfl rfl neq_int) ?_
      refine JW.nilQ ?_
      refine JQ.thenN ?_
      refine JC.cond rfl (fun hc3 => ?_) (fun hc3 => ?_)
      · -- t25 True
        replace hc3 := of_decide_eq_true hc3
        have hd : x ≠ y := fun h => hc3 (by rw [h])
        refine JC.seq ?_
        -- region 7
        refine JC.region ?_
        refine JL.val rfl rfl rfl (.none rfl) (Ev.assign rfl) ?_
        refine JL.nil ?_
        refine JQ.thenN ?_
        refine JC.ret ?_
        refine JQ.blockR ?_
        refine JQ.thenR ?_
        refine JQ.thenR ?_
        refine JQ.blockR ?_
        refine JQ.thenR ?_
        refine JQ.end1 (H' := []) (.inl rfl) rfl (.tmp rfl) ?_ ?_
        · first | exact Sub.all | exact Sub.of_cnt (fun a => by (try dsimp only); simp only [cntA]; omega) | repeat (first | exact Sub.nil | refine Sub.cons (by first | exact .here | exact .there .here | exact .there (.there .here) | exact .there (.there (.there .here)) | exact .there (.there (.there (.there .here)))) ?_ | exact Sub.all)
        · exact congrArg Value.bool (decide_eq_false (fun h => hd (by rw [h, hy] at hx; exact (Option.some.inj hx).symm))).symm
      · -- t25 False
        replace hc3 := of_decide_eq_false hc3
        have hd : x = y := id (Decidable.not_not.1 hc3)
        refine JC.skip ?_
        refine JQ.blockN ?_
        refine JQ.thenN ?_
        -- region 5
        refine JC.region ?_
        refine JL.val rfl rfl rfl (.none rfl) (Ev.move rfl) ?_
        refine JL.val rfl rfl rfl (.none rfl) (Ev.bin rfl rfl (add_i64 (by omega))) ?_
        refine JL.val rfl rfl rfl (.none rfl) (Ev.assign rfl) ?_
        refine JL.nil ?_
        refine JQ.loopN (k + 1) ?_ ?_ ?_ ?_
        · exact Keeps.get (by repeat (first | exact Keeps.nil | refine Keeps.cons rfl ?_))
        · first | exact Sub.all | exact Sub.of_cnt (fun a => by (try dsimp only); simp only [cntA]; omega) | repeat (first | exact Sub.nil | refine Sub.cons (by first | exact .here | exact .there .here | exact .there (.there .here) | exact .there (.there (.there .here)) | exact .there (.there (.there (.there .here)))) ?_ | exact Sub.all)
        · exact ⟨by omega, all_succ heq (by rw [hx, hy, hd])⟩
        · omega
    · -- t14 False
      replace hc2 := of_decide_eq_false hc2
      obtain rfl : k = l.length := by omega
      refine JC.exit ?_
      refine JQ.thenE ?_
      refine JQ.thenE ?_
      refine JQ.blockE ?_
      refine JQ.thenN ?_
      refine JC.seq ?_
      -- region 8
      refine JC.region ?_
      refine JL.val rfl rfl rfl (.none rfl) (Ev.assign rfl) ?_
      refine JL.nil ?_
      refine JQ.thenN ?_
      refine JC.ret ?_
      refine JQ.end1 (H' := []) (.inl rfl) rfl (.tmp rfl) ?_ ?_
      · first | exact Sub.all | exact Sub.of_cnt (fun a => by (try dsimp only); simp only [cntA]; omega) | repeat (first | exact Sub.nil | refine Sub.cons (by first | exact .here | exact .there .here | exact .there (.there .here) | exact .there (.there (.there .here)) | exact .there (.there (.there (.there .here)))) ?_ | exact Sub.all)
      · exact congrArg Value.bool (decide_eq_true (eq_upto hlen heq)).symm

end Go.Proofs.YtjjoenbighmfoaaDoor
