/-
  The chapter's examples of draws; the lot is a permutation; longer samples begin with shorter ones; the first try.
-/
import Derived.Test.YtegcdgpkoombmaaDoorDraw5
import Derived.Test.YtegcdgpkoombmaaDoorDraw3
namespace Go.Proofs.YtegcdgpkoombmaaDoor
open Go Go.RowKit
set_option maxRecDepth 100000

theorem drawn_one (s : List UInt8) (i : UInt32) : drawn s i 1 = some 0 := by
  have h : small 1 (tryD s i 0) := by
    unfold small
    have := (tryD s i 0).toNat_lt
    have e : (1 : UInt64).toNat = 1 := rfl
    rw [e, Nat.mod_one]
    omega
  rw [drawn_some (by decide) (fun j hj => by omega) h]
  congr 1
  apply UInt64.toNat_inj.1
  rw [UInt64.toNat_mod]
  exact Nat.mod_one _
theorem num_one (s : List UInt8) (i : UInt32) : numV s i 1 = 0 ∧ numE s i 1 = 0 := by
  have h : ¬ ((1 : UInt64).toNat < 1 ∨ 4294967296 < (1 : UInt64).toNat) := by decide
  rw [numV_ok h, numE_ok h]
  simp [drawnV, drawnE, drawn_one]
theorem samp_one (s : List UInt8) {i : UInt32} {n : Nat} (h : i.toNat + n ≤ 4294967296) (h1 : n ≤ 4096) : sampE s i (n : Int) 1 = 0 ∧ sampL s i (n : Int) 1 = List.replicate n 0 := by
  have hok : ¬ badS i (n : Int) 1 := notBad h (by decide) (by decide)
  have had : allD s i 1 n := fun k _ => by rw [drawn_one]; rfl
  refine ⟨sampE_all hok h1 had, ?_⟩
  rw [sampL_all hok h1 had]
  unfold draws
  rw [List.map_congr_left (g := fun _ => (0 : UInt64)) (fun k _ => by simp [drawnV, drawn_one])]
  rw [List.map_const']
  simp
theorem lot_zero (s : List UInt8) : lotE s 0 = 0 ∧ lotL s 0 = [] := by
  have hok : ¬ badL ((0 : Nat) : Int) := by unfold badL; omega
  have h : okLot s 0 (0 - 1) := fun j hj => by omega
  exact ⟨lotE_all hok h, lotL_all hok h⟩
theorem lot_one (s : List UInt8) : lotE s 1 = 0 ∧ lotL s 1 = [0] := by
  have hok : ¬ badL ((1 : Nat) : Int) := by unfold badL; omega
  have h : okLot s 1 (1 - 1) := fun j hj => by omega
  exact ⟨lotE_all hok h, lotL_all hok h⟩
/-- A list of the numbers below its length, each once. -/
def IsPerm (l : List Int) : Prop := (∀ x ∈ l, 0 ≤ x ∧ x < (l.length : Int)) ∧ ∀ i k : Nat, k < i → i < l.length → l[k]? ≠ l[i]?
theorem perm_init (n : Nat) : IsPerm (initL n n) := by
  have e : initL n n = (List.range n).map Int.ofNat := by simp [initL]
  rw [e]
  refine ⟨fun x hx => ?_, fun i k hki hi => ?_⟩
  · obtain ⟨j, hj, rfl⟩ := List.mem_map.1 hx
    have := List.mem_range.1 hj
    simp
    omega
  · simp at hi
    have : k < n := by omega
    simp [hi, this]
    omega
theorem swap_get {l : List Int} {i k : Nat} (hi : i < l.length) (hk : k < l.length) (j : Nat) : (swapL l i k)[j]? = l[if j = k then i else if j = i then k else j]? := by
  unfold swapL
  rw [List.getElem?_set]
  by_cases h1 : k = j
  · subst h1
    simp [hk, hi]
  · rw [if_neg h1, if_neg (fun h => h1 h.symm), List.getElem?_set]
    by_cases h2 : i = j
    · subst h2
      simp [hi, hk]
    · rw [if_neg h2, if_neg (fun h => h2 h.symm)]
theorem perm_swap {l : List Int} {i k : Nat} (h : IsPerm l) (hi : i < l.length) (hk : k < l.length) : IsPerm (swapL l i k) := by
  have hl : (swapL l i k).length = l.length := by simp [swapL]
  have hne : ∀ a b : Nat, a ≠ b → a < l.length → b < l.length → l[a]? ≠ l[b]? := by
    intro a b hab ha hb
    rcases Nat.lt_or_ge a b with h1 | h1
    · exact h.2 b a h1 hb
    · exact fun e => h.2 a b (by omega) ha e.symm
  refine ⟨fun x hx => ?_, fun a b hba ha => ?_⟩
  · rw [hl]
    obtain ⟨j, hj⟩ := List.getElem?_of_mem hx
    rw [swap_get hi hk] at hj
    exact h.1 x (List.mem_of_getElem? hj)
  · rw [hl] at ha
    rw [swap_get hi hk, swap_get hi hk]
    apply hne
    · (repeat' split) <;> omega
    · (repeat' split) <;> omega
    · (repeat' split) <;> omega
theorem lot_perm {s : List UInt8} {n : Nat} (hn : n ≤ 64) : ∀ t, t ≤ n - 1 → okLot s n t → IsPerm (lotAt s n t)
  | 0, _, _ => perm_init n
  | t + 1, ht, h => by
    have hj := h t (by omega)
    obtain ⟨hb1, hb2⟩ := lim_ok (show n - 1 - t ≤ 64 by omega)
    have hlt := drawnV_lt hj hb1
    have := Nat.lt_of_lt_of_eq hlt hb2
    refine perm_swap (lot_perm hn t (by omega) (fun j hj => h j (by omega))) (by rw [lotAt_length]; omega) ?_
    rw [lotAt_length]
    unfold pickK
    omega
theorem perm_nil : IsPerm [] := ⟨fun x hx => absurd hx (by simp), fun i k _ h => absurd h (by simp)⟩
theorem lotL_perm {s : List UInt8} {z : Int} (h : ¬ badL z) : IsPerm (lotL s z) := by
  obtain ⟨n, rfl⟩ : ∃ n : Nat, z = (n : Int) := ⟨z.toNat, by unfold badL at h; omega⟩
  by_cases h1 : okLot s n (n - 1)
  · rw [lotL_all h h1]
    exact lot_perm (by unfold badL at h; omega) _ (Nat.le_refl _) h1
  · rw [lotL_none h h1]
    exact perm_nil
theorem lotE_cases (s : List UInt8) {z : Int} (h : ¬ badL z) : lotE s z = 0 ∨ lotE s z = 6 := by
  obtain ⟨n, rfl⟩ : ∃ n : Nat, z = (n : Int) := ⟨z.toNat, by unfold badL at h; omega⟩
  by_cases h1 : okLot s n (n - 1)
  · exact .inl (lotE_all h h1)
  · exact .inr (lotE_none h h1)
theorem lotL_len {s : List UInt8} {z : Int} (h : ¬ badL z) (he : lotE s z = 0) : ((lotL s z).length : Int) = z := by
  obtain ⟨n, rfl⟩ : ∃ n : Nat, z = (n : Int) := ⟨z.toNat, by unfold badL at h; omega⟩
  by_cases h1 : okLot s n (n - 1)
  · rw [lotL_all h h1, lotAt_length]
  · rw [lotE_none h h1] at he
    cases he

theorem alive_any (w : World) (hk : KMem 1 w) (hf : FMem 0 w) :
    Calls Tryd.prog 23 #[] w (Ret w (fun v _ => v = .bool true)) := by
  refine enter (vs := []) Tryd.func23 rfl Tryd.ntmps23 rfl ?_
  refine JC.seq ?_
  -- region 0
  refine JC.region ?_
  refine JL.val rfl rfl rfl (.none rfl) (Ev.assign rfl) ?_
  refine JL.nil ?_
  refine JQ.thenN ?_
  refine JC.seq ?_
  -- region 1
  refine JC.region ?_
  refine JL.val rfl rfl rfl (.none rfl) (Ev.build (parts := [(0, .const (.int .u8 1))]) (vs := [(0, .int .u8 1)]) (cs := arr8 (1 :: List.replicate 31 0)) (fun _ _ => rfl) (fun _ => by kernel_rfl)) ?_
  refine JL.callN rfl (.none rfl) rfl Tryd.call20 (fun w1 hw1 => Lot_any (1 :: List.replicate 31 0) rfl 0 (by decide) w1 (hk.old hw1) (hf.old hw1)) ?_
  rintro _ _ ⟨r1, rfl, rfl, hr1⟩
  refine JL.val rfl rfl rfl (.none rfl) (Ev.move rfl) ?_
  refine JL.val rfl rfl rfl (.none rfl) (Ev.ex0 rfl) ?_
  refine JL.val rfl rfl rfl (.none rfl) (Ev.ex1 rfl) ?_
  refine JL.val rfl rfl rfl (.none rfl) (Ev.assign rfl) ?_
  refine JL.val rfl rfl rfl (.none rfl) (Ev.assign rfl) ?_
  refine JL.nil ?_
  refine JQ.thenN ?_
  refine JC.seq ?_
  -- region 2
  refine JC.region ?_
  refine JL.val rfl rfl rfl (.none rfl) (Ev.build (parts := [(0, .const (.int .u8 2))]) (vs := [(0, .int .u8 2)]) (cs := arr8 (2 :: List.replicate 31 0)) (fun _ _ => rfl) (fun _ => by kernel_rfl)) ?_
  refine JL.callN rfl (.none rfl) rfl Tryd.call20 (fun w1 hw1 => Lot_any (2 :: List.replicate 31 0) rfl 1 (by decide) w1 (hk.old hw1) (hf.old hw1)) ?_
  rintro _ _ ⟨r2, rfl, rfl, hr2⟩
  refine JL.val rfl rfl rfl (.none rfl) (Ev.move rfl) ?_
  refine JL.val rfl rfl rfl (.none rfl) (Ev.ex0 rfl) ?_
  refine JL.val rfl rfl rfl (.none rfl) (Ev.ex1 rfl) ?_
  refine JL.val rfl rfl rfl (.none rfl) (Ev.assign rfl) ?_
  refine JL.val rfl rfl rfl (.none rfl) (Ev.assign rfl) ?_
  refine JL.nil ?_
  refine JQ.thenN ?_
  refine JC.seq ?_
  -- region 3
  refine JC.region ?_
  refine JL.val rfl rfl rfl (.none rfl) (Ev.build (parts := [(0, .const (.int .u8 3))]) (vs := [(0, .int .u8 3)]) (cs := arr8 (3 :: List.replicate 31 0)) (fun _ _ => rfl) (fun _ => by kernel_rfl)) ?_
  refine JL.callN rfl (.none rfl) rfl Tryd.call17 (fun w1 hw1 => Sample_any (3 :: List.replicate 31 0) rfl 5 3 (by decide) 1 w1 (hk.old hw1) (hf.old hw1)) ?_
  rintro _ _ ⟨r3, rfl, rfl, hr3⟩
  refine JL.val rfl rfl rfl (.none rfl) (Ev.move rfl) ?_
  refine JL.val rfl rfl rfl (.none rfl) (Ev.ex0 rfl) ?_
  refine JL.val rfl rfl rfl (.none rfl) (Ev.ex1 rfl) ?_
  refine JL.val rfl rfl rfl (.none rfl) (Ev.assign rfl) ?_
  refine JL.val rfl rfl rfl (.none rfl) (Ev.assign rfl) ?_
  refine JL.nil ?_
  refine JQ.thenN ?_
  refine JC.seq ?_
  -- region 4
  refine JC.region ?_
  refine JL.val rfl rfl rfl (.none rfl) (Ev.bu0 Tryd.underlying25 Tryd.sizeOf5 Tryd.zeroValue25) ?_
  refine JL.callV rfl (.none rfl) rfl Tryd.call15 (fun w1 hw1 => Number_any (List.replicate 32 0) rfl 0 1 w1 (hk.old hw1) (hf.old hw1)) ?_
  refine JL.val rfl rfl rfl (.none rfl) (Ev.move rfl) ?_
  refine JL.val rfl rfl rfl (.none rfl) (Ev.ex0 rfl) ?_
  refine JL.val rfl rfl rfl (.none rfl) (Ev.ex1 rfl) ?_
  refine JL.val rfl rfl rfl (.none rfl) (Ev.assign rfl) ?_
  refine JL.val rfl rfl rfl (.none rfl) (Ev.assign rfl) ?_
  refine JL.nil ?_
  refine JQ.thenN ?_
  refine JC.seq ?_
  -- region 5
  refine JC.region ?_
  obtain ⟨o1, c1, e1, _, hC1⟩ := Row.vw (e := 3) hr1
  refine JL.re (d := 1) rfl e1 ?_
  obtain ⟨o2, c2, e2, _, hC2⟩ := Row.vw (e := 3) hr2
  refine JL.re (d := 3) rfl e2 ?_
  obtain ⟨o3, c3, e3, _, hC3⟩ := Row.vw (e := 34) hr3
  refine JL.re (d := 5) rfl e3 ?_
  refine JL.re (d := 2) (v' := .int .i64 0) rfl (congrArg (Value.int .i64) ((lot_zero _).1)) ?_
  refine JL.re (d := 4) (v' := .int .i64 0) rfl (congrArg (Value.int .i64) ((lot_one _).1)) ?_
  refine JL.re (d := 6) (v' := .int .i64 0) rfl (congrArg (Value.int .i64) ((samp_one _ (i := 5) (n := 3) (by decide) (by decide)).1)) ?_
  refine JL.re (d := 8) (v' := .int .i64 0) rfl (congrArg (Value.int .i64) ((num_one _ _).2)) ?_
  refine JL.re (d := 7) (v' := u64 0) rfl (congrArg u64 (num_one _ _).1) ?_
  refine JL.val rfl rfl rfl (.none rfl) (Ev.move rfl) ?_
  refine JL.val rfl rfl rfl (.none rfl) (Ev.bin rfl rfl eql_int) ?_
  refine JL.val rfl rfl rfl (.none rfl) (Ev.move rfl) ?_
  refine JL.know (d := 31) (b := true) rfl ?_ ?_
  · rfl
  refine JL.val rfl rfl rfl (.yes rfl rfl rfl) (Ev.move rfl) ?_
  refine JL.val rfl rfl rfl (.yes rfl rfl rfl) (Ev.lenS rfl Tryd.underlying47) ?_
  refine JL.val rfl rfl rfl (.yes rfl rfl rfl) (Ev.bin rfl rfl eql_int) ?_
  refine JL.val rfl rfl rfl (.none rfl) (Ev.pickT rfl rfl) ?_
  refine JL.val rfl rfl rfl (.none rfl) (Ev.move rfl) ?_
  refine JL.know (d := 36) (b := true) rfl ?_ ?_
  · exact decide_eq_true (by rw [(lot_zero _).2]; rfl)
  refine JL.val rfl rfl rfl (.yes rfl rfl rfl) (Ev.move rfl) ?_
  refine JL.val rfl rfl rfl (.yes rfl rfl rfl) (Ev.bin rfl rfl eql_int) ?_
  refine JL.val rfl rfl rfl (.none rfl) (Ev.pickT rfl rfl) ?_
  refine JL.val rfl rfl rfl (.none rfl) (Ev.move rfl) ?_
  refine JL.know (d := 40) (b := true) rfl ?_ ?_
  · rfl
  refine JL.val rfl rfl rfl (.yes rfl rfl rfl) (Ev.move rfl) ?_
  refine JL.new rfl rfl rfl (.yes rfl rfl rfl) (En.bsN (e := 3) rfl (fun _ => by kernel_rfl)) (fun b42 hb42 => ?_)
  refine JL.callV rfl (.yes rfl rfl rfl) rfl Tryd.call22 (fun w1 hw1 => sameInts_any o2 (some ⟨b42, 0, none⟩) c2 1 (lotL (2 :: List.replicate 31 0) 1) [0] w1 (hC2 w1 hw1 (fun p hp => by simp [hp])) (cs_block hw1 (.head _) (by decide)) (lotL_le _ _)) ?_
  refine JL.val rfl rfl rfl (.none rfl) (Ev.pickT rfl rfl) ?_
  refine JL.val rfl rfl rfl (.none rfl) (Ev.move rfl) ?_
  refine JL.know (d := 45) (b := true) rfl ?_ ?_
  · exact decide_eq_true (lot_one _).2
  refine JL.val rfl rfl rfl (.yes rfl rfl rfl) (Ev.move rfl) ?_
  refine JL.val rfl rfl rfl (.yes rfl rfl rfl) (Ev.bin rfl rfl eql_int) ?_
  refine JL.val rfl rfl rfl (.none rfl) (Ev.pickT rfl rfl) ?_
  refine JL.val rfl rfl rfl (.none rfl) (Ev.move rfl) ?_
  refine JL.know (d := 49) (b := true) rfl ?_ ?_
  · rfl
  refine JL.val rfl rfl rfl (.yes rfl rfl rfl) (Ev.move rfl) ?_
  refine JL.new rfl rfl rfl (.yes rfl rfl rfl) (En.bsN (e := 34) rfl (fun _ => by kernel_rfl)) (fun b51 hb51 => ?_)
  refine JL.callV rfl (.yes rfl rfl rfl) rfl Tryd.call19 (fun w1 hw1 => sameNumbers_any o3 (some ⟨b51, 0, none⟩) c3 3 (sampL (3 :: List.replicate 31 0) 5 3 1) [0, 0, 0] w1 (hC3 w1 hw1 (fun p hp => by simp [hp])) (cs_block hw1 (.head _) (by decide)) (sampL_le _ _ _ _)) ?_
  refine JL.val rfl rfl rfl (.none rfl) (Ev.pickT rfl rfl) ?_
  refine JL.val rfl rfl rfl (.none rfl) (Ev.move rfl) ?_
  refine JL.know (d := 54) (b := true) rfl ?_ ?_
  · exact decide_eq_true (samp_one _ (i := 5) (n := 3) (by decide) (by decide)).2
  refine JL.val rfl rfl rfl (.yes rfl rfl rfl) (Ev.move rfl) ?_
  refine JL.val rfl rfl rfl (.yes rfl rfl rfl) (Ev.bin rfl rfl eql_int) ?_
  refine JL.val rfl rfl rfl (.none rfl) (Ev.pickT rfl rfl) ?_
  refine JL.val rfl rfl rfl (.none rfl) (Ev.move rfl) ?_
  refine JL.know (d := 58) (b := true) rfl ?_ ?_
  · rfl
  refine JL.val rfl rfl rfl (.yes rfl rfl rfl) (Ev.move rfl) ?_
  refine JL.val rfl rfl rfl (.yes rfl rfl rfl) (Ev.bin rfl rfl eql_int) ?_
  refine JL.val rfl rfl rfl (.none rfl) (Ev.pickT rfl rfl) ?_
  refine JL.val rfl rfl rfl (.none rfl) (Ev.assign rfl) ?_
  refine JL.nil ?_
  refine JQ.thenN ?_
  refine JC.ret ?_
  refine JQ.end1 (H' := []) (.inl rfl) rfl (.tmp rfl) ?_ ?_
  · first | exact Sub.all | exact Sub.of_cnt (fun a => by simp only [cnt_append, cnt_cons, cnt_nil, List.nil_append, List.append_nil]; omega) | repeat (first | exact Sub.nil | refine Sub.cons (by first | exact .here | exact .there .here | exact .there (.there .here) | exact .there (.there (.there .here)) | exact .there (.there (.there (.there .here)))) ?_ | exact Sub.all)
  · exact rfl

theorem perm_any (oa : Option Addr) (cap : Nat) (l : List Int) (w : World) (hl : Cs w oa l.length cap (l.map i64)) (hn : l.length ≤ 1000000) (hp1 : ∀ x ∈ l, 0 ≤ x ∧ x < (l.length : Int)) (hp2 : ∀ i k : Nat, k < i → i < l.length → l[k]? ≠ l[i]?) :
    Calls Tryd.prog 24 #[.slice oa l.length cap] w (Ret w (fun v _ => v = .bool true)) := by
  refine enter (vs := [.slice oa l.length cap]) Tryd.func24 rfl Tryd.ntmps24 rfl ?_
  refine JC.seq ?_
  -- region 0
  refine JC.region ?_
  refine JL.val rfl rfl rfl (.none rfl) (Ev.assign rfl) ?_
  refine JL.nil ?_
  refine JQ.thenN ?_
  refine JC.seq ?_
  refine JC.seq ?_
  -- region 1
  refine JC.region ?_
  refine JL.val rfl rfl rfl (.none rfl) (Ev.assign rfl) ?_
  refine JL.nil ?_
  refine JQ.thenN ?_
  refine JC.block ?_
  refine JC.loop (X := Nat)
    (fun i => [(0, .slice oa l.length cap), (3, .int .i64 (i : Int))])
    (fun i => [])
    (fun i => i ≤ l.length)
    (fun i => l.length - i) 0 ?_ ?_ ?_ ?_
  · exact Keeps.get (by repeat (first | exact Keeps.nil | refine Keeps.cons rfl ?_))
  · first | exact Sub.all | exact Sub.of_cnt (fun a => by simp only [cnt_append, cnt_cons, cnt_nil, List.nil_append, List.append_nil]; omega) | repeat (first | exact Sub.nil | refine Sub.cons (by first | exact .here | exact .there .here | exact .there (.there .here) | exact .there (.there (.there .here)) | exact .there (.there (.there (.there .here)))) ?_ | exact Sub.all)
  · exact Nat.zero_le _
  rintro i hi
  refine JC.seq ?_
  refine JC.seq ?_
  -- region 2
  refine JC.region ?_
  refine JL.val rfl rfl rfl (.none rfl) (Ev.move rfl) ?_
  refine JL.val rfl rfl rfl (.none rfl) (Ev.move rfl) ?_
  refine JL.val rfl rfl rfl (.none rfl) (Ev.lenS rfl Tryd.underlying47) ?_
  refine JL.val rfl rfl rfl (.none rfl) (Ev.bin rfl rfl lss_int) ?_
  refine JL.nil ?_
  refine JQ.thenN ?_
  refine JC.cond rfl (fun hc1 => ?_) (fun hc1 => ?_)
  · -- t8 True
    replace hc1 := of_decide_eq_true hc1
    have hin : i < l.length := by omega
    obtain ⟨x, hx⟩ := get_some hin
    obtain ⟨a, rfl⟩ := hl.get_some (by omega)
    obtain ⟨hx0, hx1⟩ := hp1 x (List.mem_of_getElem? hx)
    refine JC.skip ?_
    refine JQ.thenN ?_
    refine JC.seq ?_
    refine JC.block ?_
    refine JC.seq ?_
    refine JC.seq ?_
    -- region 4
    refine JC.region ?_
    refine JL.val rfl rfl rfl (.none rfl) (Ev.move rfl) ?_
    refine JL.val rfl rfl rfl (.none rfl) (Ev.move rfl) ?_
    refine JL.val rfl rfl rfl (.none rfl) (Ev.idxS1 rfl rfl Tryd.underlying47 Tryd.sizeOf3 (k := i) rfl (by omega)) ?_
    refine JL.val rfl rfl rfl (.none rfl) (Ev.load1 rfl Tryd.underlying3 rfl (Rd.old ((hl.mem a rfl).atMap hx))) ?_
    refine JL.val rfl rfl rfl (.none rfl) (Ev.bin rfl rfl lss_int) ?_
    refine JL.val rfl rfl rfl (.none rfl) (Ev.move rfl) ?_
    refine JL.know (d := 16) (b := false) rfl ?_ ?_
    · exact decide_eq_false (by omega)
    refine JL.val rfl rfl rfl (.yes rfl rfl rfl) (Ev.move rfl) ?_
    refine JL.val rfl rfl rfl (.yes rfl rfl rfl) (Ev.move rfl) ?_
    refine JL.val rfl rfl rfl (.yes rfl rfl rfl) (Ev.idxS1 rfl rfl Tryd.underlying47 Tryd.sizeOf3 (k := i) rfl (by omega)) ?_
    refine JL.val rfl rfl rfl (.yes rfl rfl rfl) (Ev.load1 rfl Tryd.underlying3 rfl (Rd.old ((hl.mem a rfl).atMap hx))) ?_
    refine JL.val rfl rfl rfl (.yes rfl rfl rfl) (Ev.move rfl) ?_
    refine JL.val rfl rfl rfl (.yes rfl rfl rfl) (Ev.lenS rfl Tryd.underlying47) ?_
    refine JL.val rfl rfl rfl (.yes rfl rfl rfl) (Ev.bin rfl rfl geq_int) ?_
    refine JL.val rfl rfl rfl (.none rfl) (Ev.pickF rfl rfl) ?_
    refine JL.nil ?_
    refine JQ.thenN ?_
    refine JC.knowF rfl ?_ ?_
    · exact decide_eq_false (by omega)
    refine JC.skip ?_
    refine JQ.thenN ?_
    refine JC.seq ?_
    -- region 6
    refine JC.region ?_
    refine JL.val rfl rfl rfl (.none rfl) (Ev.assign rfl) ?_
    refine JL.nil ?_
    refine JQ.thenN ?_
    refine JC.block ?_
    refine JC.loop (X := Nat)
      (fun k => [(0, .slice (some a) l.length cap), (3, .int .i64 (i : Int)), (4, .int .i64 (k : Int))])
      (fun k => [])
      (fun k => k ≤ i)
      (fun k => i - k) 0 ?_ ?_ ?_ ?_
    · exact Keeps.get (by repeat (first | exact Keeps.nil | refine Keeps.cons rfl ?_))
    · first | exact Sub.all | exact Sub.of_cnt (fun a => by simp only [cnt_append, cnt_cons, cnt_nil, List.nil_append, List.append_nil]; omega) | repeat (first | exact Sub.nil | refine Sub.cons (by first | exact .here | exact .there .here | exact .there (.there .here) | exact .there (.there (.there .here)) | exact .there (.there (.there (.there .here)))) ?_ | exact Sub.all)
    · exact Nat.zero_le _
    rintro k hk
    refine JC.seq ?_
    refine JC.seq ?_
    -- region 7
    refine JC.region ?_
    refine JL.val rfl rfl rfl (.none rfl) (Ev.move rfl) ?_
    refine JL.val rfl rfl rfl (.none rfl) (Ev.move rfl) ?_
    refine JL.val rfl rfl rfl (.none rfl) (Ev.bin rfl rfl lss_int) ?_
    refine JL.nil ?_
    refine JQ.thenN ?_
    refine JC.cond rfl (fun hc2 => ?_) (fun hc2 => ?_)
    · -- t27 True
      replace hc2 := of_decide_eq_true hc2
      have hki : k < i := by omega
      obtain ⟨y, hy⟩ := get_some (l := l) (k := k) (by omega)
      refine JC.skip ?_
      refine JQ.thenN ?_
      refine JC.seq ?_
      refine JC.block ?_
      refine JC.seq ?_
      -- region 9
      refine JC.regionQ (by kernel_rfl) (by kernel_rfl) ?_
      refine JW.val rfl rfl (.none rfl) (Ev.move rfl) ?_
      refine JW.val rfl rfl (.none rfl) (Ev.move rfl) ?_
      refine JW.val rfl rfl (.none rfl) (Ev.idxS1 rfl rfl Tryd.underlying47 Tryd.sizeOf3 (k := k) rfl (by omega)) ?_
      refine JW.val rfl rfl (.none rfl) (Ev.load1 rfl Tryd.underlying3 rfl (Rd.old ((hl.mem a rfl).atMap hy))) ?_
      refine JW.val rfl rfl (.none rfl) (Ev.move rfl) ?_
      refine JW.val rfl rfl (.none rfl) (Ev.move rfl) ?_
      refine JW.val rfl rfl (.none rfl) (Ev.idxS1 rfl rfl Tryd.underlying47 Tryd.sizeOf3 (k := i) rfl (by omega)) ?_
      refine JW.val rfl rfl (.none rfl) (Ev.load1 rfl Tryd.underlying3 rfl (Rd.old ((hl.mem a rfl).atMap hx))) ?_
      refine JW.val rfl rfl (.none rfl) (Ev.bin rfl rfl eql_int) ?_
      refine JW.nilQ ?_
      refine JQ.thenN ?_
      refine JC.knowF rfl ?_ ?_
      · exact decide_eq_false (fun h => hp2 i k hki hin (by rw [hx, hy, h]))
      refine JC.skip ?_
      refine JQ.blockN ?_
      refine JQ.thenN ?_
      -- region 8
      refine JC.region ?_
      refine JL.val rfl rfl rfl (.none rfl) (Ev.move rfl) ?_
      refine JL.val rfl rfl rfl (.none rfl) (Ev.bin rfl rfl (add_i64 (by omega))) ?_
      refine JL.val rfl rfl rfl (.none rfl) (Ev.assign rfl) ?_
      refine JL.nil ?_
      refine JQ.loopN (k + 1) ?_ ?_ ?_ ?_
      · exact Keeps.get (by repeat (first | exact Keeps.nil | refine Keeps.cons rfl ?_))
      · first | exact Sub.all | exact Sub.of_cnt (fun a => by simp only [cnt_append, cnt_cons, cnt_nil, List.nil_append, List.append_nil]; omega) | repeat (first | exact Sub.nil | refine Sub.cons (by first | exact .here | exact .there .here | exact .there (.there .here) | exact .there (.there (.there .here)) | exact .there (.there (.there (.there .here)))) ?_ | exact Sub.all)
      · omega
      · omega
    · -- t27 False
      replace hc2 := of_decide_eq_false hc2
      refine JC.exit ?_
      refine JQ.thenE ?_
      refine JQ.thenE ?_
      refine JQ.blockE ?_
      refine JQ.blockN ?_
      refine JQ.thenN ?_
      -- region 3
      refine JC.region ?_
      refine JL.val rfl rfl rfl (.none rfl) (Ev.move rfl) ?_
      refine JL.val rfl rfl rfl (.none rfl) (Ev.bin rfl rfl (add_i64 (by omega))) ?_
      refine JL.val rfl rfl rfl (.none rfl) (Ev.assign rfl) ?_
      refine JL.nil ?_
      refine JQ.loopN (i + 1) ?_ ?_ ?_ ?_
      · exact Keeps.get (by repeat (first | exact Keeps.nil | refine Keeps.cons rfl ?_))
      · first | exact Sub.all | exact Sub.of_cnt (fun a => by simp only [cnt_append, cnt_cons, cnt_nil, List.nil_append, List.append_nil]; omega) | repeat (first | exact Sub.nil | refine Sub.cons (by first | exact .here | exact .there .here | exact .there (.there .here) | exact .there (.there (.there .here)) | exact .there (.there (.there (.there .here)))) ?_ | exact Sub.all)
      · omega
      · omega
  · -- t8 False
    replace hc1 := of_decide_eq_false hc1
    refine JC.exit ?_
    refine JQ.thenE ?_
    refine JQ.thenE ?_
    refine JQ.blockE ?_
    refine JQ.thenN ?_
    refine JC.seq ?_
    -- region 11
    refine JC.region ?_
    refine JL.val rfl rfl rfl (.none rfl) (Ev.assign rfl) ?_
    refine JL.nil ?_
    refine JQ.thenN ?_
    refine JC.ret ?_
    refine JQ.end1 (H' := []) (.inl rfl) rfl (.tmp rfl) ?_ ?_
    · first | exact Sub.all | exact Sub.of_cnt (fun a => by simp only [cnt_append, cnt_cons, cnt_nil, List.nil_append, List.append_nil]; omega) | repeat (first | exact Sub.nil | refine Sub.cons (by first | exact .here | exact .there .here | exact .there (.there .here) | exact .there (.there (.there .here)) | exact .there (.there (.there (.there .here)))) ?_ | exact Sub.all)
    · exact rfl

theorem lawPerm_any (s : List UInt8) (hs : s.length = 32) (z : Int) (hz : -9223372036854775808 ≤ z ∧ z ≤ 9223372036854775807) (w : World) (hk : KMem 1 w) (hf : FMem 0 w) :
    Calls Tryd.prog 7 #[.agg (arr8 s), .int .i64 z] w (Ret w (fun v _ => v = .bool true)) := by
  refine enter (vs := [.agg (arr8 s), .int .i64 z]) Tryd.func7 rfl Tryd.ntmps7 rfl ?_
  refine JC.seq ?_
  -- region 0
  refine JC.region ?_
  refine JL.new rfl rfl rfl (.none rfl) (En.boxA rfl) (fun b2 hb2 => ?_)
  refine JL.val rfl rfl rfl (.none rfl) (Ev.assign rfl) ?_
  refine JL.nil ?_
  refine JQ.thenN ?_
  refine JC.seq ?_
  -- region 1
  refine JC.region ?_
  refine JL.callV rfl (.none rfl) rfl Tryd.call23 (fun w1 hw1 => alive_any w1 (hk.old hw1) (hf.old hw1)) ?_
  refine JL.val rfl rfl rfl (.none rfl) (Ev.assign rfl) ?_
  refine JL.nil ?_
  refine JQ.thenN ?_
  refine JC.seq ?_
  -- region 2
  refine JC.region ?_
  refine JL.val rfl rfl rfl (.none rfl) (Ev.loadB rfl (by repeat (first | exact List.Mem.head _ | refine List.Mem.tail _ ?_ | refine List.mem_append_right _ ?_ | assumption)) Tryd.underlying25 rfl Tryd.sizeOf25 (by rw [arr8_size, hs])) ?_
  refine JL.val rfl rfl rfl (.none rfl) (Ev.move rfl) ?_
  refine JL.callN rfl (.none rfl) rfl Tryd.call20 (fun w1 hw1 => Lot_any s hs z hz w1 (hk.old hw1) (hf.old hw1)) ?_
  rintro _ _ ⟨r1, rfl, rfl, hr1⟩
  refine JL.val rfl rfl rfl (.none rfl) (Ev.move rfl) ?_
  refine JL.val rfl rfl rfl (.none rfl) (Ev.ex0 rfl) ?_
  refine JL.val rfl rfl rfl (.none rfl) (Ev.ex1 rfl) ?_
  refine JL.val rfl rfl rfl (.none rfl) (Ev.assign rfl) ?_
  refine JL.val rfl rfl rfl (.none rfl) (Ev.assign rfl) ?_
  refine JL.nil ?_
  refine JQ.thenN ?_
  refine JC.seq ?_
  refine JC.seq ?_
  -- region 3
  refine JC.region ?_
  obtain ⟨o1, c1, e1, _, hC1⟩ := Row.vw (e := 3) hr1
  refine JL.re (d := 6) rfl e1 ?_
  refine JL.val rfl rfl rfl (.none rfl) (Ev.move rfl) ?_
  refine JL.val rfl rfl rfl (.none rfl) (Ev.bin rfl rfl lss_int) ?_
  refine JL.val rfl rfl rfl (.none rfl) (Ev.move rfl) ?_
  refine JL.split (d := 17) rfl (fun hg1 => ?_) (fun hg1 => ?_)
  · -- guard 17 true
    have hbad : badL z := .inl (by have := of_decide_eq_true hg1; omega)
    refine JL.skip rfl rfl (.noF rfl rfl rfl) ?_
    refine JL.skip rfl rfl (.noF rfl rfl rfl) ?_
    refine JL.val rfl rfl rfl (.none rfl) (Ev.pickT rfl rfl) ?_
    refine JL.nil ?_
    refine JQ.thenN ?_
    refine JC.condT rfl ?_
    refine JC.seq ?_
    -- region 4
    refine JC.region ?_
    refine JL.val rfl rfl rfl (.none rfl) (Ev.move rfl) ?_
    refine JL.val rfl rfl rfl (.none rfl) (Ev.move rfl) ?_
    refine JL.know (d := 22) (b := true) rfl ?_ ?_
    · rfl
    refine JL.val rfl rfl rfl (.yes rfl rfl rfl) (Ev.move rfl) ?_
    refine JL.val rfl rfl rfl (.yes rfl rfl rfl) (Ev.bin rfl rfl eql_int) ?_
    refine JL.val rfl rfl rfl (.none rfl) (Ev.pickT rfl rfl) ?_
    refine JL.val rfl rfl rfl (.none rfl) (Ev.move rfl) ?_
    refine JL.know (d := 26) (b := true) rfl ?_ ?_
    · exact decide_eq_true (lotE_bad hbad)
    refine JL.val rfl rfl rfl (.yes rfl rfl rfl) (Ev.move rfl) ?_
    refine JL.val rfl rfl rfl (.yes rfl rfl rfl) (Ev.lenS rfl Tryd.underlying47) ?_
    refine JL.val rfl rfl rfl (.yes rfl rfl rfl) (Ev.bin rfl rfl eql_int) ?_
    refine JL.val rfl rfl rfl (.none rfl) (Ev.pickT rfl rfl) ?_
    refine JL.val rfl rfl rfl (.none rfl) (Ev.assign rfl) ?_
    refine JL.nil ?_
    refine JQ.thenN ?_
    refine JC.ret ?_
    refine JQ.thenR ?_
    refine JQ.end1 (H' := []) (.inl rfl) rfl (.tmp rfl) ?_ ?_
    · first | exact Sub.all | exact Sub.of_cnt (fun a => by simp only [cnt_append, cnt_cons, cnt_nil, List.nil_append, List.append_nil]; omega) | repeat (first | exact Sub.nil | refine Sub.cons (by first | exact .here | exact .there .here | exact .there (.there .here) | exact .there (.there (.there .here)) | exact .there (.there (.there (.there .here)))) ?_ | exact Sub.all)
    · exact congrArg Value.bool (decide_eq_true (by rw [lotL_bad hbad]; rfl))
  · -- guard 17 false
    have hz0 := of_decide_eq_false hg1
    refine JL.val rfl rfl rfl (.yes rfl rfl rfl) (Ev.move rfl) ?_
    refine JL.val rfl rfl rfl (.yes rfl rfl rfl) (Ev.bin rfl rfl gtr_int) ?_
    refine JL.val rfl rfl rfl (.none rfl) (Ev.pickF rfl rfl) ?_
    refine JL.nil ?_
    refine JQ.thenN ?_
    refine JC.cond rfl (fun hc1 => ?_) (fun hc1 => ?_)
    · -- t20 True
      replace hc1 := of_decide_eq_true hc1
      have hbad : badL z := .inr (by omega)
      refine JC.seq ?_
      -- region 4
      refine JC.region ?_
      refine JL.val rfl rfl rfl (.none rfl) (Ev.move rfl) ?_
      refine JL.val rfl rfl rfl (.none rfl) (Ev.move rfl) ?_
      refine JL.know (d := 22) (b := true) rfl ?_ ?_
      · rfl
      refine JL.val rfl rfl rfl (.yes rfl rfl rfl) (Ev.move rfl) ?_
      refine JL.val rfl rfl rfl (.yes rfl rfl rfl) (Ev.bin rfl rfl eql_int) ?_
      refine JL.val rfl rfl rfl (.none rfl) (Ev.pickT rfl rfl) ?_
      refine JL.val rfl rfl rfl (.none rfl) (Ev.move rfl) ?_
      refine JL.know (d := 26) (b := true) rfl ?_ ?_
      · exact decide_eq_true (lotE_bad hbad)
      refine JL.val rfl rfl rfl (.yes rfl rfl rfl) (Ev.move rfl) ?_
      refine JL.val rfl rfl rfl (.yes rfl rfl rfl) (Ev.lenS rfl Tryd.underlying47) ?_
      refine JL.val rfl rfl rfl (.yes rfl rfl rfl) (Ev.bin rfl rfl eql_int) ?_
      refine JL.val rfl rfl rfl (.none rfl) (Ev.pickT rfl rfl) ?_
      refine JL.val rfl rfl rfl (.none rfl) (Ev.assign rfl) ?_
      refine JL.nil ?_
      refine JQ.thenN ?_
      refine JC.ret ?_
      refine JQ.thenR ?_
      refine JQ.end1 (H' := []) (.inl rfl) rfl (.tmp rfl) ?_ ?_
      · first | exact Sub.all | exact Sub.of_cnt (fun a => by simp only [cnt_append, cnt_cons, cnt_nil, List.nil_append, List.append_nil]; omega) | repeat (first | exact Sub.nil | refine Sub.cons (by first | exact .here | exact .there .here | exact .there (.there .here) | exact .there (.there (.there .here)) | exact .there (.there (.there (.there .here)))) ?_ | exact Sub.all)
      · exact congrArg Value.bool (decide_eq_true (by rw [lotL_bad hbad]; rfl))
    · -- t20 False
      replace hc1 := of_decide_eq_false hc1
      have hok : ¬ badL z := by unfold badL; omega
      refine JC.skip ?_
      refine JQ.thenN ?_
      refine JC.seq ?_
      -- region 5
      refine JC.region ?_
      refine JL.val rfl rfl rfl (.none rfl) (Ev.move rfl) ?_
      refine JL.val rfl rfl rfl (.none rfl) (Ev.move rfl) ?_
      refine JL.know (d := 32) (b := true) rfl ?_ ?_
      · rfl
      refine JL.val rfl rfl rfl (.yes rfl rfl rfl) (Ev.move rfl) ?_
      refine JL.val rfl rfl rfl (.yes rfl rfl rfl) (Ev.bin rfl rfl eql_int) ?_
      refine JL.val rfl rfl rfl (.yes rfl rfl rfl) (Ev.move rfl) ?_
      refine JL.split (d := 35) rfl (fun hgE => ?_) (fun hgE => ?_)
      · -- guard 35 true
        have he : lotE s z = 0 := of_decide_eq_true hgE
        refine JL.val rfl rfl rfl (.yes rfl rfl rfl) (Ev.move rfl) ?_
        refine JL.val rfl rfl rfl (.yes rfl rfl rfl) (Ev.lenS rfl Tryd.underlying47) ?_
        refine JL.val rfl rfl rfl (.yes rfl rfl rfl) (Ev.move rfl) ?_
        refine JL.val rfl rfl rfl (.yes rfl rfl rfl) (Ev.bin rfl rfl eql_int) ?_
        refine JL.val rfl rfl rfl (.yes rfl rfl rfl) (Ev.pickT rfl rfl) ?_
        refine JL.val rfl rfl rfl (.yes rfl rfl rfl) (Ev.move rfl) ?_
        refine JL.know (d := 41) (b := true) rfl ?_ ?_
        · exact decide_eq_true (lotL_len hok he)
        refine JL.val rfl rfl rfl (.yes rfl rfl rfl) (Ev.move rfl) ?_
        refine JL.callV rfl (.yes rfl rfl rfl) rfl Tryd.call24 (fun w1 hw1 => perm_any o1 c1 (lotL s z) w1 (hC1 w1 hw1 (fun p hp => by simp [hp])) (lotL_le _ _) (lotL_perm hok).1 (lotL_perm hok).2) ?_
        refine JL.val rfl rfl rfl (.yes rfl rfl rfl) (Ev.pickT rfl rfl) ?_
        refine JL.val rfl rfl rfl (.yes rfl rfl rfl) (Ev.move rfl) ?_
        refine JL.know (d := 45) (b := true) rfl ?_ ?_
        · rfl
        refine JL.skip rfl rfl (.noF rfl rfl rfl) ?_
        refine JL.skip rfl rfl (.noF rfl rfl rfl) ?_
        refine JL.val rfl rfl rfl (.yes rfl rfl rfl) (Ev.pickT rfl rfl) ?_
        refine JL.val rfl rfl rfl (.none rfl) (Ev.pickT rfl rfl) ?_
        refine JL.val rfl rfl rfl (.none rfl) (Ev.assign rfl) ?_
        refine JL.nil ?_
        refine JQ.thenN ?_
        refine JC.ret ?_
        refine JQ.end1 (H' := []) (.inl rfl) rfl (.tmp rfl) ?_ ?_
        · first | exact Sub.all | exact Sub.of_cnt (fun a => by simp only [cnt_append, cnt_cons, cnt_nil, List.nil_append, List.append_nil]; omega) | repeat (first | exact Sub.nil | refine Sub.cons (by first | exact .here | exact .there .here | exact .there (.there .here) | exact .there (.there (.there .here)) | exact .there (.there (.there (.there .here)))) ?_ | exact Sub.all)
        · rfl
      · -- guard 35 false
        have he : lotE s z = 6 := (lotE_cases s hok).resolve_left (of_decide_eq_false hgE)
        refine JL.skip rfl rfl (.noT rfl rfl rfl) ?_
        refine JL.skip rfl rfl (.noT rfl rfl rfl) ?_
        refine JL.skip rfl rfl (.noT rfl rfl rfl) ?_
        refine JL.skip rfl rfl (.noT rfl rfl rfl) ?_
        refine JL.val rfl rfl rfl (.yes rfl rfl rfl) (Ev.pickF rfl rfl) ?_
        refine JL.val rfl rfl rfl (.yes rfl rfl rfl) (Ev.move rfl) ?_
        refine JL.skip rfl rfl (.noT rfl rfl rfl) ?_
        refine JL.skip rfl rfl (.noT rfl rfl rfl) ?_
        refine JL.val rfl rfl rfl (.yes rfl rfl rfl) (Ev.pickF rfl rfl) ?_
        refine JL.val rfl rfl rfl (.yes rfl rfl rfl) (Ev.move rfl) ?_
        refine JL.val rfl rfl rfl (.yes rfl rfl rfl) (Ev.move rfl) ?_
        refine JL.val rfl rfl rfl (.yes rfl rfl rfl) (Ev.bin rfl rfl eql_int) ?_
        refine JL.val rfl rfl rfl (.yes rfl rfl rfl) (Ev.pickF rfl rfl) ?_
        refine JL.val rfl rfl rfl (.none rfl) (Ev.pickT rfl rfl) ?_
        refine JL.val rfl rfl rfl (.none rfl) (Ev.assign rfl) ?_
        refine JL.nil ?_
        refine JQ.thenN ?_
        refine JC.ret ?_
        refine JQ.end1 (H' := []) (.inl rfl) rfl (.tmp rfl) ?_ ?_
        · first | exact Sub.all | exact Sub.of_cnt (fun a => by simp only [cnt_append, cnt_cons, cnt_nil, List.nil_append, List.append_nil]; omega) | repeat (first | exact Sub.nil | refine Sub.cons (by first | exact .here | exact .there .here | exact .there (.there .here) | exact .there (.there (.there .here)) | exact .there (.there (.there (.there .here)))) ?_ | exact Sub.all)
        · exact congrArg Value.bool (decide_eq_true he)

theorem take_len {α : Type} {l : List α} {f : Nat} (h : f ≤ l.length) : (l.take f).length = f := by rw [List.length_take]; omega
theorem sampL_err {s : List UInt8} {i : UInt32} {z : Int} {m : UInt64} (h : sampE s i z m ≠ 0) : sampL s i z m = [] := by
  unfold sampE at h
  unfold sampL
  split
  · rfl
  · rename_i h1
    rw [if_neg h1] at h
    split
    · rfl
    · rename_i h2
      rw [if_neg h2] at h
      split
      · rename_i h3
        rw [if_pos h3] at h
        exact absurd rfl h
      · rfl
theorem sampE_ok {s : List UInt8} {i : UInt32} {n : Nat} {m : UInt64} (h : sampE s i (n : Int) m = 0) : ¬ badS i (n : Int) m ∧ n ≤ 4096 ∧ allD s i m n := by
  by_cases h1 : badS i (n : Int) m
  · rw [sampE_bad h1] at h; cases h
  · by_cases h2 : 4096 < (n : Int)
    · rw [sampE_great h1 h2] at h; cases h
    · by_cases h3 : allD s i m n
      · exact ⟨h1, by omega, h3⟩
      · rw [sampE_none h1 (by omega) h3] at h; cases h
theorem notBad_le {i : UInt32} {n f : Nat} {m : UInt64} (hf : f ≤ n) (h : ¬ badS i (n : Int) m) : ¬ badS i (f : Int) m := by unfold badS at h ⊢; omega
theorem draws_take {s : List UInt8} {i : UInt32} {m : UInt64} {n f : Nat} (hf : f ≤ n) : (draws s i m n).take f = draws s i m f := by
  unfold draws
  rw [← List.map_take, List.take_range, Nat.min_eq_left hf]
theorem row_cap {n cap : Nat} {xs : List Value} {r : Option Row} {oa : Option Addr} (h : Row.ok 1 n xs r) (e1 : Row.v n r = .slice oa n cap) : n ≤ cap := by
  cases r with
  | none => obtain ⟨rfl, _⟩ := h; exact Nat.zero_le _
  | some r =>
    rw [Row.v] at e1
    obtain ⟨_, _, rfl⟩ := Value.slice.inj e1
    exact h.2.1
theorem row_some {n cap : Nat} {xs : List Value} {r : Option Row} {oa : Option Addr} (h : Row.ok 1 n xs r) (e1 : Row.v n r = .slice oa n cap) (hn : 0 < n) : ∃ a, oa = some a := by
  cases r with
  | none => obtain ⟨rfl, _⟩ := h; omega
  | some r =>
    rw [Row.v] at e1
    obtain ⟨rfl, _, _⟩ := Value.slice.inj e1
    exact ⟨_, rfl⟩
theorem num_of_all {s : List UInt8} {i : UInt32} {m : UInt64} {n k : Nat} (h : ¬ badS i (n : Int) m) (had : allD s i m n) (hk : k < n) : numV s (i + UInt32.ofNat k) m = drawnV s (i + UInt32.ofNat k) m ∧ numE s (i + UInt32.ofNat k) m = 0 := by
  obtain ⟨h1, h2, _⟩ := okS h
  have h3 : ¬ (m.toNat < 1 ∨ 4294967296 < m.toNat) := by omega
  rw [numV_ok h3, numE_ok h3]
  exact ⟨rfl, by rw [drawnE, if_pos (had k hk)]⟩
theorem num_lt {s : List UInt8} {i : UInt32} {m : UInt64} {n k : Nat} (h : ¬ badS i (n : Int) m) (had : allD s i m n) (hk : k < n) : ¬ ((m.toNat : Int) ≤ ((numV s (i + UInt32.ofNat k) m).toNat : Int)) := by
  obtain ⟨h1, h2, _⟩ := okS h
  rw [(num_of_all h had hk).1]
  have := drawnV_lt (had k hk) h1
  omega
theorem draws_get {s : List UInt8} {i : UInt32} {m : UInt64} {n k : Nat} {x : UInt64} (hL : sampL s i (n : Int) m = draws s i m n) (had : allD s i m n) (hk : k < n) (hx : (sampL s i (n : Int) m)[k]? = some x) : drawnV s (i + UInt32.ofNat k) m = x := by
  rw [hL] at hx
  unfold draws at hx
  simpa [hk] using hx

theorem lawFronts_any (s : List UInt8) (hs : s.length = 32) (i : UInt32) (many front : Int) (hmn : -9223372036854775808 ≤ many ∧ many ≤ 9223372036854775807) (hfn : -9223372036854775808 ≤ front ∧ front ≤ 9223372036854775807) (m : UInt64) (w : World) (hk : KMem 1 w) (hf : FMem 0 w) :
    Calls Tryd.prog 8 #[.agg (arr8 s), u32 i, .int .i64 many, .int .i64 front, u64 m] w (Ret w (fun v _ => v = .bool true)) := by
  refine enter (vs := [.agg (arr8 s), u32 i, .int .i64 many, .int .i64 front, u64 m]) Tryd.func8 rfl Tryd.ntmps8 rfl ?_
  refine JC.seq ?_
  -- region 0
  refine JC.region ?_
  refine JL.new rfl rfl rfl (.none rfl) (En.boxA rfl) (fun b5 hb5 => ?_)
  refine JL.val rfl rfl rfl (.none rfl) (Ev.assign rfl) ?_
  refine JL.nil ?_
  refine JQ.thenN ?_
  refine JC.seq ?_
  -- region 1
  refine JC.region ?_
  refine JL.callV rfl (.none rfl) rfl Tryd.call23 (fun w1 hw1 => alive_any w1 (hk.old hw1) (hf.old hw1)) ?_
  refine JL.val rfl rfl rfl (.none rfl) (Ev.assign rfl) ?_
  refine JL.nil ?_
  refine JQ.thenN ?_
  refine JC.seq ?_
  refine JC.seq ?_
  -- region 2
  refine JC.region ?_
  refine JL.val rfl rfl rfl (.none rfl) (Ev.move rfl) ?_
  refine JL.val rfl rfl rfl (.none rfl) (Ev.bin rfl rfl gtr_int) ?_
  refine JL.val rfl rfl rfl (.none rfl) (Ev.move rfl) ?_
  refine JL.split (d := 22) rfl (fun hg1 => ?_) (fun hg1 => ?_)
  · -- guard 22 true
    refine JL.skip rfl rfl (.noF rfl rfl rfl) ?_
    refine JL.skip rfl rfl (.noF rfl rfl rfl) ?_
    refine JL.val rfl rfl rfl (.none rfl) (Ev.pickT rfl rfl) ?_
    refine JL.val rfl rfl rfl (.none rfl) (Ev.move rfl) ?_
    refine JL.skip rfl rfl (.noF rfl rfl rfl) ?_
    refine JL.skip rfl rfl (.noF rfl rfl rfl) ?_
    refine JL.skip rfl rfl (.noF rfl rfl rfl) ?_
    refine JL.val rfl rfl rfl (.none rfl) (Ev.pickT rfl rfl) ?_
    refine JL.val rfl rfl rfl (.none rfl) (Ev.move rfl) ?_
    refine JL.skip rfl rfl (.noF rfl rfl rfl) ?_
    refine JL.skip rfl rfl (.noF rfl rfl rfl) ?_
    refine JL.val rfl rfl rfl (.none rfl) (Ev.pickT rfl rfl) ?_
    refine JL.nil ?_
    refine JQ.thenN ?_
    refine JC.condT rfl ?_
    refine JC.seq ?_
    -- region 3
    refine JC.region ?_
    refine JL.val rfl rfl rfl (.none rfl) (Ev.move rfl) ?_
    refine JL.val rfl rfl rfl (.none rfl) (Ev.assign rfl) ?_
    refine JL.nil ?_
    refine JQ.thenN ?_
    refine JC.ret ?_
    refine JQ.thenR ?_
    refine JQ.end1 (H' := []) (.inl rfl) rfl (.tmp rfl) ?_ ?_
    · first | exact Sub.all | exact Sub.of_cnt (fun a => by simp only [cnt_append, cnt_cons, cnt_nil, List.nil_append, List.append_nil]; omega) | repeat (first | exact Sub.nil | refine Sub.cons (by first | exact .here | exact .there .here | exact .there (.there .here) | exact .there (.there (.there .here)) | exact .there (.there (.there (.there .here)))) ?_ | exact Sub.all)
    · exact rfl
  · -- guard 22 false
    have hm100 := of_decide_eq_false hg1
    refine JL.val rfl rfl rfl (.yes rfl rfl rfl) (Ev.move rfl) ?_
    refine JL.val rfl rfl rfl (.yes rfl rfl rfl) (Ev.bin rfl rfl lss_int) ?_
    refine JL.val rfl rfl rfl (.none rfl) (Ev.pickF rfl rfl) ?_
    refine JL.val rfl rfl rfl (.none rfl) (Ev.move rfl) ?_
    refine JL.split (d := 26) rfl (fun hg2 => ?_) (fun hg2 => ?_)
    · -- guard 26 true
      refine JL.skip rfl rfl (.noF rfl rfl rfl) ?_
      refine JL.skip rfl rfl (.noF rfl rfl rfl) ?_
      refine JL.skip rfl rfl (.noF rfl rfl rfl) ?_
      refine JL.val rfl rfl rfl (.none rfl) (Ev.pickT rfl rfl) ?_
      refine JL.val rfl rfl rfl (.none rfl) (Ev.move rfl) ?_
      refine JL.skip rfl rfl (.noF rfl rfl rfl) ?_
      refine JL.skip rfl rfl (.noF rfl rfl rfl) ?_
      refine JL.val rfl rfl rfl (.none rfl) (Ev.pickT rfl rfl) ?_
      refine JL.nil ?_
      refine JQ.thenN ?_
      refine JC.condT rfl ?_
      refine JC.seq ?_
      -- region 3
      refine JC.region ?_
      refine JL.val rfl rfl rfl (.none rfl) (Ev.move rfl) ?_
      refine JL.val rfl rfl rfl (.none rfl) (Ev.assign rfl) ?_
      refine JL.nil ?_
      refine JQ.thenN ?_
      refine JC.ret ?_
      refine JQ.thenR ?_
      refine JQ.end1 (H' := []) (.inl rfl) rfl (.tmp rfl) ?_ ?_
      · first | exact Sub.all | exact Sub.of_cnt (fun a => by simp only [cnt_append, cnt_cons, cnt_nil, List.nil_append, List.append_nil]; omega) | repeat (first | exact Sub.nil | refine Sub.cons (by first | exact .here | exact .there .here | exact .there (.there .here) | exact .there (.there (.there .here)) | exact .there (.there (.there (.there .here)))) ?_ | exact Sub.all)
      · exact rfl
    · -- guard 26 false
      have hf0 := of_decide_eq_false hg2
      refine JL.val rfl rfl rfl (.yes rfl rfl rfl) (Ev.move rfl) ?_
      refine JL.val rfl rfl rfl (.yes rfl rfl rfl) (Ev.move rfl) ?_
      refine JL.val rfl rfl rfl (.yes rfl rfl rfl) (Ev.bin rfl rfl gtr_int) ?_
      refine JL.val rfl rfl rfl (.none rfl) (Ev.pickF rfl rfl) ?_
      refine JL.val rfl rfl rfl (.none rfl) (Ev.move rfl) ?_
      refine JL.split (d := 31) rfl (fun hg3 => ?_) (fun hg3 => ?_)
      · -- guard 31 true
        refine JL.skip rfl rfl (.noF rfl rfl rfl) ?_
        refine JL.skip rfl rfl (.noF rfl rfl rfl) ?_
        refine JL.val rfl rfl rfl (.none rfl) (Ev.pickT rfl rfl) ?_
        refine JL.nil ?_
        refine JQ.thenN ?_
        refine JC.condT rfl ?_
        refine JC.seq ?_
        -- region 3
        refine JC.region ?_
        refine JL.val rfl rfl rfl (.none rfl) (Ev.move rfl) ?_
        refine JL.val rfl rfl rfl (.none rfl) (Ev.assign rfl) ?_
        refine JL.nil ?_
        refine JQ.thenN ?_
        refine JC.ret ?_
        refine JQ.thenR ?_
        refine JQ.end1 (H' := []) (.inl rfl) rfl (.tmp rfl) ?_ ?_
        · first | exact Sub.all | exact Sub.of_cnt (fun a => by simp only [cnt_append, cnt_cons, cnt_nil, List.nil_append, List.append_nil]; omega) | repeat (first | exact Sub.nil | refine Sub.cons (by first | exact .here | exact .there .here | exact .there (.there .here) | exact .there (.there (.there .here)) | exact .there (.there (.there (.there .here)))) ?_ | exact Sub.all)
        · exact rfl
      · -- guard 31 false
        have hfm := of_decide_eq_false hg3
        obtain ⟨f, rfl⟩ : ∃ f : Nat, front = (f : Int) := ⟨front.toNat, by omega⟩
        obtain ⟨n, rfl⟩ : ∃ n : Nat, many = (n : Int) := ⟨many.toNat, by omega⟩
        have hfn1 : f ≤ n := by omega
        refine JL.val rfl rfl rfl (.yes rfl rfl rfl) (Ev.move rfl) ?_
        refine JL.val rfl rfl rfl (.yes rfl rfl rfl) (Ev.not rfl) ?_
        refine JL.val rfl rfl rfl (.none rfl) (Ev.pickF rfl rfl) ?_
        refine JL.nil ?_
        refine JQ.thenN ?_
        refine JC.knowF rfl ?_ ?_
        · rfl
        refine JC.skip ?_
        refine JQ.thenN ?_
        refine JC.seq ?_
        -- region 4
        refine JC.region ?_
        refine JL.val rfl rfl rfl (.none rfl) (Ev.loadB rfl (by repeat (first | exact List.Mem.head _ | refine List.Mem.tail _ ?_ | refine List.mem_append_right _ ?_ | assumption)) Tryd.underlying25 rfl Tryd.sizeOf25 (by rw [arr8_size, hs])) ?_
        refine JL.val rfl rfl rfl (.none rfl) (Ev.move rfl) ?_
        refine JL.val rfl rfl rfl (.none rfl) (Ev.move rfl) ?_
        refine JL.val rfl rfl rfl (.none rfl) (Ev.move rfl) ?_
        refine JL.callN rfl (.none rfl) rfl Tryd.call17 (fun w1 hw1 => Sample_any s hs i (n : Int) hmn m w1 (hk.old hw1) (hf.old hw1)) ?_
        rintro _ _ ⟨r1, rfl, rfl, hr1⟩
        refine JL.val rfl rfl rfl (.none rfl) (Ev.move rfl) ?_
        refine JL.val rfl rfl rfl (.none rfl) (Ev.ex0 rfl) ?_
        refine JL.val rfl rfl rfl (.none rfl) (Ev.ex1 rfl) ?_
        refine JL.val rfl rfl rfl (.none rfl) (Ev.assign rfl) ?_
        refine JL.val rfl rfl rfl (.none rfl) (Ev.assign rfl) ?_
        refine JL.nil ?_
        refine JQ.thenN ?_
        refine JC.seq ?_
        -- region 5
        refine JC.region ?_
        refine JL.val rfl rfl rfl (.none rfl) (Ev.loadB rfl (by repeat (first | exact List.Mem.head _ | refine List.Mem.tail _ ?_ | refine List.mem_append_right _ ?_ | assumption)) Tryd.underlying25 rfl Tryd.sizeOf25 (by rw [arr8_size, hs])) ?_
        refine JL.val rfl rfl rfl (.none rfl) (Ev.move rfl) ?_
        refine JL.val rfl rfl rfl (.none rfl) (Ev.move rfl) ?_
        refine JL.val rfl rfl rfl (.none rfl) (Ev.move rfl) ?_
        refine JL.callN rfl (.none rfl) rfl Tryd.call17 (fun w1 hw1 => Sample_any s hs i (f : Int) hfn m w1 (hk.old hw1) (hf.old hw1)) ?_
        rintro _ _ ⟨r2, rfl, rfl, hr2⟩
        refine JL.val rfl rfl rfl (.none rfl) (Ev.move rfl) ?_
        refine JL.val rfl rfl rfl (.none rfl) (Ev.ex0 rfl) ?_
        refine JL.val rfl rfl rfl (.none rfl) (Ev.ex1 rfl) ?_
        refine JL.val rfl rfl rfl (.none rfl) (Ev.assign rfl) ?_
        refine JL.val rfl rfl rfl (.none rfl) (Ev.assign rfl) ?_
        refine JL.nil ?_
        refine JQ.thenN ?_
        refine JC.seq ?_
        refine JC.seq ?_
        -- region 6
        refine JC.region ?_
        obtain ⟨o1, c1, e1, _, hC1⟩ := Row.vw (e := 34) hr1
        refine JL.re (d := 12) rfl e1 ?_
        obtain ⟨o2, c2, e2, _, hC2⟩ := Row.vw (e := 34) hr2
        refine JL.re (d := 14) rfl e2 ?_
        refine JL.val rfl rfl rfl (.none rfl) (Ev.move rfl) ?_
        refine JL.val rfl rfl rfl (.none rfl) (Ev.bin rfl rfl neq_int) ?_
        refine JL.nil ?_
        refine JQ.thenN ?_
        refine JC.cond rfl (fun hc1 => ?_) (fun hc1 => ?_)
        · -- t53 True
          replace hc1 := of_decide_eq_true hc1
          have hnil := sampL_err hc1
          refine JC.seq ?_
          -- region 7
          refine JC.region ?_
          refine JL.val rfl rfl rfl (.none rfl) (Ev.move rfl) ?_
          refine JL.val rfl rfl rfl (.none rfl) (Ev.move rfl) ?_
          refine JL.know (d := 55) (b := true) rfl ?_ ?_
          · rfl
          refine JL.val rfl rfl rfl (.yes rfl rfl rfl) (Ev.move rfl) ?_
          refine JL.val rfl rfl rfl (.yes rfl rfl rfl) (Ev.lenS rfl Tryd.underlying40) ?_
          refine JL.val rfl rfl rfl (.yes rfl rfl rfl) (Ev.bin rfl rfl eql_int) ?_
          refine JL.val rfl rfl rfl (.none rfl) (Ev.pickT rfl rfl) ?_
          refine JL.val rfl rfl rfl (.none rfl) (Ev.assign rfl) ?_
          refine JL.nil ?_
          refine JQ.thenN ?_
          refine JC.ret ?_
          refine JQ.thenR ?_
          refine JQ.end1 (H' := []) (.inl rfl) rfl (.tmp rfl) ?_ ?_
          · first | exact Sub.all | exact Sub.of_cnt (fun a => by simp only [cnt_append, cnt_cons, cnt_nil, List.nil_append, List.append_nil]; omega) | repeat (first | exact Sub.nil | refine Sub.cons (by first | exact .here | exact .there .here | exact .there (.there .here) | exact .there (.there (.there .here)) | exact .there (.there (.there (.there .here)))) ?_ | exact Sub.all)
          · exact congrArg Value.bool (decide_eq_true (by rw [hnil]; rfl))
        · -- t53 False
          replace hc1 := of_decide_eq_false hc1
          have hE : sampE s i (n : Int) m = 0 := by omega
          obtain ⟨hok, hn4, had⟩ := sampE_ok hE
          have hokL := sampL_all hok hn4 had
          have hln : (sampL s i (n : Int) m).length = n := by rw [hokL, draws_length]
          have hokf := notBad_le hfn1 hok
          have hadf : allD s i m f := fun k hk => had k (by omega)
          have hokLf := sampL_all hokf (by omega) hadf
          have hlf : (sampL s i (f : Int) m).length = f := by rw [hokLf, draws_length]
          have hfl : f ≤ (sampL s i (n : Int) m).length := by omega
          have hcap1 : (sampL s i (n : Int) m).length ≤ c1 := row_cap hr1 e1
          have hC1s : 0 < (sampL s i (n : Int) m).length → ∃ a, o1 = some a := row_some hr1 e1
          refine JC.skip ?_
          refine JQ.thenN ?_
          refine JC.seq ?_
          refine JC.seq ?_
          -- region 8
          refine JC.region ?_
          refine JL.val rfl rfl rfl (.none rfl) (Ev.move rfl) ?_
          refine JL.val rfl rfl rfl (.none rfl) (Ev.bin rfl rfl neq_int) ?_
          refine JL.val rfl rfl rfl (.none rfl) (Ev.move rfl) ?_
          refine JL.know (d := 62) (b := false) rfl ?_ ?_
          · exact decide_eq_false (fun h => h (sampE_all hokf (by omega) hadf))
          refine JL.val rfl rfl rfl (.yes rfl rfl rfl) (Ev.move rfl) ?_
          refine JL.val rfl rfl rfl (.yes rfl rfl rfl) (Ev.lenS rfl Tryd.underlying40) ?_
          refine JL.val rfl rfl rfl (.yes rfl rfl rfl) (Ev.move rfl) ?_
          refine JL.val rfl rfl rfl (.yes rfl rfl rfl) (Ev.bin rfl rfl neq_int) ?_
          refine JL.val rfl rfl rfl (.none rfl) (Ev.pickF rfl rfl) ?_
          refine JL.val rfl rfl rfl (.none rfl) (Ev.move rfl) ?_
          refine JL.know (d := 68) (b := false) rfl ?_ ?_
          · exact decide_eq_false (fun h => h (congrArg Int.ofNat hln))
          refine JL.val rfl rfl rfl (.yes rfl rfl rfl) (Ev.move rfl) ?_
          refine JL.val rfl rfl rfl (.yes rfl rfl rfl) (Ev.lenS rfl Tryd.underlying40) ?_
          refine JL.val rfl rfl rfl (.yes rfl rfl rfl) (Ev.move rfl) ?_
          refine JL.val rfl rfl rfl (.yes rfl rfl rfl) (Ev.bin rfl rfl neq_int) ?_
          refine JL.val rfl rfl rfl (.none rfl) (Ev.pickF rfl rfl) ?_
          refine JL.val rfl rfl rfl (.none rfl) (Ev.move rfl) ?_
          refine JL.know (d := 74) (b := false) rfl ?_ ?_
          · exact decide_eq_false (fun h => h (congrArg Int.ofNat hlf))
          refine JL.val rfl rfl rfl (.yes rfl rfl rfl) (Ev.move rfl) ?_
          refine JL.val rfl rfl rfl (.yes rfl rfl rfl) (Ev.move rfl) ?_
          refine JL.val rfl rfl rfl (.yes rfl rfl rfl) (Ev.sliceHi rfl rfl Tryd.underlying40 Tryd.sizeOf34 (h := f) rfl (by have := hcap1; omega)) ?_
          refine JL.re (d := 77) (v' := .slice o1 ((sampL s i (n : Int) m).take f).length c1) rfl (by rw [sub3_0, take_len hfl]) ?_
          refine JL.val rfl rfl rfl (.yes rfl rfl rfl) (Ev.move rfl) ?_
          refine JL.callV rfl (.yes rfl rfl rfl) rfl Tryd.call19 (fun w1 hw1 => sameNumbers_any o1 o2 c1 c2 ((sampL s i (n : Int) m).take f) (sampL s i (f : Int) m) w1 (by rw [take_len hfl]; exact (hC1 w1 hw1 (fun p hp => by simp [hp])).take hfl) (hC2 w1 hw1 (fun p hp => by simp [hp])) (by rw [take_len hfl]; omega)) ?_
          refine JL.val rfl rfl rfl (.yes rfl rfl rfl) (Ev.not rfl) ?_
          refine JL.val rfl rfl rfl (.none rfl) (Ev.pickF rfl rfl) ?_
          refine JL.nil ?_
          refine JQ.thenN ?_
          refine JC.knowF rfl ?_ ?_
          · rw [hokL, hokLf, draws_take hfn1]; simp
          refine JC.skip ?_
          refine JQ.thenN ?_
          refine JC.seq ?_
          refine JC.seq ?_
          -- region 10
          refine JC.region ?_
          refine JL.val rfl rfl rfl (.none rfl) (Ev.assign rfl) ?_
          refine JL.nil ?_
          refine JQ.thenN ?_
          refine JC.block ?_
          refine JC.loop (X := Nat)
            (fun k => [(1, u32 i), (4, u64 m), (11, .bool true), (12, .slice o1 (sampL s i (n : Int) m).length c1), (16, .int .i64 (k : Int)), (5, .pointer (some ⟨b5, 0, none⟩))])
            (fun k => Row.b 34 r1 ++ [(b5, .cells (arr8 s) 25 (0, 0))])
            (fun k => k ≤ (sampL s i (n : Int) m).length)
            (fun k => (sampL s i (n : Int) m).length - k) 0 ?_ ?_ ?_ ?_
          · exact Keeps.get (by repeat (first | exact Keeps.nil | refine Keeps.cons rfl ?_))
          · exact Sub.of_cnt (fun a => by simp only [cnt_append, cnt_cons, cnt_nil, List.nil_append, List.append_nil]; omega)
          · exact Nat.zero_le _
          rintro k hkl
          refine JC.seq ?_
          refine JC.seq ?_
          -- region 11
          refine JC.region ?_
          refine JL.val rfl rfl rfl (.none rfl) (Ev.move rfl) ?_
          refine JL.val rfl rfl rfl (.none rfl) (Ev.move rfl) ?_
          refine JL.val rfl rfl rfl (.none rfl) (Ev.lenS rfl Tryd.underlying40) ?_
          refine JL.val rfl rfl rfl (.none rfl) (Ev.bin rfl rfl lss_int) ?_
          refine JL.nil ?_
          refine JQ.thenN ?_
          refine JC.cond rfl (fun hc2 => ?_) (fun hc2 => ?_)
          · -- t85 True
            replace hc2 := of_decide_eq_true hc2
            have hkn : k < n := by omega
            obtain ⟨x, hx⟩ := get_some (l := sampL s i (n : Int) m) (k := k) (by omega)
            refine JC.skip ?_
            refine JQ.thenN ?_
            refine JC.seq ?_
            refine JC.block ?_
            refine JC.seq ?_
            -- region 13
            refine JC.region ?_
            refine JL.val rfl rfl rfl (.none rfl) (Ev.loadB rfl (by repeat (first | exact List.Mem.head _ | refine List.Mem.tail _ ?_ | refine List.mem_append_right _ ?_ | assumption)) Tryd.underlying25 rfl Tryd.sizeOf25 (by rw [arr8_size, hs])) ?_
            refine JL.val rfl rfl rfl (.none rfl) (Ev.move rfl) ?_
            refine JL.val rfl rfl rfl (.none rfl) (Ev.move rfl) ?_
            refine JL.val rfl rfl rfl (.none rfl) (Ev.conv rfl (conv_i64_u32 Tryd.underlying3 Tryd.underlying33 (by omega))) ?_
            refine JL.val rfl rfl rfl (.none rfl) (Ev.bin rfl rfl add_u32) ?_
            refine JL.val rfl rfl rfl (.none rfl) (Ev.move rfl) ?_
            refine JL.callV rfl (.none rfl) rfl Tryd.call15 (fun w1 hw1 => Number_any s hs (i + UInt32.ofNat k) m w1 (hk.old hw1) (hf.old hw1)) ?_
            refine JL.val rfl rfl rfl (.none rfl) (Ev.move rfl) ?_
            refine JL.val rfl rfl rfl (.none rfl) (Ev.ex0 rfl) ?_
            refine JL.val rfl rfl rfl (.none rfl) (Ev.ex1 rfl) ?_
            refine JL.val rfl rfl rfl (.none rfl) (Ev.assign rfl) ?_
            refine JL.val rfl rfl rfl (.none rfl) (Ev.assign rfl) ?_
            refine JL.nil ?_
            refine JQ.thenN ?_
            refine JC.seq ?_
            -- region 14
            refine JC.region ?_
            obtain ⟨hv0, he0⟩ := num_of_all hok had hkn
            refine JL.re (d := 18) (v' := .int .i64 0) rfl (congrArg (Value.int .i64) he0) ?_
            obtain ⟨a, rfl⟩ := hC1s (by omega)
            refine JL.val rfl rfl rfl (.none rfl) (Ev.move rfl) ?_
            refine JL.val rfl rfl rfl (.none rfl) (Ev.bin rfl rfl neq_int) ?_
            refine JL.val rfl rfl rfl (.none rfl) (Ev.move rfl) ?_
            refine JL.know (d := 100) (b := false) rfl ?_ ?_
            · rfl
            refine JL.val rfl rfl rfl (.yes rfl rfl rfl) (Ev.move rfl) ?_
            refine JL.val rfl rfl rfl (.yes rfl rfl rfl) (Ev.move rfl) ?_
            refine JL.val rfl rfl rfl (.yes rfl rfl rfl) (Ev.move rfl) ?_
            refine JL.val rfl rfl rfl (.yes rfl rfl rfl) (Ev.idxS1 rfl rfl Tryd.underlying40 Tryd.sizeOf34 (k := k) rfl (by omega)) ?_
            refine JL.val rfl rfl rfl (.yes rfl rfl rfl) (Ev.load1 rfl Tryd.underlying34 rfl (fun w hw => ((hC1 w hw (fun p hp => by simp [hp])).mem a rfl).atMap hx)) ?_
            refine JL.val rfl rfl rfl (.yes rfl rfl rfl) (Ev.bin rfl rfl neq_int) ?_
            refine JL.val rfl rfl rfl (.none rfl) (Ev.pickF rfl rfl) ?_
            refine JL.val rfl rfl rfl (.none rfl) (Ev.move rfl) ?_
            refine JL.know (d := 108) (b := false) rfl ?_ ?_
            · exact decide_eq_false (fun h => h (congrArg (fun u : UInt64 => (u.toNat : Int)) (hv0.trans (draws_get hokL had hkn hx))))
            refine JL.val rfl rfl rfl (.yes rfl rfl rfl) (Ev.move rfl) ?_
            refine JL.val rfl rfl rfl (.yes rfl rfl rfl) (Ev.move rfl) ?_
            refine JL.val rfl rfl rfl (.yes rfl rfl rfl) (Ev.bin rfl rfl geq_int) ?_
            refine JL.val rfl rfl rfl (.none rfl) (Ev.pickF rfl rfl) ?_
            refine JL.nil ?_
            refine JQ.thenN ?_
            refine JC.knowF rfl ?_ ?_
            · exact decide_eq_false (num_lt hok had hkn)
            refine JC.skip ?_
            refine JQ.blockN ?_
            refine JQ.thenN ?_
            -- region 12
            refine JC.region ?_
            refine JL.val rfl rfl rfl (.none rfl) (Ev.move rfl) ?_
            refine JL.val rfl rfl rfl (.none rfl) (Ev.bin rfl rfl (add_i64 (by omega))) ?_
            refine JL.val rfl rfl rfl (.none rfl) (Ev.assign rfl) ?_
            refine JL.nil ?_
            refine JQ.loopN (k + 1) ?_ ?_ ?_ ?_
            · exact Keeps.get (by repeat (first | exact Keeps.nil | refine Keeps.cons rfl ?_))
            · exact Sub.of_cnt (fun a => by simp only [cnt_append, cnt_cons, cnt_nil, List.nil_append, List.append_nil]; omega)
            · omega
            · omega
          · -- t85 False
            replace hc2 := of_decide_eq_false hc2
            refine JC.exit ?_
            refine JQ.thenE ?_
            refine JQ.thenE ?_
            refine JQ.blockE ?_
            refine JQ.thenN ?_
            refine JC.seq ?_
            -- region 16
            refine JC.region ?_
            refine JL.val rfl rfl rfl (.none rfl) (Ev.move rfl) ?_
            refine JL.val rfl rfl rfl (.none rfl) (Ev.assign rfl) ?_
            refine JL.nil ?_
            refine JQ.thenN ?_
            refine JC.ret ?_
            refine JQ.end1 (H' := []) (.inl rfl) rfl (.tmp rfl) ?_ ?_
            · first | exact Sub.all | exact Sub.of_cnt (fun a => by simp only [cnt_append, cnt_cons, cnt_nil, List.nil_append, List.append_nil]; omega) | repeat (first | exact Sub.nil | refine Sub.cons (by first | exact .here | exact .there .here | exact .there (.there .here) | exact .there (.there (.there .here)) | exact .there (.there (.there (.there .here)))) ?_ | exact Sub.all)
            · exact rfl

theorem pow_lt (p : UInt8) : (p % 33).toNat < 33 := by
  rw [UInt8.toNat_mod]
  exact Nat.mod_lt _ (by decide)
theorem pow_toNat {k : Nat} (h : k < 33) : (1 <<< UInt64.ofNat k : UInt64).toNat = 2 ^ k := by
  rw [UInt64.toNat_shiftLeft, UInt64.toNat_ofNat']
  have e : k % 2 ^ 64 % 64 = k := by omega
  rw [e, Nat.shiftLeft_eq]
  have : 2 ^ k ≤ 2 ^ 32 := Nat.pow_le_pow_right (by decide) (by omega)
  show 1 * 2 ^ k % 2 ^ 64 = 2 ^ k
  omega
theorem pow_pos {k : Nat} : 1 ≤ 2 ^ k := Nat.one_le_two_pow
theorem pow_ne (p : UInt8) : (1 <<< UInt64.ofNat (p % 33).toNat : UInt64) ≠ 0 := fun h => by
  have h1 := pow_toNat (pow_lt p)
  rw [h] at h1
  have := @pow_pos (p % 33).toNat
  have e : (0 : UInt64).toNat = 0 := rfl
  omega
theorem small_div {m x : UInt64} (h : 18446744073709551616 % m.toNat = 0) : small m x := by
  unfold small
  have := x.toNat_lt
  omega
theorem num_of_small {s : List UInt8} {i : UInt32} {m : UInt64} (h : ¬ (m.toNat < 1 ∨ 4294967296 < m.toNat)) (h1 : small m (tryD s i 0)) : numV s i m = tryD s i 0 % m ∧ numE s i m = 0 := by
  have hd := drawn_some (by decide) (fun j hj => by omega) h1
  rw [numV_ok h, numE_ok h]
  simp [drawnV, drawnE, hd]
theorem num_pow (s : List UInt8) (i : UInt32) (p : UInt8) : numV s i (1 <<< UInt64.ofNat (p % 33).toNat) = tryD s i 0 % (1 <<< UInt64.ofNat (p % 33).toNat) ∧ numE s i (1 <<< UInt64.ofNat (p % 33).toNat) = 0 := by
  have hp := pow_lt p
  have h1 := pow_toNat hp
  have h2 : 2 ^ (p % 33).toNat ≤ 2 ^ 32 := Nat.pow_le_pow_right (by decide) (by omega)
  have h3 := @pow_pos (p % 33).toNat
  refine num_of_small (by omega) (small_div ?_)
  rw [h1]
  have e : 18446744073709551616 = 2 ^ (p % 33).toNat * 2 ^ (64 - (p % 33).toNat) := by
    rw [← Nat.pow_add, show (p % 33).toNat + (64 - (p % 33).toNat) = 64 by omega]
  rw [e]
  exact Nat.mul_mod_right _ _
theorem num_pow32 (s : List UInt8) (i : UInt32) : ((numV s i 4294967296).toNat : Int) < 4294967296 ∧ numE s i 4294967296 = 0 := by
  obtain ⟨h1, h2⟩ := num_of_small (s := s) (i := i) (m := 4294967296) (by decide) (small_div (by decide))
  refine ⟨?_, h2⟩
  rw [h1, UInt64.toNat_mod]
  have e : (4294967296 : UInt64).toNat = 4294967296 := rfl
  rw [e]
  have := Nat.mod_lt (tryD s i 0).toNat (show 0 < 4294967296 by decide)
  omega
theorem numE_zero {s : List UInt8} {i : UInt32} {m : UInt64} (h : numE s i m = 0) : ¬ (m.toNat < 1 ∨ 4294967296 < m.toNat) := fun h1 => by
  rw [numE_bad h1] at h
  cases h
theorem num_small {s : List UInt8} {i : UInt32} {m : UInt64} (h : ¬ (m.toNat < 1 ∨ 4294967296 < m.toNat)) (h1 : ¬ (18446744069414584319 : Int) ≤ ((tryD s i 0).toNat : Int)) : numV s i m = tryD s i 0 % m := by
  refine (num_of_small h ?_).1
  unfold small
  have := Nat.mod_lt 18446744073709551616 (show 0 < m.toNat by omega)
  omega
theorem ps_one {w0 w : World} {H : Blocks} {b c n : Nat} {t u : TypeId} {fr gr : Nat × Nat} (hw : Hp w0 H w) (hm : (c, Obj.cells #[.slice (some ⟨b, 0, none⟩) n n] t fr) ∈ H) (hb : (b, Obj.cells (arr8 (List.replicate n 0)) u gr) ∈ H) (hn : n ≤ 1000000) :
    Ps w (some ⟨c, 0, none⟩) 1 [⟨some ⟨b, 0, none⟩, n, List.replicate n 0⟩] := by
  have hl : (List.replicate n (0 : UInt8)).length = n := List.length_replicate
  refine ⟨Nat.le_refl _, by decide, fun h => (by cases h), fun a ha => ?_, fun p hp => ?_⟩
  · cases ha
    refine Mem.own hw hm fun j v hj => ?_
    rw [Nat.zero_add, ← hj]
    simp [Part.v]
  · obtain rfl := List.mem_singleton.1 hp
    have := bs_of_block hw hb (by rw [hl]; exact hn)
    rw [hl] at this
    exact this
theorem mix_tot {a : Option Addr} {c n : Nat} : (jn [⟨a, c, List.replicate n 0⟩] 1).length = 2 + n := by
  simp [jn, fieldB, be_length]
theorem mixE_big {a : Option Addr} {c n : Nat} (h : 8190 < n) (h1 : n ≤ 16382) : mixE [⟨a, c, List.replicate n 0⟩] = 4 := by
  have ht := @mix_tot a c n
  have e : ([⟨a, c, List.replicate n 0⟩] : List Part).length = 1 := rfl
  unfold mixE tot
  rw [e, if_neg (show ¬ 16384 < (jn [⟨a, c, List.replicate n 0⟩] 1).length by omega), if_pos (show 8192 < (jn [⟨a, c, List.replicate n 0⟩] 1).length by omega)]
theorem mixE_fit {a : Option Addr} {c n : Nat} (h : n ≤ 8190) : mixE [⟨a, c, List.replicate n 0⟩] = 0 := by
  have ht := @mix_tot a c n
  have e : ([⟨a, c, List.replicate n 0⟩] : List Part).length = 1 := rfl
  unfold mixE tot
  rw [e, if_neg (show ¬ 16384 < (jn [⟨a, c, List.replicate n 0⟩] 1).length by omega), if_neg (show ¬ 8192 < (jn [⟨a, c, List.replicate n 0⟩] 1).length by omega)]

theorem firstTry_any (s : List UInt8) (hs : s.length = 32) (i : UInt32)  (w : World) (hk : KMem 1 w) (hf : FMem 0 w) :
    Calls Tryd.prog 25 #[.agg (arr8 s), u32 i] w (Ret w (fun v _ => v = u64 (tryD s i 0))) := by
  refine enter (vs := [.agg (arr8 s), u32 i]) Tryd.func25 rfl Tryd.ntmps25 rfl ?_
  refine JC.seq ?_
  -- region 0
  refine JC.region ?_
  refine JL.new rfl rfl rfl (.none rfl) (En.boxA rfl) (fun b2 hb2 => ?_)
  refine JL.val rfl rfl rfl (.none rfl) (Ev.assign rfl) ?_
  refine JL.nil ?_
  refine JQ.thenN ?_
  refine JC.seq ?_
  -- region 1
  refine JC.region ?_
  refine JL.val rfl rfl rfl (.none rfl) (Ev.cast (v' := .slice (some ⟨b2, 0, none⟩) s.length 32) (by rw [hs]) (Ev.sliceA rfl Tryd.underlying25 Tryd.sizeOf5)) ?_
  refine JL.val rfl rfl rfl (.none rfl) (Ev.move rfl) ?_
  refine JL.val rfl rfl rfl (.none rfl) (Ev.conv rfl (conv_u32_u64 Tryd.underlying33 Tryd.underlying34)) ?_
  refine JL.callN rfl (.none rfl) rfl Tryd.call32 (fun w1 hw1 => put4_any (some ⟨b2, 0, none⟩) 32 s w1 (by have := bs_of_block (l := s) hw1 (List.Mem.head _) (by omega); rwa [hs] at this) (by omega) i.toUInt64 (by have := i.toNat_lt; rw [UInt32.toNat_toUInt64]; omega)) ?_
  rintro _ _ ⟨r0, rfl, rfl, hr0⟩
  refine JL.val rfl rfl rfl (.none rfl) (Ev.move rfl) ?_
  refine JL.val rfl rfl rfl (.none rfl) (Ev.ex0 rfl) ?_
  refine JL.val rfl rfl rfl (.none rfl) (Ev.ex1 rfl) ?_
  refine JL.val rfl rfl rfl (.none rfl) (Ev.assign rfl) ?_
  refine JL.val rfl rfl rfl (.none rfl) (Ev.assign rfl) ?_
  refine JL.nil ?_
  refine JQ.thenN ?_
  refine JC.seq ?_
  -- region 2
  refine JC.region ?_
  obtain ⟨oh, ch, eh, _, hCh⟩ := Row.vw (e := 5) hr0
  refine JL.re (d := 5) (v' := .slice oh (s ++ be i.toUInt64 4).length ch) rfl (eh.trans (by simp [be_length, hs])) ?_
  refine JL.val rfl rfl rfl (.none rfl) (Ev.move rfl) ?_
  refine JL.callN rfl (.none rfl) rfl Tryd.call32 (fun w1 hw1 => put4_any oh ch (s ++ be i.toUInt64 4) w1 ((hCh w1 hw1 (fun p hp => by simp [hp])).bs (by simp [be_length, hs])) (by simp [be_length]; omega) (UInt64.ofNat 0) (by decide)) ?_
  rintro _ _ ⟨r2, rfl, rfl, hr2⟩
  refine JL.val rfl rfl rfl (.none rfl) (Ev.move rfl) ?_
  refine JL.val rfl rfl rfl (.none rfl) (Ev.ex0 rfl) ?_
  refine JL.val rfl rfl rfl (.none rfl) (Ev.ex1 rfl) ?_
  refine JL.val rfl rfl rfl (.none rfl) (Ev.assign rfl) ?_
  refine JL.val rfl rfl rfl (.none rfl) (Ev.assign rfl) ?_
  refine JL.nil ?_
  refine JQ.thenN ?_
  refine JC.seq ?_
  -- region 3
  refine JC.region ?_
  obtain ⟨ox, cx, ex, _, hC⟩ := Row.vw (e := 5) hr2
  refine JL.re (d := 7) (v' := .slice ox (s ++ be i.toUInt64 4 ++ be (UInt64.ofNat 0) 4).length cx) rfl (ex.trans (by simp [be_length, hs])) ?_
  refine JL.val rfl rfl rfl (.none rfl) (Ev.move rfl) ?_
  refine JL.callV rfl (.none rfl) rfl Tryd.call27 (fun w1 hw1 => Sum_any ox cx (s ++ be i.toUInt64 4 ++ be (UInt64.ofNat 0) 4) w1 ((hC w1 hw1 (fun p hp => by simp [hp])).bs (by simp [be_length, hs])) (by simp [be_length]; omega) (hk.old hw1) (hf.old hw1)) ?_
  refine JL.val rfl rfl rfl (.none rfl) (Ev.move rfl) ?_
  refine JL.val rfl rfl rfl (.none rfl) (Ev.ex0 rfl) ?_
  refine JL.val rfl rfl rfl (.none rfl) (Ev.ex1 rfl) ?_
  refine JL.new rfl rfl rfl (.none rfl) (En.allocZ (cs := arr8 (List.replicate 32 0)) Tryd.zeroValue25 rfl) (fun b9 hb9 => ?_)
  refine JL.sto rfl rfl (.none rfl) (Es.storeA rfl rfl Tryd.sizeOf25 (by repeat (first | exact .here | apply Upd.there | apply Upd.left)) (by rw [arr8_size, shaO_length]) rfl (arr8_one _)) ?_
  refine JL.reH (o' := .cells (arr8 (sha (s ++ be i.toUInt64 4 ++ be (UInt64.ofNat 0) 4))) 25 (0, 0)) .here (congrArg (fun c => Obj.cells (arr8 c) 25 (0, 0)) (shaO_small (by simp [be_length]; omega))) ?_
  refine JL.val rfl rfl rfl (.none rfl) (Ev.assign rfl) ?_
  refine JL.nil ?_
  refine JQ.thenN ?_
  refine JC.seq ?_
  -- region 4
  refine JC.region ?_
  refine JL.val rfl rfl rfl (.none rfl) (Ev.sliceA rfl Tryd.underlying25 Tryd.sizeOf5) ?_
  refine JL.re (d := 32) (v' := .slice (some ⟨b9, 0, none⟩) (sha (s ++ be i.toUInt64 4 ++ be (UInt64.ofNat 0) 4)).length 32) rfl (by rw [sha_length]) ?_
  refine JL.callV rfl (.none rfl) rfl Tryd.call33 (fun w1 hw1 => take_any ⟨b9, 0, none⟩ 32 (sha (s ++ be i.toUInt64 4 ++ be (UInt64.ofNat 0) 4)) w1 (by have := bs_of_block hw1 (List.Mem.head _) (by rw [sha_length]; decide); rwa [sha_length] at this) (by rw [sha_length]; decide) 0 8 (by decide) (by decide) (by rw [sha_length]; decide)) ?_
  refine JL.val rfl rfl rfl (.none rfl) (Ev.move rfl) ?_
  refine JL.val rfl rfl rfl (.none rfl) (Ev.ex0 rfl) ?_
  refine JL.val rfl rfl rfl (.none rfl) (Ev.ex1 rfl) ?_
  refine JL.val rfl rfl rfl (.none rfl) (Ev.ex2 rfl) ?_
  refine JL.val rfl rfl rfl (.none rfl) (Ev.assign rfl) ?_
  refine JL.val rfl rfl rfl (.none rfl) (Ev.assign rfl) ?_
  refine JL.val rfl rfl rfl (.none rfl) (Ev.assign rfl) ?_
  refine JL.nil ?_
  refine JQ.thenN ?_
  refine JC.seq ?_
  -- region 5
  refine JC.region ?_
  refine JL.val rfl rfl rfl (.none rfl) (Ev.move rfl) ?_
  refine JL.val rfl rfl rfl (.none rfl) (Ev.assign rfl) ?_
  refine JL.nil ?_
  refine JQ.thenN ?_
  refine JC.ret ?_
  refine JQ.end1 (H' := []) (.inl rfl) rfl (.tmp rfl) ?_ ?_
  · first | exact Sub.all | exact Sub.of_cnt (fun a => by simp only [cnt_append, cnt_cons, cnt_nil, List.nil_append, List.append_nil]; omega) | repeat (first | exact Sub.nil | refine Sub.cons (by first | exact .here | exact .there .here | exact .there (.there .here) | exact .there (.there (.there .here)) | exact .there (.there (.there (.there .here)))) ?_ | exact Sub.all)
  · exact rfl

theorem lawFirst_any (s : List UInt8) (hs : s.length = 32) (i : UInt32) (power : UInt8) (m : UInt64) (w : World) (hk : KMem 1 w) (hf : FMem 0 w) :
    Calls Tryd.prog 9 #[.agg (arr8 s), u32 i, u8 power, u64 m] w (Ret w (fun v _ => v = .bool true)) := by
  refine enter (vs := [.agg (arr8 s), u32 i, u8 power, u64 m]) Tryd.func9 rfl Tryd.ntmps9 rfl ?_
  refine JC.seq ?_
  -- region 0
  refine JC.region ?_
  refine JL.new rfl rfl rfl (.none rfl) (En.boxA rfl) (fun b4 hb4 => ?_)
  refine JL.val rfl rfl rfl (.none rfl) (Ev.assign rfl) ?_
  refine JL.nil ?_
  refine JQ.thenN ?_
  refine JC.seq ?_
  -- region 1
  refine JC.region ?_
  refine JL.callV rfl (.none rfl) rfl Tryd.call23 (fun w1 hw1 => alive_any w1 (hk.old hw1) (hf.old hw1)) ?_
  refine JL.val rfl rfl rfl (.none rfl) (Ev.assign rfl) ?_
  refine JL.nil ?_
  refine JQ.thenN ?_
  refine JC.seq ?_
  -- region 2
  refine JC.region ?_
  refine JL.val rfl rfl rfl (.none rfl) (Ev.loadB rfl (by repeat (first | exact List.Mem.head _ | refine List.Mem.tail _ ?_ | refine List.mem_append_right _ ?_ | assumption)) Tryd.underlying25 rfl Tryd.sizeOf25 (by rw [arr8_size, hs])) ?_
  refine JL.val rfl rfl rfl (.none rfl) (Ev.move rfl) ?_
  refine JL.callV rfl (.none rfl) rfl Tryd.call25 (fun w1 hw1 => firstTry_any s hs i w1 (hk.old hw1) (hf.old hw1)) ?_
  refine JL.val rfl rfl rfl (.none rfl) (Ev.assign rfl) ?_
  refine JL.nil ?_
  refine JQ.thenN ?_
  refine JC.seq ?_
  -- region 3
  refine JC.region ?_
  refine JL.val rfl rfl rfl (.none rfl) (Ev.loadB rfl (by repeat (first | exact List.Mem.head _ | refine List.Mem.tail _ ?_ | refine List.mem_append_right _ ?_ | assumption)) Tryd.underlying25 rfl Tryd.sizeOf25 (by rw [arr8_size, hs])) ?_
  refine JL.val rfl rfl rfl (.none rfl) (Ev.move rfl) ?_
  refine JL.val rfl rfl rfl (.none rfl) (Ev.move rfl) ?_
  refine JL.val rfl rfl rfl (.none rfl) (Ev.bin rfl rfl (rem_u8 (y := 33) (by decide))) ?_
  refine JL.val rfl rfl rfl (.none rfl) (Ev.bin rfl rfl (shl_u64 (x := 1) (n := (power % 33).toNat) (by have := pow_lt power; omega))) ?_
  refine JL.callV rfl (.none rfl) rfl Tryd.call15 (fun w1 hw1 => Number_any s hs i (1 <<< UInt64.ofNat (power % 33).toNat : UInt64) w1 (hk.old hw1) (hf.old hw1)) ?_
  refine JL.val rfl rfl rfl (.none rfl) (Ev.move rfl) ?_
  refine JL.val rfl rfl rfl (.none rfl) (Ev.ex0 rfl) ?_
  refine JL.val rfl rfl rfl (.none rfl) (Ev.ex1 rfl) ?_
  refine JL.val rfl rfl rfl (.none rfl) (Ev.assign rfl) ?_
  refine JL.val rfl rfl rfl (.none rfl) (Ev.assign rfl) ?_
  refine JL.nil ?_
  refine JQ.thenN ?_
  refine JC.seq ?_
  refine JC.seq ?_
  -- region 4
  refine JC.region ?_
  obtain ⟨hpv, hpe⟩ := num_pow s i power
  refine JL.re (d := 12) (v' := .int .i64 0) rfl (congrArg (Value.int .i64) (hpe)) ?_
  refine JL.re (d := 11) (v' := u64 (tryD s i 0 % (1 <<< UInt64.ofNat (power % 33).toNat : UInt64))) rfl (congrArg u64 hpv) ?_
  refine JL.val rfl rfl rfl (.none rfl) (Ev.move rfl) ?_
  refine JL.val rfl rfl rfl (.none rfl) (Ev.bin rfl rfl neq_int) ?_
  refine JL.val rfl rfl rfl (.none rfl) (Ev.move rfl) ?_
  refine JL.know (d := 30) (b := false) rfl ?_ ?_
  · rfl
  refine JL.val rfl rfl rfl (.yes rfl rfl rfl) (Ev.move rfl) ?_
  refine JL.val rfl rfl rfl (.yes rfl rfl rfl) (Ev.move rfl) ?_
  refine JL.val rfl rfl rfl (.yes rfl rfl rfl) (Ev.move rfl) ?_
  refine JL.val rfl rfl rfl (.yes rfl rfl rfl) (Ev.bin rfl rfl (rem_u8 (y := 33) (by decide))) ?_
  refine JL.val rfl rfl rfl (.yes rfl rfl rfl) (Ev.bin rfl rfl (shl_u64 (x := 1) (n := (power % 33).toNat) (by have := pow_lt power; omega))) ?_
  refine JL.val rfl rfl rfl (.yes rfl rfl rfl) (Ev.bin rfl rfl (rem_u64 (pow_ne power))) ?_
  refine JL.val rfl rfl rfl (.yes rfl rfl rfl) (Ev.bin rfl rfl neq_int) ?_
  refine JL.val rfl rfl rfl (.none rfl) (Ev.pickF rfl rfl) ?_
  refine JL.nil ?_
  refine JQ.thenN ?_
  refine JC.knowF rfl ?_ ?_
  · exact decide_eq_false (fun h => h rfl)
  refine JC.skip ?_
  refine JQ.thenN ?_
  refine JC.seq ?_
  -- region 6
  refine JC.region ?_
  refine JL.val rfl rfl rfl (.none rfl) (Ev.loadB rfl (by repeat (first | exact List.Mem.head _ | refine List.Mem.tail _ ?_ | refine List.mem_append_right _ ?_ | assumption)) Tryd.underlying25 rfl Tryd.sizeOf25 (by rw [arr8_size, hs])) ?_
  refine JL.val rfl rfl rfl (.none rfl) (Ev.move rfl) ?_
  refine JL.val rfl rfl rfl (.none rfl) (Ev.move rfl) ?_
  refine JL.callV rfl (.none rfl) rfl Tryd.call15 (fun w1 hw1 => Number_any s hs i m w1 (hk.old hw1) (hf.old hw1)) ?_
  refine JL.val rfl rfl rfl (.none rfl) (Ev.move rfl) ?_
  refine JL.val rfl rfl rfl (.none rfl) (Ev.ex0 rfl) ?_
  refine JL.val rfl rfl rfl (.none rfl) (Ev.ex1 rfl) ?_
  refine JL.val rfl rfl rfl (.none rfl) (Ev.assign rfl) ?_
  refine JL.val rfl rfl rfl (.none rfl) (Ev.assign rfl) ?_
  refine JL.nil ?_
  refine JQ.thenN ?_
  refine JC.seq ?_
  refine JC.seq ?_
  -- region 7
  refine JC.region ?_
  refine JL.val rfl rfl rfl (.none rfl) (Ev.move rfl) ?_
  refine JL.val rfl rfl rfl (.none rfl) (Ev.bin rfl rfl neq_int) ?_
  refine JL.val rfl rfl rfl (.none rfl) (Ev.move rfl) ?_
  refine JL.split (d := 48) rfl (fun hgE => ?_) (fun hgE => ?_)
  · -- guard 48 true
    refine JL.skip rfl rfl (.noF rfl rfl rfl) ?_
    refine JL.skip rfl rfl (.noF rfl rfl rfl) ?_
    refine JL.val rfl rfl rfl (.none rfl) (Ev.pickT rfl rfl) ?_
    refine JL.nil ?_
    refine JQ.thenN ?_
    refine JC.condT rfl ?_
    refine JC.seq ?_
    -- region 8
    refine JC.region ?_
    refine JL.val rfl rfl rfl (.none rfl) (Ev.move rfl) ?_
    refine JL.val rfl rfl rfl (.none rfl) (Ev.assign rfl) ?_
    refine JL.nil ?_
    refine JQ.thenN ?_
    refine JC.ret ?_
    refine JQ.thenR ?_
    refine JQ.end1 (H' := []) (.inl rfl) rfl (.tmp rfl) ?_ ?_
    · first | exact Sub.all | exact Sub.of_cnt (fun a => by simp only [cnt_append, cnt_cons, cnt_nil, List.nil_append, List.append_nil]; omega) | repeat (first | exact Sub.nil | refine Sub.cons (by first | exact .here | exact .there .here | exact .there (.there .here) | exact .there (.there (.there .here)) | exact .there (.there (.there (.there .here)))) ?_ | exact Sub.all)
    · exact rfl
  · -- guard 48 false
    have he : numE s i m = 0 := Decidable.not_not.1 (of_decide_eq_false hgE)
    have hm := numE_zero he
    have hm0 : m ≠ 0 := fun h => hm (.inl (by rw [h]; decide))
    refine JL.val rfl rfl rfl (.yes rfl rfl rfl) (Ev.move rfl) ?_
    refine JL.val rfl rfl rfl (.yes rfl rfl rfl) (Ev.bin rfl rfl geq_int) ?_
    refine JL.val rfl rfl rfl (.none rfl) (Ev.pickF rfl rfl) ?_
    refine JL.nil ?_
    refine JQ.thenN ?_
    refine JC.cond rfl (fun hcT => ?_) (fun hcT => ?_)
    · -- t51 True
      replace hcT := of_decide_eq_true hcT
      refine JC.seq ?_
      -- region 8
      refine JC.region ?_
      refine JL.val rfl rfl rfl (.none rfl) (Ev.move rfl) ?_
      refine JL.val rfl rfl rfl (.none rfl) (Ev.assign rfl) ?_
      refine JL.nil ?_
      refine JQ.thenN ?_
      refine JC.ret ?_
      refine JQ.thenR ?_
      refine JQ.end1 (H' := []) (.inl rfl) rfl (.tmp rfl) ?_ ?_
      · first | exact Sub.all | exact Sub.of_cnt (fun a => by simp only [cnt_append, cnt_cons, cnt_nil, List.nil_append, List.append_nil]; omega) | repeat (first | exact Sub.nil | refine Sub.cons (by first | exact .here | exact .there .here | exact .there (.there .here) | exact .there (.there (.there .here)) | exact .there (.there (.there (.there .here)))) ?_ | exact Sub.all)
      · exact rfl
    · -- t51 False
      replace hcT := of_decide_eq_false hcT
      have hlt : ¬ (18446744069414584319 : Int) ≤ ((tryD s i 0).toNat : Int) := fun h => hcT h
      refine JC.skip ?_
      refine JQ.thenN ?_
      refine JC.seq ?_
      -- region 9
      refine JC.region ?_
      refine JL.val rfl rfl rfl (.none rfl) (Ev.move rfl) ?_
      refine JL.val rfl rfl rfl (.none rfl) (Ev.move rfl) ?_
      refine JL.know (d := 54) (b := true) rfl ?_ ?_
      · rfl
      refine JL.val rfl rfl rfl (.yes rfl rfl rfl) (Ev.move rfl) ?_
      refine JL.val rfl rfl rfl (.yes rfl rfl rfl) (Ev.move rfl) ?_
      refine JL.val rfl rfl rfl (.yes rfl rfl rfl) (Ev.move rfl) ?_
      refine JL.val rfl rfl rfl (.yes rfl rfl rfl) (Ev.bin rfl rfl (rem_u64 hm0)) ?_
      refine JL.val rfl rfl rfl (.yes rfl rfl rfl) (Ev.bin rfl rfl eql_int) ?_
      refine JL.val rfl rfl rfl (.none rfl) (Ev.pickT rfl rfl) ?_
      refine JL.val rfl rfl rfl (.none rfl) (Ev.assign rfl) ?_
      refine JL.nil ?_
      refine JQ.thenN ?_
      refine JC.ret ?_
      refine JQ.end1 (H' := []) (.inl rfl) rfl (.tmp rfl) ?_ ?_
      · first | exact Sub.all | exact Sub.of_cnt (fun a => by simp only [cnt_append, cnt_cons, cnt_nil, List.nil_append, List.append_nil]; omega) | repeat (first | exact Sub.nil | refine Sub.cons (by first | exact .here | exact .there .here | exact .there (.there .here) | exact .there (.there (.there .here)) | exact .there (.there (.there (.there .here)))) ?_ | exact Sub.all)
      · exact congrArg Value.bool (decide_eq_true (congrArg (fun u : UInt64 => (u.toNat : Int)) (num_small hm hlt)))

theorem lawNames_any (w : World) (hk : KMem 1 w) (hf : FMem 0 w) :
    Calls Tryd.prog 10 #[] w (Ret w (fun v _ => v = .bool true)) := by
  refine enter (vs := []) Tryd.func10 rfl Tryd.ntmps10 rfl ?_
  refine JC.seq ?_
  -- region 0
  refine JC.region ?_
  refine JL.val rfl rfl rfl (.none rfl) (Ev.assign rfl) ?_
  refine JL.nil ?_
  refine JQ.thenN ?_
  refine JC.seq ?_
  -- region 1
  refine JC.region ?_
  refine JL.new rfl rfl rfl (.none rfl) (En.allocZ (cs := arr8 (List.replicate 32 0)) Tryd.zeroValue25 rfl) (fun b1 hb1 => ?_)
  refine JL.nil ?_
  refine JQ.thenN ?_
  refine JC.seq ?_
  -- region 2
  refine JC.region ?_
  refine JL.val rfl rfl rfl (.none rfl) (Ev.loadB rfl (by repeat (first | exact List.Mem.head _ | refine List.Mem.tail _ ?_ | refine List.mem_append_right _ ?_ | assumption)) Tryd.underlying25 rfl Tryd.sizeOf25 rfl) ?_
  refine JL.callV rfl (.none rfl) rfl Tryd.call15 (fun w1 hw1 => Number_any (List.replicate 32 0) rfl 0 0 w1 (hk.old hw1) (hf.old hw1)) ?_
  refine JL.val rfl rfl rfl (.none rfl) (Ev.move rfl) ?_
  refine JL.val rfl rfl rfl (.none rfl) (Ev.ex0 rfl) ?_
  refine JL.val rfl rfl rfl (.none rfl) (Ev.ex1 rfl) ?_
  refine JL.val rfl rfl rfl (.none rfl) (Ev.assign rfl) ?_
  refine JL.val rfl rfl rfl (.none rfl) (Ev.assign rfl) ?_
  refine JL.nil ?_
  refine JQ.thenN ?_
  refine JC.seq ?_
  -- region 3
  refine JC.region ?_
  refine JL.val rfl rfl rfl (.none rfl) (Ev.loadB rfl (by repeat (first | exact List.Mem.head _ | refine List.Mem.tail _ ?_ | refine List.mem_append_right _ ?_ | assumption)) Tryd.underlying25 rfl Tryd.sizeOf25 rfl) ?_
  refine JL.callV rfl (.none rfl) rfl Tryd.call15 (fun w1 hw1 => Number_any (List.replicate 32 0) rfl 0 4294967297 w1 (hk.old hw1) (hf.old hw1)) ?_
  refine JL.val rfl rfl rfl (.none rfl) (Ev.move rfl) ?_
  refine JL.val rfl rfl rfl (.none rfl) (Ev.ex0 rfl) ?_
  refine JL.val rfl rfl rfl (.none rfl) (Ev.ex1 rfl) ?_
  refine JL.val rfl rfl rfl (.none rfl) (Ev.assign rfl) ?_
  refine JL.val rfl rfl rfl (.none rfl) (Ev.assign rfl) ?_
  refine JL.nil ?_
  refine JQ.thenN ?_
  refine JC.seq ?_
  -- region 4
  refine JC.region ?_
  refine JL.val rfl rfl rfl (.none rfl) (Ev.loadB rfl (by repeat (first | exact List.Mem.head _ | refine List.Mem.tail _ ?_ | refine List.mem_append_right _ ?_ | assumption)) Tryd.underlying25 rfl Tryd.sizeOf25 rfl) ?_
  refine JL.callV rfl (.none rfl) rfl Tryd.call15 (fun w1 hw1 => Number_any (List.replicate 32 0) rfl 4294967295 4294967296 w1 (hk.old hw1) (hf.old hw1)) ?_
  refine JL.val rfl rfl rfl (.none rfl) (Ev.move rfl) ?_
  refine JL.val rfl rfl rfl (.none rfl) (Ev.ex0 rfl) ?_
  refine JL.val rfl rfl rfl (.none rfl) (Ev.ex1 rfl) ?_
  refine JL.val rfl rfl rfl (.none rfl) (Ev.assign rfl) ?_
  refine JL.val rfl rfl rfl (.none rfl) (Ev.assign rfl) ?_
  refine JL.nil ?_
  refine JQ.thenN ?_
  refine JC.seq ?_
  -- region 5
  refine JC.region ?_
  refine JL.val rfl rfl rfl (.none rfl) (Ev.loadB rfl (by repeat (first | exact List.Mem.head _ | refine List.Mem.tail _ ?_ | refine List.mem_append_right _ ?_ | assumption)) Tryd.underlying25 rfl Tryd.sizeOf25 rfl) ?_
  refine JL.callN rfl (.none rfl) rfl Tryd.call20 (fun w1 hw1 => Lot_any (List.replicate 32 0) rfl (65) (by decide) w1 (hk.old hw1) (hf.old hw1)) ?_
  rintro _ _ ⟨r1, rfl, rfl, hr1⟩
  refine JL.val rfl rfl rfl (.none rfl) (Ev.move rfl) ?_
  refine JL.val rfl rfl rfl (.none rfl) (Ev.ex0 rfl) ?_
  refine JL.val rfl rfl rfl (.none rfl) (Ev.ex1 rfl) ?_
  refine JL.val rfl rfl rfl (.none rfl) (Ev.assign rfl) ?_
  refine JL.val rfl rfl rfl (.none rfl) (Ev.assign rfl) ?_
  refine JL.nil ?_
  refine JQ.thenN ?_
  refine JC.seq ?_
  -- region 6
  refine JC.region ?_
  refine JL.val rfl rfl rfl (.none rfl) (Ev.loadB rfl (by repeat (first | exact List.Mem.head _ | refine List.Mem.tail _ ?_ | refine List.mem_append_right _ ?_ | assumption)) Tryd.underlying25 rfl Tryd.sizeOf25 rfl) ?_
  refine JL.callN rfl (.none rfl) rfl Tryd.call20 (fun w1 hw1 => Lot_any (List.replicate 32 0) rfl (-1) (by decide) w1 (hk.old hw1) (hf.old hw1)) ?_
  rintro _ _ ⟨r2, rfl, rfl, hr2⟩
  refine JL.val rfl rfl rfl (.none rfl) (Ev.move rfl) ?_
  refine JL.val rfl rfl rfl (.none rfl) (Ev.ex0 rfl) ?_
  refine JL.val rfl rfl rfl (.none rfl) (Ev.ex1 rfl) ?_
  refine JL.val rfl rfl rfl (.none rfl) (Ev.assign rfl) ?_
  refine JL.val rfl rfl rfl (.none rfl) (Ev.assign rfl) ?_
  refine JL.nil ?_
  refine JQ.thenN ?_
  refine JC.seq ?_
  -- region 7
  refine JC.region ?_
  refine JL.val rfl rfl rfl (.none rfl) (Ev.loadB rfl (by repeat (first | exact List.Mem.head _ | refine List.Mem.tail _ ?_ | refine List.mem_append_right _ ?_ | assumption)) Tryd.underlying25 rfl Tryd.sizeOf25 rfl) ?_
  refine JL.callN rfl (.none rfl) rfl Tryd.call17 (fun w1 hw1 => Sample_any (List.replicate 32 0) rfl 4294967295 (2) (by decide) 1 w1 (hk.old hw1) (hf.old hw1)) ?_
  rintro _ _ ⟨r3, rfl, rfl, hr3⟩
  refine JL.val rfl rfl rfl (.none rfl) (Ev.move rfl) ?_
  refine JL.val rfl rfl rfl (.none rfl) (Ev.ex0 rfl) ?_
  refine JL.val rfl rfl rfl (.none rfl) (Ev.ex1 rfl) ?_
  refine JL.val rfl rfl rfl (.none rfl) (Ev.assign rfl) ?_
  refine JL.val rfl rfl rfl (.none rfl) (Ev.assign rfl) ?_
  refine JL.nil ?_
  refine JQ.thenN ?_
  refine JC.seq ?_
  -- region 8
  refine JC.region ?_
  refine JL.val rfl rfl rfl (.none rfl) (Ev.loadB rfl (by repeat (first | exact List.Mem.head _ | refine List.Mem.tail _ ?_ | refine List.mem_append_right _ ?_ | assumption)) Tryd.underlying25 rfl Tryd.sizeOf25 rfl) ?_
  refine JL.callN rfl (.none rfl) rfl Tryd.call17 (fun w1 hw1 => Sample_any (List.replicate 32 0) rfl 4294967295 (1) (by decide) 1 w1 (hk.old hw1) (hf.old hw1)) ?_
  rintro _ _ ⟨r4, rfl, rfl, hr4⟩
  refine JL.val rfl rfl rfl (.none rfl) (Ev.move rfl) ?_
  refine JL.val rfl rfl rfl (.none rfl) (Ev.ex0 rfl) ?_
  refine JL.val rfl rfl rfl (.none rfl) (Ev.ex1 rfl) ?_
  refine JL.val rfl rfl rfl (.none rfl) (Ev.assign rfl) ?_
  refine JL.val rfl rfl rfl (.none rfl) (Ev.assign rfl) ?_
  refine JL.nil ?_
  refine JQ.thenN ?_
  refine JC.seq ?_
  -- region 9
  refine JC.region ?_
  refine JL.val rfl rfl rfl (.none rfl) (Ev.loadB rfl (by repeat (first | exact List.Mem.head _ | refine List.Mem.tail _ ?_ | refine List.mem_append_right _ ?_ | assumption)) Tryd.underlying25 rfl Tryd.sizeOf25 rfl) ?_
  refine JL.callN rfl (.none rfl) rfl Tryd.call17 (fun w1 hw1 => Sample_any (List.replicate 32 0) rfl 0 (4097) (by decide) 1 w1 (hk.old hw1) (hf.old hw1)) ?_
  rintro _ _ ⟨r5, rfl, rfl, hr5⟩
  refine JL.val rfl rfl rfl (.none rfl) (Ev.move rfl) ?_
  refine JL.val rfl rfl rfl (.none rfl) (Ev.ex0 rfl) ?_
  refine JL.val rfl rfl rfl (.none rfl) (Ev.ex1 rfl) ?_
  refine JL.val rfl rfl rfl (.none rfl) (Ev.assign rfl) ?_
  refine JL.val rfl rfl rfl (.none rfl) (Ev.assign rfl) ?_
  refine JL.nil ?_
  refine JQ.thenN ?_
  refine JC.seq ?_
  -- region 10
  refine JC.region ?_
  refine JL.val rfl rfl rfl (.none rfl) (Ev.loadB rfl (by repeat (first | exact List.Mem.head _ | refine List.Mem.tail _ ?_ | refine List.mem_append_right _ ?_ | assumption)) Tryd.underlying25 rfl Tryd.sizeOf25 rfl) ?_
  refine JL.callN rfl (.none rfl) rfl Tryd.call17 (fun w1 hw1 => Sample_any (List.replicate 32 0) rfl 0 (-1) (by decide) 1 w1 (hk.old hw1) (hf.old hw1)) ?_
  rintro _ _ ⟨r6, rfl, rfl, hr6⟩
  refine JL.val rfl rfl rfl (.none rfl) (Ev.move rfl) ?_
  refine JL.val rfl rfl rfl (.none rfl) (Ev.ex0 rfl) ?_
  refine JL.val rfl rfl rfl (.none rfl) (Ev.ex1 rfl) ?_
  refine JL.val rfl rfl rfl (.none rfl) (Ev.assign rfl) ?_
  refine JL.val rfl rfl rfl (.none rfl) (Ev.assign rfl) ?_
  refine JL.nil ?_
  refine JQ.thenN ?_
  refine JC.seq ?_
  -- region 11
  refine JC.region ?_
  refine JL.val rfl rfl rfl (.none rfl) (Ev.loadB rfl (by repeat (first | exact List.Mem.head _ | refine List.Mem.tail _ ?_ | refine List.mem_append_right _ ?_ | assumption)) Tryd.underlying25 rfl Tryd.sizeOf25 rfl) ?_
  refine JL.callN rfl (.none rfl) rfl Tryd.call17 (fun w1 hw1 => Sample_any (List.replicate 32 0) rfl 0 (4097) (by decide) 0 w1 (hk.old hw1) (hf.old hw1)) ?_
  rintro _ _ ⟨r7, rfl, rfl, hr7⟩
  refine JL.val rfl rfl rfl (.none rfl) (Ev.move rfl) ?_
  refine JL.val rfl rfl rfl (.none rfl) (Ev.ex0 rfl) ?_
  refine JL.val rfl rfl rfl (.none rfl) (Ev.ex1 rfl) ?_
  refine JL.val rfl rfl rfl (.none rfl) (Ev.assign rfl) ?_
  refine JL.val rfl rfl rfl (.none rfl) (Ev.assign rfl) ?_
  refine JL.nil ?_
  refine JQ.thenN ?_
  refine JC.seq ?_
  -- region 12
  refine JC.region ?_
  refine JL.new rfl rfl rfl (.none rfl) (En.make8 (n := 8191) rfl rfl Tryd.underlying23 (by kernel_rfl) (by decide)) (fun b78 hb78 => ?_)
  refine JL.new rfl rfl rfl (.none rfl) (En.bsN (e := 23) rfl (fun _ => by kernel_rfl)) (fun b79 hb79 => ?_)
  refine JL.callV rfl (.none rfl) rfl Tryd.call12 (fun w1 hw1 => Mix_any (some ⟨b79, 0, none⟩) 1 [⟨some ⟨b78, 0, none⟩, 8191, List.replicate 8191 0⟩] w1 (ps_one (n := 8191) hw1 (.head _) (.tail _ (.head _)) (by decide)) (show 1 ≤ 1000 by decide) (fun p hp => by rcases List.mem_singleton.1 hp with rfl; rw [List.length_replicate]; decide) (hk.old hw1) (hf.old hw1)) ?_
  refine JL.val rfl rfl rfl (.none rfl) (Ev.move rfl) ?_
  refine JL.val rfl rfl rfl (.none rfl) (Ev.ex0 rfl) ?_
  refine JL.val rfl rfl rfl (.none rfl) (Ev.ex1 rfl) ?_
  refine JL.new rfl rfl rfl (.none rfl) (En.allocZ (cs := arr8 (List.replicate 32 0)) Tryd.zeroValue25 rfl) (fun b22 hb22 => ?_)
  refine JL.sto rfl rfl (.none rfl) (Es.storeA rfl rfl Tryd.sizeOf25 (by repeat (first | exact .here | apply Upd.there | apply Upd.left)) (by rw [arr8_size, mixD_length]) rfl (arr8_one _)) ?_
  refine JL.val rfl rfl rfl (.none rfl) (Ev.assign rfl) ?_
  refine JL.nil ?_
  refine JQ.thenN ?_
  refine JC.seq ?_
  -- region 13
  refine JC.region ?_
  refine JL.new rfl rfl rfl (.none rfl) (En.make8 (n := 8190) rfl rfl Tryd.underlying23 (by kernel_rfl) (by decide)) (fun b84 hb84 => ?_)
  refine JL.new rfl rfl rfl (.none rfl) (En.bsN (e := 23) rfl (fun _ => by kernel_rfl)) (fun b85 hb85 => ?_)
  refine JL.callV rfl (.none rfl) rfl Tryd.call12 (fun w1 hw1 => Mix_any (some ⟨b85, 0, none⟩) 1 [⟨some ⟨b84, 0, none⟩, 8190, List.replicate 8190 0⟩] w1 (ps_one (n := 8190) hw1 (.head _) (.tail _ (.head _)) (by decide)) (show 1 ≤ 1000 by decide) (fun p hp => by rcases List.mem_singleton.1 hp with rfl; rw [List.length_replicate]; decide) (hk.old hw1) (hf.old hw1)) ?_
  refine JL.val rfl rfl rfl (.none rfl) (Ev.move rfl) ?_
  refine JL.val rfl rfl rfl (.none rfl) (Ev.ex0 rfl) ?_
  refine JL.val rfl rfl rfl (.none rfl) (Ev.ex1 rfl) ?_
  refine JL.new rfl rfl rfl (.none rfl) (En.allocZ (cs := arr8 (List.replicate 32 0)) Tryd.zeroValue25 rfl) (fun b24 hb24 => ?_)
  refine JL.sto rfl rfl (.none rfl) (Es.storeA rfl rfl Tryd.sizeOf25 (by repeat (first | exact .here | apply Upd.there | apply Upd.left)) (by rw [arr8_size, mixD_length]) rfl (arr8_one _)) ?_
  refine JL.val rfl rfl rfl (.none rfl) (Ev.assign rfl) ?_
  refine JL.nil ?_
  refine JQ.thenN ?_
  refine JC.seq ?_
  -- region 14
  refine JC.region ?_
  refine JL.re (d := 3) (v' := .int .i64 2) rfl (congrArg (Value.int .i64) (numE_bad (by decide))) ?_
  refine JL.re (d := 5) (v' := .int .i64 2) rfl (congrArg (Value.int .i64) (numE_bad (by decide))) ?_
  refine JL.re (d := 9) (v' := .int .i64 2) rfl (congrArg (Value.int .i64) (lotE_bad (.inr (by decide)))) ?_
  refine JL.re (d := 11) (v' := .int .i64 2) rfl (congrArg (Value.int .i64) (lotE_bad (.inl (by decide)))) ?_
  refine JL.re (d := 13) (v' := .int .i64 2) rfl (congrArg (Value.int .i64) (sampE_bad (.inr (.inl (by decide))))) ?_
  refine JL.re (d := 17) (v' := .int .i64 4) rfl (congrArg (Value.int .i64) (sampE_great (by unfold badS; decide) (by decide))) ?_
  refine JL.re (d := 19) (v' := .int .i64 2) rfl (congrArg (Value.int .i64) (sampE_bad (.inl (by decide)))) ?_
  refine JL.re (d := 21) (v' := .int .i64 2) rfl (congrArg (Value.int .i64) (sampE_bad (.inr (.inr (.inl (by decide)))))) ?_
  refine JL.re (d := 23) (v' := .int .i64 4) rfl (congrArg (Value.int .i64) (mixE_big (n := 8191) (by decide) (by decide))) ?_
  refine JL.re (d := 25) (v' := .int .i64 0) rfl (congrArg (Value.int .i64) (mixE_fit (n := 8190) (by decide))) ?_
  refine JL.re (d := 7) (v' := .int .i64 0) rfl (congrArg (Value.int .i64) ((num_pow32 _ _).2)) ?_
  refine JL.re (d := 15) (v' := .int .i64 0) rfl (congrArg (Value.int .i64) ((samp_one _ (i := 4294967295) (n := 1) (by decide) (by decide)).1)) ?_
  obtain ⟨o4, c4, e4, _, hC4⟩ := Row.vw (e := 34) hr4
  refine JL.re (d := 14) rfl e4 ?_
  refine JL.val rfl rfl rfl (.none rfl) (Ev.move rfl) ?_
  refine JL.val rfl rfl rfl (.none rfl) (Ev.bin rfl rfl eql_int) ?_
  refine JL.val rfl rfl rfl (.none rfl) (Ev.move rfl) ?_
  refine JL.know (d := 91) (b := true) rfl ?_ ?_
  · rfl
  refine JL.val rfl rfl rfl (.yes rfl rfl rfl) (Ev.move rfl) ?_
  refine JL.val rfl rfl rfl (.yes rfl rfl rfl) (Ev.bin rfl rfl eql_int) ?_
  refine JL.val rfl rfl rfl (.none rfl) (Ev.pickT rfl rfl) ?_
  refine JL.val rfl rfl rfl (.none rfl) (Ev.move rfl) ?_
  refine JL.know (d := 95) (b := true) rfl ?_ ?_
  · rfl
  refine JL.val rfl rfl rfl (.yes rfl rfl rfl) (Ev.move rfl) ?_
  refine JL.val rfl rfl rfl (.yes rfl rfl rfl) (Ev.bin rfl rfl eql_int) ?_
  refine JL.val rfl rfl rfl (.none rfl) (Ev.pickT rfl rfl) ?_
  refine JL.val rfl rfl rfl (.none rfl) (Ev.move rfl) ?_
  refine JL.know (d := 99) (b := true) rfl ?_ ?_
  · rfl
  refine JL.val rfl rfl rfl (.yes rfl rfl rfl) (Ev.move rfl) ?_
  refine JL.val rfl rfl rfl (.yes rfl rfl rfl) (Ev.bin rfl rfl eql_int) ?_
  refine JL.val rfl rfl rfl (.none rfl) (Ev.pickT rfl rfl) ?_
  refine JL.val rfl rfl rfl (.none rfl) (Ev.move rfl) ?_
  refine JL.know (d := 103) (b := true) rfl ?_ ?_
  · rfl
  refine JL.val rfl rfl rfl (.yes rfl rfl rfl) (Ev.move rfl) ?_
  refine JL.val rfl rfl rfl (.yes rfl rfl rfl) (Ev.bin rfl rfl eql_int) ?_
  refine JL.val rfl rfl rfl (.none rfl) (Ev.pickT rfl rfl) ?_
  refine JL.val rfl rfl rfl (.none rfl) (Ev.move rfl) ?_
  refine JL.know (d := 107) (b := true) rfl ?_ ?_
  · rfl
  refine JL.val rfl rfl rfl (.yes rfl rfl rfl) (Ev.move rfl) ?_
  refine JL.val rfl rfl rfl (.yes rfl rfl rfl) (Ev.bin rfl rfl eql_int) ?_
  refine JL.val rfl rfl rfl (.none rfl) (Ev.pickT rfl rfl) ?_
  refine JL.val rfl rfl rfl (.none rfl) (Ev.move rfl) ?_
  refine JL.know (d := 111) (b := true) rfl ?_ ?_
  · rfl
  refine JL.val rfl rfl rfl (.yes rfl rfl rfl) (Ev.move rfl) ?_
  refine JL.val rfl rfl rfl (.yes rfl rfl rfl) (Ev.bin rfl rfl eql_int) ?_
  refine JL.val rfl rfl rfl (.none rfl) (Ev.pickT rfl rfl) ?_
  refine JL.val rfl rfl rfl (.none rfl) (Ev.move rfl) ?_
  refine JL.know (d := 115) (b := true) rfl ?_ ?_
  · rfl
  refine JL.val rfl rfl rfl (.yes rfl rfl rfl) (Ev.move rfl) ?_
  refine JL.val rfl rfl rfl (.yes rfl rfl rfl) (Ev.bin rfl rfl eql_int) ?_
  refine JL.val rfl rfl rfl (.none rfl) (Ev.pickT rfl rfl) ?_
  refine JL.val rfl rfl rfl (.none rfl) (Ev.move rfl) ?_
  refine JL.know (d := 119) (b := true) rfl ?_ ?_
  · rfl
  refine JL.val rfl rfl rfl (.yes rfl rfl rfl) (Ev.move rfl) ?_
  refine JL.val rfl rfl rfl (.yes rfl rfl rfl) (Ev.bin rfl rfl eql_int) ?_
  refine JL.val rfl rfl rfl (.none rfl) (Ev.pickT rfl rfl) ?_
  refine JL.val rfl rfl rfl (.none rfl) (Ev.assign rfl) ?_
  refine JL.nil ?_
  refine JQ.thenN ?_
  refine JC.seq ?_
  -- region 15
  refine JC.region ?_
  refine JL.val rfl rfl rfl (.none rfl) (Ev.move rfl) ?_
  refine JL.callV rfl (.yes rfl rfl rfl) rfl Tryd.call23 (fun w1 hw1 => alive_any w1 (hk.old hw1) (hf.old hw1)) ?_
  refine JL.val rfl rfl rfl (.none rfl) (Ev.pickT rfl rfl) ?_
  refine JL.val rfl rfl rfl (.none rfl) (Ev.move rfl) ?_
  refine JL.know (d := 126) (b := true) rfl ?_ ?_
  · rfl
  refine JL.val rfl rfl rfl (.yes rfl rfl rfl) (Ev.move rfl) ?_
  refine JL.val rfl rfl rfl (.none rfl) (Ev.pickT rfl rfl) ?_
  refine JL.val rfl rfl rfl (.none rfl) (Ev.move rfl) ?_
  refine JL.know (d := 129) (b := true) rfl ?_ ?_
  · rfl
  refine JL.val rfl rfl rfl (.yes rfl rfl rfl) (Ev.move rfl) ?_
  refine JL.val rfl rfl rfl (.yes rfl rfl rfl) (Ev.bin rfl rfl eql_int) ?_
  refine JL.val rfl rfl rfl (.none rfl) (Ev.pickT rfl rfl) ?_
  refine JL.val rfl rfl rfl (.none rfl) (Ev.move rfl) ?_
  refine JL.know (d := 133) (b := true) rfl ?_ ?_
  · rfl
  refine JL.val rfl rfl rfl (.yes rfl rfl rfl) (Ev.move rfl) ?_
  refine JL.val rfl rfl rfl (.yes rfl rfl rfl) (Ev.bin rfl rfl lss_int) ?_
  refine JL.val rfl rfl rfl (.none rfl) (Ev.pickT rfl rfl) ?_
  refine JL.val rfl rfl rfl (.none rfl) (Ev.move rfl) ?_
  refine JL.know (d := 137) (b := true) rfl ?_ ?_
  · exact decide_eq_true (num_pow32 _ _).1
  refine JL.val rfl rfl rfl (.yes rfl rfl rfl) (Ev.move rfl) ?_
  refine JL.val rfl rfl rfl (.yes rfl rfl rfl) (Ev.bin rfl rfl eql_int) ?_
  refine JL.val rfl rfl rfl (.none rfl) (Ev.pickT rfl rfl) ?_
  refine JL.val rfl rfl rfl (.none rfl) (Ev.move rfl) ?_
  refine JL.know (d := 141) (b := true) rfl ?_ ?_
  · rfl
  refine JL.val rfl rfl rfl (.yes rfl rfl rfl) (Ev.move rfl) ?_
  refine JL.val rfl rfl rfl (.yes rfl rfl rfl) (Ev.lenS rfl Tryd.underlying40) ?_
  refine JL.val rfl rfl rfl (.yes rfl rfl rfl) (Ev.bin rfl rfl eql_int) ?_
  refine JL.val rfl rfl rfl (.none rfl) (Ev.pickT rfl rfl) ?_
  refine JL.val rfl rfl rfl (.none rfl) (Ev.move rfl) ?_
  refine JL.know (d := 146) (b := true) rfl ?_ ?_
  · exact decide_eq_true (by have h : sampL (List.replicate 32 0) 4294967295 1 1 = [0] := (samp_one _ (i := 4294967295) (n := 1) (by decide) (by decide)).2; rw [h]; rfl)
  refine JL.val rfl rfl rfl (.yes rfl rfl rfl) (Ev.move rfl) ?_
  refine JL.val rfl rfl rfl (.yes rfl rfl rfl) (Ev.bin rfl rfl eql_int) ?_
  refine JL.val rfl rfl rfl (.none rfl) (Ev.pickT rfl rfl) ?_
  refine JL.val rfl rfl rfl (.none rfl) (Ev.assign rfl) ?_
  refine JL.nil ?_
  refine JQ.thenN ?_
  refine JC.ret ?_
  refine JQ.end1 (H' := []) (.inl rfl) rfl (.tmp rfl) ?_ ?_
  · first | exact Sub.all | exact Sub.of_cnt (fun a => by simp only [cnt_append, cnt_cons, cnt_nil, List.nil_append, List.append_nil]; omega) | repeat (first | exact Sub.nil | refine Sub.cons (by first | exact .here | exact .there .here | exact .there (.there .here) | exact .there (.there (.there .here)) | exact .there (.there (.there (.there .here)))) ?_ | exact Sub.all)
  · exact rfl

end Go.Proofs.YtegcdgpkoombmaaDoor
