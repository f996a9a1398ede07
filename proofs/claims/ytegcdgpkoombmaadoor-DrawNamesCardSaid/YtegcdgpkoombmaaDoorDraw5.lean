/-
  A lot: a list shuffled by the numbers drawn, in the program and in the reference.
-/
import Derived.Test.YtegcdgpkoombmaaDoorDraw4
namespace Go.Proofs.YtegcdgpkoombmaaDoor
open Go Go.RowKit
set_option maxRecDepth 100000

def i64s := i64
def initL (n k : Nat) : List Int := (List.range k).map Int.ofNat ++ List.replicate (n - k) 0
theorem initL_length (n : Nat) {k : Nat} (h : k ≤ n) : (initL n k).length = n := by simp [initL]; omega
theorem initL_zero (n : Nat) : (List.replicate n (Value.int .i64 0)).toArray = ((initL n 0).map i64).toArray := by simp [initL, i64]
theorem initL_set {n k : Nat} (h : k < n) : ((initL n k).map i64).toArray.setIfInBounds k (.int .i64 (k : Int)) = ((initL n (k + 1)).map i64).toArray := by
  show ((initL n k).map i64).toArray.setIfInBounds k (i64 (Int.ofNat k)) = _
  rw [List.setIfInBounds_toArray, ← List.map_set]
  congr 2
  unfold initL
  have e : n - k = n - (k + 1) + 1 := by omega
  rw [e, List.replicate_succ, List.set_append_right _ _ (by simp), List.range_succ]
  simp
def swapL (l : List Int) (i k : Nat) : List Int := (l.set i (l.getD k 0)).set k (l.getD i 0)
def pickK (s : List UInt8) (i : Nat) : Nat := (drawnV s (UInt32.ofNat i) (UInt64.ofNat (i + 1))).toNat
def lotAt (s : List UInt8) (n : Nat) : Nat → List Int
  | 0 => initL n n
  | t + 1 => swapL (lotAt s n t) (n - 1 - t) (pickK s (n - 1 - t))
theorem initL_all (n : Nat) (s : List UInt8) : initL n n = lotAt s n 0 := rfl
theorem lotAt_length (s : List UInt8) (n t : Nat) : (lotAt s n t).length = n := by
  induction t with
  | zero => exact initL_length n (Nat.le_refl _)
  | succ t ih => simp [lotAt, swapL, ih]
def okLot (s : List UInt8) (n t : Nat) : Prop := ∀ j, j < t → (drawn s (UInt32.ofNat (n - 1 - j)) (UInt64.ofNat (n - 1 - j + 1))).isSome
theorem okLot_succ {s : List UInt8} {t j : Nat} (h : okLot s (t + 1 + j) t) (h1 : (drawn s (UInt32.ofNat j) (UInt64.ofNat (j + 1))).isSome) : okLot s (t + 1 + j) (t + 1) :=
  all_succ h (by rw [show t + 1 + j - 1 - t = j by omega]; exact h1)
def badL (z : Int) : Prop := z < 0 ∨ 64 < z
open Classical in
noncomputable def lotE (s : List UInt8) (z : Int) : Int := if badL z then 2 else if okLot s z.toNat (z.toNat - 1) then 0 else 6
open Classical in
noncomputable def lotL (s : List UInt8) (z : Int) : List Int := if badL z then [] else if okLot s z.toNat (z.toNat - 1) then lotAt s z.toNat (z.toNat - 1) else []
section
variable {s : List UInt8} {z : Int} {n : Nat}
theorem lotE_bad (h : badL z) : lotE s z = 2 := if_pos h
theorem lotL_bad (h : badL z) : lotL s z = [] := if_pos h
theorem lotE_none (h : ¬ badL (n : Int)) (h1 : ¬ okLot s n (n - 1)) : lotE s (n : Int) = 6 := by unfold lotE; rw [if_neg h, if_neg (by simpa using h1)]
theorem lotL_none (h : ¬ badL (n : Int)) (h1 : ¬ okLot s n (n - 1)) : lotL s (n : Int) = [] := by unfold lotL; rw [if_neg h, if_neg (by simpa using h1)]
theorem lotE_all (h : ¬ badL (n : Int)) (h1 : okLot s n (n - 1)) : lotE s (n : Int) = 0 := by unfold lotE; rw [if_neg h, if_pos (by simpa using h1)]
theorem lotL_all (h : ¬ badL (n : Int)) (h1 : okLot s n (n - 1)) : lotL s (n : Int) = lotAt s n (n - 1) := by unfold lotL; rw [if_neg h, if_pos (by simpa using h1)]; simp
theorem lotL_le (s : List UInt8) (z : Int) : (lotL s z).length ≤ 1000000 := by
  unfold lotL
  split
  · simp
  · rename_i h
    split
    · rw [lotAt_length]; unfold badL at h; omega
    · simp
end
theorem notAll {s : List UInt8} {t j : Nat} (hj : 1 ≤ j) (h : ¬ (drawn s (UInt32.ofNat j) (UInt64.ofNat (j + 1))).isSome) : ¬ okLot s (t + 1 + j) (t + 1 + j - 1) := fun h1 =>
  h (by have := h1 t (by omega); rwa [show t + 1 + j - 1 - t = j by omega] at this)
theorem lim_ok {j : Nat} (h : j ≤ 64) : 1 ≤ (UInt64.ofNat (j + 1)).toNat ∧ (UInt64.ofNat (j + 1)).toNat = j + 1 := by
  rw [UInt64.toNat_ofNat']; omega
theorem drawnV_lt {s : List UInt8} {i : UInt32} {m : UInt64} (h : (drawn s i m).isSome) (hm : 1 ≤ m.toNat) : (drawnV s i m).toNat < m.toNat := by
  unfold drawnV
  unfold drawn at h ⊢
  cases hf : ((List.range 16).map (tryD s i)).find? (fun x => decide (small m x)) with
  | none => rw [hf] at h; simp at h
  | some x =>
    simp only [Option.map_some, Option.getD_some, UInt64.toNat_mod]
    exact Nat.mod_lt _ (by omega)
theorem ints_at {l : List Int} {k : Nat} {x : Int} (h : l[k]? = some x) : (l.map i64).toArray[k]? = some (i64 x) := by simp [h]
theorem swapL_of {l : List Int} {i k : Nat} {x y : Int} (hx : l[i]? = some x) (hy : l[k]? = some y) : swapL l i k = (l.set i y).set k x := by
  unfold swapL
  rw [List.getD_eq_getElem?_getD, List.getD_eq_getElem?_getD, hx, hy]
  rfl
theorem lotAt_succ (s : List UInt8) (n t : Nat) (h : t < n) : lotAt s n (t + 1) = swapL (lotAt s n t) (n - 1 - t) (pickK s (n - 1 - t)) := rfl
theorem ints_swap {s : List UInt8} {t j : Nat} {x y : Int} (h1 : swapL (lotAt s (t + 1 + j) t) j (pickK s j) = ((lotAt s (t + 1 + j) t).set j y).set (pickK s j) x) (h2 : lotAt s (t + 1 + j) (t + 1) = swapL (lotAt s (t + 1 + j) t) (t + 1 + j - 1 - t) (pickK s (t + 1 + j - 1 - t))) :
    ((((lotAt s (t + 1 + j) t).map i64).toArray.setIfInBounds j (i64 y)).setIfInBounds (pickK s j) (i64 x)) = ((lotAt s (t + 1 + j) (t + 1)).map i64).toArray := by
  rw [h2, show t + 1 + j - 1 - t = j by omega, h1]
  simp
theorem initL_one (k : Nat) : (initL (k + 1) (k + 1)).map i64 = (initL k k).map i64 ++ [.int .i64 (k : Int)] := by
  unfold initL
  simp [List.range_succ, i64]

theorem Lot_any (s : List UInt8) (hs : s.length = 32) (z : Int) (hz : -9223372036854775808 ≤ z ∧ z ≤ 9223372036854775807) (w : World) (hk : KMem 1 w) (hf : FMem 0 w) :
    Calls Tryd.prog 20 #[.agg (arr8 s), .int .i64 z] w (Ret w (fun v H => ∃ r : Option Row, v = .tuple #[Row.v (lotL s z).length r, .int .i64 (lotE s z)] ∧ H = Row.b 3 r ∧ Row.ok 1 (lotL s z).length ((lotL s z).map i64) r)) := by
  refine enter (vs := [.agg (arr8 s), .int .i64 z]) Tryd.func20 rfl Tryd.ntmps20 rfl ?_
  refine JC.seq ?_
  -- region 0
  refine JC.region ?_
  refine JL.new rfl rfl rfl (.none rfl) (En.boxA rfl) (fun b2 hb2 => ?_)
  refine JL.val rfl rfl rfl (.none rfl) (Ev.assign rfl) ?_
  refine JL.val rfl rfl rfl (.none rfl) (Ev.assign rfl) ?_
  refine JL.nil ?_
  refine JQ.thenN ?_
  refine JC.seq ?_
  refine JC.seq ?_
  -- region 1
  refine JC.region ?_
  refine JL.val rfl rfl rfl (.none rfl) (Ev.move rfl) ?_
  refine JL.val rfl rfl rfl (.none rfl) (Ev.bin rfl rfl lss_int) ?_
  refine JL.val rfl rfl rfl (.none rfl) (Ev.move rfl) ?_
  refine JL.split (d := 14) rfl (fun hg1 => ?_) (fun hg1 => ?_)
  · -- guard 14 true
    have hbad : badL z := .inl (by have := of_decide_eq_true hg1; omega)
    refine JL.skip rfl rfl (.noF rfl rfl rfl) ?_
    refine JL.skip rfl rfl (.noF rfl rfl rfl) ?_
    refine JL.val rfl rfl rfl (.none rfl) (Ev.pickT rfl rfl) ?_
    refine JL.nil ?_
    refine JQ.thenN ?_
    refine JC.condT rfl ?_
    refine JC.seq ?_
    -- region 2
    refine JC.region ?_
    refine JL.val rfl rfl rfl (.none rfl) (Ev.assign rfl) ?_
    refine JL.val rfl rfl rfl (.none rfl) (Ev.assign rfl) ?_
    refine JL.nil ?_
    refine JQ.thenN ?_
    refine JC.ret ?_
    refine JQ.thenR ?_
    refine JQ.end2 (H' := []) (.inl rfl) rfl (.tmp rfl) (.tmp rfl) ?_ ?_
    · first | exact Sub.all | exact Sub.of_cnt (fun a => by simp only [cnt_append, cnt_cons, cnt_nil, List.nil_append, List.append_nil]; omega) | repeat (first | exact Sub.nil | refine Sub.cons (by first | exact .here | exact .there .here | exact .there (.there .here) | exact .there (.there (.there .here)) | exact .there (.there (.there (.there .here)))) ?_ | exact Sub.all)
    · exact ⟨none, by rw [lotL_bad hbad, lotE_bad hbad]; rfl, rfl, by rw [lotL_bad hbad]; exact Row.ok0⟩
  · -- guard 14 false
    obtain ⟨n, rfl⟩ : ∃ n : Nat, z = (n : Int) := ⟨z.toNat, by have := of_decide_eq_false hg1; omega⟩
    refine JL.val rfl rfl rfl (.yes rfl rfl rfl) (Ev.move rfl) ?_
    refine JL.val rfl rfl rfl (.yes rfl rfl rfl) (Ev.bin rfl rfl gtr_int) ?_
    refine JL.val rfl rfl rfl (.none rfl) (Ev.pickF rfl rfl) ?_
    refine JL.nil ?_
    refine JQ.thenN ?_
    refine JC.cond rfl (fun hc1 => ?_) (fun hc1 => ?_)
    · -- t17 True
      replace hc1 := of_decide_eq_true hc1
      have hbad : badL (n : Int) := .inr (by omega)
      refine JC.seq ?_
      -- region 2
      refine JC.region ?_
      refine JL.val rfl rfl rfl (.none rfl) (Ev.assign rfl) ?_
      refine JL.val rfl rfl rfl (.none rfl) (Ev.assign rfl) ?_
      refine JL.nil ?_
      refine JQ.thenN ?_
      refine JC.ret ?_
      refine JQ.thenR ?_
      refine JQ.end2 (H' := []) (.inl rfl) rfl (.tmp rfl) (.tmp rfl) ?_ ?_
      · first | exact Sub.all | exact Sub.of_cnt (fun a => by simp only [cnt_append, cnt_cons, cnt_nil, List.nil_append, List.append_nil]; omega) | repeat (first | exact Sub.nil | refine Sub.cons (by first | exact .here | exact .there .here | exact .there (.there .here) | exact .there (.there (.there .here)) | exact .there (.there (.there (.there .here)))) ?_ | exact Sub.all)
      · exact ⟨none, by rw [lotL_bad hbad, lotE_bad hbad]; rfl, rfl, by rw [lotL_bad hbad]; exact Row.ok0⟩
    · -- t17 False
      replace hc1 := of_decide_eq_false hc1
      have hok : ¬ badL (n : Int) := by unfold badL; omega
      have hn64 : n ≤ 64 := by omega
      refine JC.skip ?_
      refine JQ.thenN ?_
      refine JC.seq ?_
      -- region 3
      refine JC.region ?_
      refine JL.val rfl rfl rfl (.none rfl) (Ev.loadB rfl (by repeat (first | exact List.Mem.head _ | refine List.Mem.tail _ ?_ | refine List.mem_append_right _ ?_ | assumption)) Tryd.underlying25 rfl Tryd.sizeOf25 (by rw [arr8_size, hs])) ?_
      refine JL.val rfl rfl rfl (.none rfl) (Ev.makeFuncP (xs := [.tmp 18]) (ys := []) rfl rfl) ?_
      refine JL.val rfl rfl rfl (.none rfl) (Ev.assign rfl) ?_
      refine JL.nil ?_
      refine JQ.thenN ?_
      refine JC.seq ?_
      -- region 4
      refine JC.region ?_
      refine JL.val rfl rfl rfl (.none rfl) (Ev.move rfl) ?_
      refine JL.new rfl rfl rfl (.none rfl) (En.makeN (n := n) (bytes := 8) (z := .int .i64 0) rfl rfl Tryd.underlying47 (by kernel_rfl) rfl (by omega) (by decide)) (fun b21 hb21 => ?_)
      refine JL.reH (o' := .cells ((initL n 0).map i64).toArray 3 (0, 0)) .here (congrArg (fun c => Obj.cells c 3 (0, 0)) (initL_zero n)) ?_
      refine JL.val rfl rfl rfl (.none rfl) (Ev.assign rfl) ?_
      refine JL.nil ?_
      refine JQ.thenN ?_
      refine JC.seq ?_
      refine JC.seq ?_
      -- region 5
      refine JC.region ?_
      refine JL.val rfl rfl rfl (.none rfl) (Ev.move rfl) ?_
      refine JL.val rfl rfl rfl (.none rfl) (Ev.lenS rfl Tryd.underlying47) ?_
      refine JL.val rfl rfl rfl (.none rfl) (Ev.move rfl) ?_
      refine JL.nil ?_
      refine JQ.thenN ?_
      refine JC.block ?_
      refine JC.loop (X := Nat)
        (fun k => [(1, .int .i64 (n : Int)), (6, .func (.func 30) #[.agg (arr8 s)] #[]), (7, .slice (some ⟨b21, 0, none⟩) n n), (23, .int .i64 (n : Int)), (24, .int .i64 (k : Int)), (2, .pointer (some ⟨b2, 0, none⟩))])
        (fun k => [(b21, Obj.cells ((initL n k).map i64).toArray 3 (0, 0)), (b2, .cells (arr8 s) 25 (0, 0))])
        (fun k => k ≤ n)
        (fun k => n - k) 0 ?_ ?_ ?_ ?_
      · exact Keeps.get (by repeat (first | exact Keeps.nil | refine Keeps.cons rfl ?_))
      · first | exact Sub.all | exact Sub.of_cnt (fun a => by simp only [cnt_append, cnt_cons, cnt_nil, List.nil_append, List.append_nil]; omega) | repeat (first | exact Sub.nil | refine Sub.cons (by first | exact .here | exact .there .here | exact .there (.there .here) | exact .there (.there (.there .here)) | exact .there (.there (.there (.there .here)))) ?_ | exact Sub.all)
      · exact Nat.zero_le _
      rintro k hk0
      refine JC.seq ?_
      -- region 6
      refine JC.region ?_
      refine JL.val rfl rfl rfl (.none rfl) (Ev.bin rfl rfl lss_int) ?_
      refine JL.nil ?_
      refine JQ.thenN ?_
      refine JC.seq ?_
      refine JC.cond rfl (fun hc2 => ?_) (fun hc2 => ?_)
      · -- t25 True
        replace hc2 := of_decide_eq_true hc2
        have hkn : k < n := by omega
        refine JC.skip ?_
        refine JQ.thenN ?_
        refine JC.seq ?_
        refine JC.block ?_
        refine JC.seq ?_
        -- region 7
        refine JC.region ?_
        refine JL.val rfl rfl rfl (.none rfl) (Ev.move rfl) ?_
        refine JL.val rfl rfl rfl (.none rfl) (Ev.assign rfl) ?_
        refine JL.nil ?_
        refine JQ.thenN ?_
        -- region 8
        refine JC.region ?_
        refine JL.val rfl rfl rfl (.none rfl) (Ev.move rfl) ?_
        refine JL.val rfl rfl rfl (.none rfl) (Ev.move rfl) ?_
        refine JL.val rfl rfl rfl (.none rfl) (Ev.move rfl) ?_
        refine JL.val rfl rfl rfl (.none rfl) (Ev.idxS0 rfl rfl Tryd.underlying47 Tryd.sizeOf3 (k := k) rfl (by omega)) ?_
        refine JL.sto rfl rfl (.none rfl) (Es.store1 rfl rfl Tryd.sizeOf3 rfl rfl (by repeat (first | exact .here | apply Upd.there | apply Upd.left)) (by rw [List.size_toArray, List.length_map, initL_length _ (by omega)]; omega)) ?_
        refine JL.reH .here (congrArg (fun c => Obj.cells c 3 (0, 0)) (initL_set hkn)) ?_
        refine JL.nil ?_
        refine JQ.blockN ?_
        refine JQ.thenN ?_
        -- region 9
        refine JC.region ?_
        refine JL.val rfl rfl rfl (.none rfl) (Ev.bin rfl rfl (add_i64 (by omega))) ?_
        refine JL.val rfl rfl rfl (.none rfl) (Ev.move rfl) ?_
        refine JL.nil ?_
        refine JQ.loopN (k + 1) ?_ ?_ ?_ ?_
        · exact Keeps.get (by repeat (first | exact Keeps.nil | refine Keeps.cons rfl ?_))
        · first | exact Sub.all | exact Sub.of_cnt (fun a => by simp only [cnt_append, cnt_cons, cnt_nil, List.nil_append, List.append_nil]; omega) | repeat (first | exact Sub.nil | refine Sub.cons (by first | exact .here | exact .there .here | exact .there (.there .here) | exact .there (.there (.there .here)) | exact .there (.there (.there (.there .here)))) ?_ | exact Sub.all)
        · omega
        · omega
      · -- t25 False
        replace hc2 := of_decide_eq_false hc2
        obtain rfl : n = k := by omega
        refine JC.exit ?_
        refine JQ.thenE ?_
        refine JQ.thenE ?_
        refine JQ.blockE ?_
        refine JQ.thenN ?_
        refine JC.seq ?_
        refine JC.seq ?_
        -- region 10
        refine JC.region ?_
        refine JL.val rfl rfl rfl (.none rfl) (Ev.move rfl) ?_
        refine JL.val rfl rfl rfl (.none rfl) (Ev.bin rfl rfl (sub_i64 (by omega))) ?_
        refine JL.val rfl rfl rfl (.none rfl) (Ev.assign rfl) ?_
        refine JL.nil ?_
        refine JQ.thenN ?_
        refine JC.block ?_
        rw [initL_all n s]
        refine JC.loop (X := Nat)
          (fun t => [(1, .int .i64 (n : Int)), (6, .func (.func 30) #[.agg (arr8 s)] #[]), (7, .slice (some ⟨b21, 0, none⟩) n n), (9, .int .i64 ((n : Int) - 1 - t)), (2, .pointer (some ⟨b2, 0, none⟩))])
          (fun t => [(b21, Obj.cells ((lotAt s n t).map i64).toArray 3 (0, 0)), (b2, .cells (arr8 s) 25 (0, 0))])
          (fun t => t ≤ n - 1 ∧ okLot s n t)
          (fun t => n - 1 - t) 0 ?_ ?_ ?_ ?_
        · exact Keeps.get (Keeps.cons rfl (Keeps.cons rfl (Keeps.cons rfl (Keeps.cons (congrArg (fun x => some (Value.int .i64 x)) (by omega)) (Keeps.cons rfl Keeps.nil)))))
        · first | exact Sub.all | exact Sub.of_cnt (fun a => by simp only [cnt_append, cnt_cons, cnt_nil, List.nil_append, List.append_nil]; omega) | repeat (first | exact Sub.nil | refine Sub.cons (by first | exact .here | exact .there .here | exact .there (.there .here) | exact .there (.there (.there .here)) | exact .there (.there (.there (.there .here)))) ?_ | exact Sub.all)
        · exact ⟨Nat.zero_le _, fun j hj => by omega⟩
        rintro t ⟨ht, hol⟩
        refine JC.seq ?_
        refine JC.seq ?_
        -- region 11
        refine JC.region ?_
        refine JL.val rfl rfl rfl (.none rfl) (Ev.move rfl) ?_
        refine JL.val rfl rfl rfl (.none rfl) (Ev.bin rfl rfl gtr_int) ?_
        refine JL.nil ?_
        refine JQ.thenN ?_
        refine JC.cond rfl (fun hc3 => ?_) (fun hc3 => ?_)
        · -- t35 True
          replace hc3 := of_decide_eq_true hc3
          obtain ⟨j, rfl⟩ : ∃ j : Nat, n = t + 1 + j := ⟨n - 1 - t, by omega⟩
          have hj1 : 1 ≤ j := by omega
          refine JC.re (d := 9) (v' := .int .i64 (j : Int)) rfl (congrArg (Value.int .i64) (by omega)) ?_
          have hll := lotAt_length s (t + 1 + j) t
          obtain ⟨hb1, hb2⟩ := lim_ok (show j ≤ 64 by omega)
          refine JC.skip ?_
          refine JQ.thenN ?_
          refine JC.seq ?_
          refine JC.block ?_
          refine JC.seq ?_
          -- region 13
          refine JC.region ?_
          refine JL.val rfl rfl rfl (.none rfl) (Ev.move rfl) ?_
          refine JL.val rfl rfl rfl (.none rfl) (Ev.move rfl) ?_
          refine JL.val rfl rfl rfl (.none rfl) (Ev.conv rfl (conv_i64_u32 Tryd.underlying3 Tryd.underlying33 (by omega))) ?_
          refine JL.val rfl rfl rfl (.none rfl) (Ev.move rfl) ?_
          refine JL.val rfl rfl rfl (.none rfl) (Ev.conv rfl (conv_i64_u64 Tryd.underlying3 Tryd.underlying34 (by omega))) ?_
          refine JL.val rfl rfl rfl (.none rfl) (Ev.bin rfl rfl (add_u64 (y := 1))) ?_
          refine JL.re (d := 44) (v' := u64 (UInt64.ofNat (j + 1))) rfl (congrArg u64 (UInt64.ofNat_add j 1).symm) ?_
          refine JL.callCloV rfl (.none rfl) rfl rfl Tryd.call30 (fun w1 hw1 => draw_any s hs (UInt32.ofNat j) (UInt64.ofNat (j + 1)) hb1 (by omega) w1 (hk.old hw1) (hf.old hw1)) ?_
          refine JL.val rfl rfl rfl (.none rfl) (Ev.move rfl) ?_
          refine JL.val rfl rfl rfl (.none rfl) (Ev.ex0 rfl) ?_
          refine JL.val rfl rfl rfl (.none rfl) (Ev.ex1 rfl) ?_
          refine JL.val rfl rfl rfl (.none rfl) (Ev.assign rfl) ?_
          refine JL.val rfl rfl rfl (.none rfl) (Ev.assign rfl) ?_
          refine JL.nil ?_
          refine JQ.thenN ?_
          refine JC.seq ?_
          refine JC.seq ?_
          -- region 14
          refine JC.region ?_
          refine JL.val rfl rfl rfl (.none rfl) (Ev.move rfl) ?_
          refine JL.val rfl rfl rfl (.none rfl) (Ev.bin rfl rfl neq_int) ?_
          refine JL.nil ?_
          refine JQ.thenN ?_
          refine JC.cond rfl (fun hc4 => ?_) (fun hc4 => ?_)
          · -- t49 True
            have hnd : ¬ (drawn s (UInt32.ofNat j) (UInt64.ofNat (j + 1))).isSome := fun h => by rw [drawnE, if_pos h] at hc4; simp at hc4
            have hall := notAll (t := t) hj1 hnd
            refine JC.seq ?_
            -- region 15
            refine JC.region ?_
            refine JL.val rfl rfl rfl (.none rfl) (Ev.move rfl) ?_
            refine JL.val rfl rfl rfl (.none rfl) (Ev.assign rfl) ?_
            refine JL.val rfl rfl rfl (.none rfl) (Ev.assign rfl) ?_
            refine JL.nil ?_
            refine JQ.thenN ?_
            refine JC.ret ?_
            refine JQ.thenR ?_
            refine JQ.blockR ?_
            refine JQ.thenR ?_
            refine JQ.thenR ?_
            refine JQ.blockR ?_
            refine JQ.thenR ?_
            refine JQ.end2 (H' := []) (.inl rfl) rfl (.tmp rfl) (.tmp rfl) ?_ ?_
            · first | exact Sub.all | exact Sub.of_cnt (fun a => by simp only [cnt_append, cnt_cons, cnt_nil, List.nil_append, List.append_nil]; omega) | repeat (first | exact Sub.nil | refine Sub.cons (by first | exact .here | exact .there .here | exact .there (.there .here) | exact .there (.there (.there .here)) | exact .there (.there (.there (.there .here)))) ?_ | exact Sub.all)
            · exact ⟨none, by rw [lotL_none hok hall, lotE_none hok hall, drawnE, if_neg hnd]; rfl, rfl, by rw [lotL_none hok hall]; exact Row.ok0⟩
          · -- t49 False
            have hds : (drawn s (UInt32.ofNat j) (UInt64.ofNat (j + 1))).isSome := Classical.byContradiction fun h => by rw [drawnE, if_neg h] at hc4; simp at hc4
            obtain ⟨x, hx⟩ := get_some (l := lotAt s (t + 1 + j) t) (k := j) (by omega)
            have hkl := drawnV_lt hds hb1
            have hk2 := Nat.lt_of_lt_of_eq hkl hb2
            have hki : (drawnV s (UInt32.ofNat j) (UInt64.ofNat (j + 1))).toNat < t + 1 + j := by omega
            obtain ⟨y, hy⟩ := get_some (l := lotAt s (t + 1 + j) t) (k := (drawnV s (UInt32.ofNat j) (UInt64.ofNat (j + 1))).toNat) (by omega)
            have hsw := swapL_of hx hy
            have hstep := lotAt_succ s (t + 1 + j) t (by omega)
            refine JC.skip ?_
            refine JQ.thenN ?_
            -- region 16
            refine JC.cut (X := Unit) (fun _ => [(1, .int .i64 ((t + 1 + j : Nat) : Int)), (6, .func (.func 30) #[.agg (arr8 s)] #[]), (7, .slice (some ⟨b21, 0, none⟩) (t + 1 + j) (t + 1 + j)), (9, .int .i64 (j : Int)), (2, .pointer (some ⟨b2, 0, none⟩))]) (fun _ => [(b21, Obj.cells (((((lotAt s (t + 1 + j) t).map i64).toArray.setIfInBounds j (i64 y)).setIfInBounds (drawnV s (UInt32.ofNat j) (UInt64.ofNat (j + 1))).toNat (i64 x))) 3 (0, 0)), (b2, .cells (arr8 s) 25 (0, 0))]) ?_ ?_
            · refine JC.regionA (by kernel_rfl) ?_
              refine JA.take 0 rfl rfl rfl rfl (by kernel_rfl) (by kernel_rfl) (by kernel_rfl) (fun _ _ _ h => absurd h.1 (by simp)) (fun _ _ => rfl) (.none rfl) (fun _ => (Ev.move rfl)) ?_
              refine JA.take 1 rfl rfl rfl rfl (by kernel_rfl) (by kernel_rfl) (by kernel_rfl) (fun _ _ _ h => absurd h.1 (by simp)) (fun _ _ => rfl) (.none rfl) (fun _ => (Ev.move rfl)) ?_
              refine JA.take 2 rfl rfl rfl rfl (by kernel_rfl) (by kernel_rfl) (by kernel_rfl) (fun _ _ _ h => absurd h.1 (by simp)) (fun _ _ => rfl) (.none rfl) (fun _ => (Ev.move rfl)) ?_
              refine JA.take 3 rfl rfl rfl rfl (by kernel_rfl) (by kernel_rfl) (by kernel_rfl) (fun _ _ _ h => absurd h.1 (by simp)) (fun _ _ => rfl) (.none rfl) (fun _ => (Ev.move rfl)) ?_
              refine JA.take 4 rfl rfl rfl rfl (by kernel_rfl) (by kernel_rfl) (by kernel_rfl) (fun _ _ _ h => absurd h.1 (by simp)) (fun _ _ => rfl) (.none rfl) (fun _ => (Ev.move rfl)) ?_
              refine JA.take 5 rfl rfl rfl rfl (by kernel_rfl) (by kernel_rfl) (by kernel_rfl) (fun _ _ _ h => absurd h.1 (by simp)) (fun _ _ => rfl) (.none rfl) (fun _ => (Ev.move rfl)) ?_
              refine JA.take 6 rfl rfl rfl rfl (by kernel_rfl) (by kernel_rfl) (by kernel_rfl) (fun _ _ _ h => absurd h.1 (by simp)) (fun _ _ => rfl) (.none rfl) (fun _ => (Ev.idxS0 rfl rfl Tryd.underlying47 Tryd.sizeOf3 (k := (drawnV s (UInt32.ofNat j) (UInt64.ofNat (j + 1))).toNat) rfl (by omega))) ?_
              refine JA.take 8 rfl rfl rfl rfl (by kernel_rfl) (by kernel_rfl) (by kernel_rfl) (fun _ _ _ h => absurd h.1 (by simp)) (fun _ _ => rfl) (.none rfl) (fun _ => (Ev.move rfl)) ?_
              refine JA.take 9 rfl rfl rfl rfl (by kernel_rfl) (by kernel_rfl) (by kernel_rfl) (fun _ _ _ h => absurd h.1 (by simp)) (fun _ _ => rfl) (.none rfl) (fun _ => (Ev.move rfl)) ?_
              refine JA.take 10 rfl rfl rfl rfl (by kernel_rfl) (by kernel_rfl) (by kernel_rfl) (fun _ _ _ h => absurd h.1 (by simp)) (fun _ _ => rfl) (.none rfl) (fun _ => (Ev.idxS0 rfl rfl Tryd.underlying47 Tryd.sizeOf3 (k := j) rfl (by omega))) ?_
              refine JA.branch [7, 11] (by kernel_rfl) rfl ?_
              refine JAll.cons rfl ?_ ?_
              · -- 7
                refine JO.val rfl rfl rfl (.none rfl) (Ev.load1 rfl Tryd.underlying3 rfl (Rd.own (by repeat (first | exact List.Mem.head _ | refine List.Mem.tail _ ?_ | refine List.mem_append_right _ ?_ | assumption)) (ints_at hy))) ?_
                refine JA.branch [11] (by kernel_rfl) rfl ?_
                refine JAll.cons rfl ?_ JAll.nil
                refine JO.val rfl rfl rfl (.none rfl) (Ev.load1 rfl Tryd.underlying3 rfl (Rd.own (by repeat (first | exact List.Mem.head _ | refine List.Mem.tail _ ?_ | refine List.mem_append_right _ ?_ | assumption)) (ints_at hx))) ?_
                refine JA.take 12 rfl rfl rfl rfl (by kernel_rfl) (by kernel_rfl) (by kernel_rfl) (fun _ _ _ h => absurd h.1 (by simp)) (fun _ _ => rfl) (.none rfl) (fun _ => (Ev.idxS0 rfl rfl Tryd.underlying47 Tryd.sizeOf3 (k := j) rfl (by omega))) ?_
                refine JA.branch [13] (by kernel_rfl) rfl ?_
                refine JAll.cons rfl ?_ JAll.nil
                refine JO.sto rfl rfl (.none rfl) (Es.store1 rfl rfl Tryd.sizeOf3 rfl rfl (by repeat (first | exact .here | apply Upd.there | apply Upd.left)) (by rw [List.size_toArray, List.length_map, hll]; omega)) ?_
                refine JA.take 14 rfl rfl rfl rfl (by kernel_rfl) (by kernel_rfl) (by kernel_rfl) (fun _ _ _ h => absurd h.1 (by simp)) (fun _ _ => rfl) (.none rfl) (fun _ => (Ev.idxS0 rfl rfl Tryd.underlying47 Tryd.sizeOf3 (k := (drawnV s (UInt32.ofNat j) (UInt64.ofNat (j + 1))).toNat) rfl (by omega))) ?_
                refine JA.branch [15] (by kernel_rfl) rfl ?_
                refine JAll.cons rfl ?_ JAll.nil
                refine JO.sto rfl rfl (.none rfl) (Es.store1 rfl rfl Tryd.sizeOf3 rfl rfl (by repeat (first | exact .here | apply Upd.there | apply Upd.left)) (by rw [Array.size_setIfInBounds, List.size_toArray, List.length_map, hll]; omega)) ?_
                refine JA.done (by kernel_rfl) ?_
                refine JQ.cutN () ?_ ?_
                · exact Keeps.get (by repeat (first | exact Keeps.nil | refine Keeps.cons rfl ?_))
                · first | exact Sub.all | exact Sub.of_cnt (fun a => by simp only [cnt_append, cnt_cons, cnt_nil, List.nil_append, List.append_nil]; omega) | repeat (first | exact Sub.nil | refine Sub.cons (by first | exact .here | exact .there .here | exact .there (.there .here) | exact .there (.there (.there .here)) | exact .there (.there (.there (.there .here)))) ?_ | exact Sub.all)
              refine JAll.cons rfl ?_ JAll.nil
              refine JO.val rfl rfl rfl (.none rfl) (Ev.load1 rfl Tryd.underlying3 rfl (Rd.own (by repeat (first | exact List.Mem.head _ | refine List.Mem.tail _ ?_ | refine List.mem_append_right _ ?_ | assumption)) (ints_at hx))) ?_
              refine JA.branch [7] (by kernel_rfl) rfl ?_
              refine JAll.cons rfl ?_ JAll.nil
              refine JO.val rfl rfl rfl (.none rfl) (Ev.load1 rfl Tryd.underlying3 rfl (Rd.own (by repeat (first | exact List.Mem.head _ | refine List.Mem.tail _ ?_ | refine List.mem_append_right _ ?_ | assumption)) (ints_at hy))) ?_
              refine JA.take 12 rfl rfl rfl rfl (by kernel_rfl) (by kernel_rfl) (by kernel_rfl) (fun _ _ _ h => absurd h.1 (by simp)) (fun _ _ => rfl) (.none rfl) (fun _ => (Ev.idxS0 rfl rfl Tryd.underlying47 Tryd.sizeOf3 (k := j) rfl (by omega))) ?_
              refine JA.branch [13] (by kernel_rfl) rfl ?_
              refine JAll.cons rfl ?_ JAll.nil
              refine JO.sto rfl rfl (.none rfl) (Es.store1 rfl rfl Tryd.sizeOf3 rfl rfl (by repeat (first | exact .here | apply Upd.there | apply Upd.left)) (by rw [List.size_toArray, List.length_map, hll]; omega)) ?_
              refine JA.take 14 rfl rfl rfl rfl (by kernel_rfl) (by kernel_rfl) (by kernel_rfl) (fun _ _ _ h => absurd h.1 (by simp)) (fun _ _ => rfl) (.none rfl) (fun _ => (Ev.idxS0 rfl rfl Tryd.underlying47 Tryd.sizeOf3 (k := (drawnV s (UInt32.ofNat j) (UInt64.ofNat (j + 1))).toNat) rfl (by omega))) ?_
              refine JA.branch [15] (by kernel_rfl) rfl ?_
              refine JAll.cons rfl ?_ JAll.nil
              refine JO.sto rfl rfl (.none rfl) (Es.store1 rfl rfl Tryd.sizeOf3 rfl rfl (by repeat (first | exact .here | apply Upd.there | apply Upd.left)) (by rw [Array.size_setIfInBounds, List.size_toArray, List.length_map, hll]; omega)) ?_
              refine JA.done (by kernel_rfl) ?_
              refine JQ.cutN () ?_ ?_
              · exact Keeps.get (by repeat (first | exact Keeps.nil | refine Keeps.cons rfl ?_))
              · first | exact Sub.all | exact Sub.of_cnt (fun a => by simp only [cnt_append, cnt_cons, cnt_nil, List.nil_append, List.append_nil]; omega) | repeat (first | exact Sub.nil | refine Sub.cons (by first | exact .here | exact .there .here | exact .there (.there .here) | exact .there (.there (.there .here)) | exact .there (.there (.there (.there .here)))) ?_ | exact Sub.all)
            rintro _
            refine JQ.reH .here (congrArg (fun c => Obj.cells c 3 (0, 0)) (ints_swap hsw hstep)) ?_
            refine JQ.blockN ?_
            refine JQ.thenN ?_
            -- region 12
            refine JC.region ?_
            refine JL.val rfl rfl rfl (.none rfl) (Ev.move rfl) ?_
            refine JL.val rfl rfl rfl (.none rfl) (Ev.bin rfl rfl (sub_i64 (by omega))) ?_
            refine JL.val rfl rfl rfl (.none rfl) (Ev.assign rfl) ?_
            refine JL.nil ?_
            refine JQ.re (d := 9) (v' := .int .i64 (((t + 1 + j : Nat) : Int) - 1 - (t + 1 : Nat))) rfl (congrArg (Value.int .i64) (by omega)) ?_
            refine JQ.loopN (t + 1) ?_ ?_ ?_ ?_
            · exact Keeps.get (by repeat (first | exact Keeps.nil | refine Keeps.cons rfl ?_))
            · first | exact Sub.all | exact Sub.of_cnt (fun a => by simp only [cnt_append, cnt_cons, cnt_nil, List.nil_append, List.append_nil]; omega) | repeat (first | exact Sub.nil | refine Sub.cons (by first | exact .here | exact .there .here | exact .there (.there .here) | exact .there (.there (.there .here)) | exact .there (.there (.there (.there .here)))) ?_ | exact Sub.all)
            · exact ⟨by omega, okLot_succ hol hds⟩
            · omega
        · -- t35 False
          replace hc3 := of_decide_eq_false hc3
          have ht1 : t = n - 1 := by omega
          refine JC.exit ?_
          refine JQ.thenE ?_
          refine JQ.thenE ?_
          refine JQ.blockE ?_
          refine JQ.thenN ?_
          refine JC.seq ?_
          -- region 17
          refine JC.region ?_
          refine JL.val rfl rfl rfl (.none rfl) (Ev.move rfl) ?_
          refine JL.val rfl rfl rfl (.none rfl) (Ev.assign rfl) ?_
          refine JL.val rfl rfl rfl (.none rfl) (Ev.assign rfl) ?_
          refine JL.nil ?_
          refine JQ.thenN ?_
          refine JC.ret ?_
          refine JQ.end2 (H' := [(b21, Obj.cells ((lotAt s n t).map i64).toArray 3 (0, 0))]) (.inl rfl) rfl (.tmp rfl) (.tmp rfl) ?_ ?_
          · first | exact Sub.all | exact Sub.of_cnt (fun a => by simp only [cnt_append, cnt_cons, cnt_nil, List.nil_append, List.append_nil]; omega) | repeat (first | exact Sub.nil | refine Sub.cons (by first | exact .here | exact .there .here | exact .there (.there .here) | exact .there (.there (.there .here)) | exact .there (.there (.there (.there .here)))) ?_ | exact Sub.all)
          · subst ht1; exact ⟨some ⟨b21, n, ((lotAt s n (n - 1)).map i64).toArray⟩, by rw [lotL_all hok hol, lotE_all hok hol, lotAt_length]; rfl, rfl, by rw [lotL_all hok hol, lotAt_length]; exact ⟨by simp [lotAt_length], Nat.le_refl _, by simp [maxLen]; omega, by simp [lotAt_length], by rw [Nat.mul_one, List.take_of_length_le (by simp [lotAt_length])]⟩⟩

theorem rLot_any (s : List UInt8) (hs : s.length = 32) (z : Int) (hz : -9223372036854775808 ≤ z ∧ z ≤ 9223372036854775807) (w : World) :
    Calls Tryd.prog 21 #[.agg (arr8 s), .int .i64 z] w (Ret w (fun v H => ∃ r : Option Row, v = .tuple #[Row.v (lotL s z).length r, .int .i64 (lotE s z)] ∧ H = Row.b 3 r ∧ Row.ok 1 (lotL s z).length ((lotL s z).map i64) r)) := by
  refine enter (vs := [.agg (arr8 s), .int .i64 z]) Tryd.func21 rfl Tryd.ntmps21 rfl ?_
  refine JC.seq ?_
  -- region 0
  refine JC.region ?_
  refine JL.new rfl rfl rfl (.none rfl) (En.boxA rfl) (fun b2 hb2 => ?_)
  refine JL.val rfl rfl rfl (.none rfl) (Ev.assign rfl) ?_
  refine JL.val rfl rfl rfl (.none rfl) (Ev.assign rfl) ?_
  refine JL.nil ?_
  refine JQ.thenN ?_
  refine JC.seq ?_
  refine JC.seq ?_
  -- region 1
  refine JC.region ?_
  refine JL.val rfl rfl rfl (.none rfl) (Ev.move rfl) ?_
  refine JL.val rfl rfl rfl (.none rfl) (Ev.bin rfl rfl lss_int) ?_
  refine JL.val rfl rfl rfl (.none rfl) (Ev.move rfl) ?_
  refine JL.split (d := 14) rfl (fun hg1 => ?_) (fun hg1 => ?_)
  · -- guard 14 true
    have hbad : badL z := .inl (by have := of_decide_eq_true hg1; omega)
    refine JL.skip rfl rfl (.noF rfl rfl rfl) ?_
    refine JL.skip rfl rfl (.noF rfl rfl rfl) ?_
    refine JL.val rfl rfl rfl (.none rfl) (Ev.pickT rfl rfl) ?_
    refine JL.nil ?_
    refine JQ.thenN ?_
    refine JC.condT rfl ?_
    refine JC.seq ?_
    -- region 2
    refine JC.region ?_
    refine JL.val rfl rfl rfl (.none rfl) (Ev.assign rfl) ?_
    refine JL.val rfl rfl rfl (.none rfl) (Ev.assign rfl) ?_
    refine JL.nil ?_
    refine JQ.thenN ?_
    refine JC.ret ?_
    refine JQ.thenR ?_
    refine JQ.end2 (H' := []) (.inl rfl) rfl (.tmp rfl) (.tmp rfl) ?_ ?_
    · first | exact Sub.all | exact Sub.of_cnt (fun a => by simp only [cnt_append, cnt_cons, cnt_nil, List.nil_append, List.append_nil]; omega) | repeat (first | exact Sub.nil | refine Sub.cons (by first | exact .here | exact .there .here | exact .there (.there .here) | exact .there (.there (.there .here)) | exact .there (.there (.there (.there .here)))) ?_ | exact Sub.all)
    · exact ⟨none, by rw [lotL_bad hbad, lotE_bad hbad]; rfl, rfl, by rw [lotL_bad hbad]; exact Row.ok0⟩
  · -- guard 14 false
    obtain ⟨n, rfl⟩ : ∃ n : Nat, z = (n : Int) := ⟨z.toNat, by have := of_decide_eq_false hg1; omega⟩
    refine JL.val rfl rfl rfl (.yes rfl rfl rfl) (Ev.move rfl) ?_
    refine JL.val rfl rfl rfl (.yes rfl rfl rfl) (Ev.bin rfl rfl gtr_int) ?_
    refine JL.val rfl rfl rfl (.none rfl) (Ev.pickF rfl rfl) ?_
    refine JL.nil ?_
    refine JQ.thenN ?_
    refine JC.cond rfl (fun hc1 => ?_) (fun hc1 => ?_)
    · -- t17 True
      replace hc1 := of_decide_eq_true hc1
      have hbad : badL (n : Int) := .inr (by omega)
      refine JC.seq ?_
      -- region 2
      refine JC.region ?_
      refine JL.val rfl rfl rfl (.none rfl) (Ev.assign rfl) ?_
      refine JL.val rfl rfl rfl (.none rfl) (Ev.assign rfl) ?_
      refine JL.nil ?_
      refine JQ.thenN ?_
      refine JC.ret ?_
      refine JQ.thenR ?_
      refine JQ.end2 (H' := []) (.inl rfl) rfl (.tmp rfl) (.tmp rfl) ?_ ?_
      · first | exact Sub.all | exact Sub.of_cnt (fun a => by simp only [cnt_append, cnt_cons, cnt_nil, List.nil_append, List.append_nil]; omega) | repeat (first | exact Sub.nil | refine Sub.cons (by first | exact .here | exact .there .here | exact .there (.there .here) | exact .there (.there (.there .here)) | exact .there (.there (.there (.there .here)))) ?_ | exact Sub.all)
      · exact ⟨none, by rw [lotL_bad hbad, lotE_bad hbad]; rfl, rfl, by rw [lotL_bad hbad]; exact Row.ok0⟩
    · -- t17 False
      replace hc1 := of_decide_eq_false hc1
      have hok : ¬ badL (n : Int) := by unfold badL; omega
      have hn64 : n ≤ 64 := by omega
      refine JC.skip ?_
      refine JQ.thenN ?_
      refine JC.seq ?_
      -- region 3
      refine JC.region ?_
      refine JL.val rfl rfl rfl (.none rfl) (Ev.assign rfl) ?_
      refine JL.nil ?_
      refine JQ.thenN ?_
      refine JC.seq ?_
      refine JC.seq ?_
      -- region 4
      refine JC.region ?_
      refine JL.val rfl rfl rfl (.none rfl) (Ev.assign rfl) ?_
      refine JL.nil ?_
      refine JQ.thenN ?_
      refine JC.block ?_
      refine JC.loop (X := Nat × Option Row)
        (fun ⟨k, q⟩ => [(1, .int .i64 (n : Int)), (6, Row.v k q), (7, .int .i64 (k : Int)), (2, .pointer (some ⟨b2, 0, none⟩))])
        (fun ⟨k, q⟩ => Row.b 3 q ++ [(b2, .cells (arr8 s) 25 (0, 0))])
        (fun ⟨k, q⟩ => k ≤ n ∧ Row.ok 1 k ((initL k k).map i64) q)
        (fun ⟨k, q⟩ => n - k) (0, none) ?_ ?_ ?_ ?_
      · exact Keeps.get (by repeat (first | exact Keeps.nil | refine Keeps.cons rfl ?_))
      · first | exact Sub.all | exact Sub.of_cnt (fun a => by simp only [cnt_append, cnt_cons, cnt_nil, List.nil_append, List.append_nil]; omega) | repeat (first | exact Sub.nil | refine Sub.cons (by first | exact .here | exact .there .here | exact .there (.there .here) | exact .there (.there (.there .here)) | exact .there (.there (.there (.there .here)))) ?_ | exact Sub.all)
      · exact ⟨Nat.zero_le _, ⟨rfl, rfl⟩⟩
      rintro ⟨k, q⟩ ⟨hk0, hq⟩
      refine JC.seq ?_
      refine JC.seq ?_
      -- region 5
      refine JC.region ?_
      refine JL.val rfl rfl rfl (.none rfl) (Ev.move rfl) ?_
      refine JL.val rfl rfl rfl (.none rfl) (Ev.move rfl) ?_
      refine JL.val rfl rfl rfl (.none rfl) (Ev.bin rfl rfl lss_int) ?_
      refine JL.nil ?_
      refine JQ.thenN ?_
      refine JC.cond rfl (fun hc2 => ?_) (fun hc2 => ?_)
      · -- t20 True
        replace hc2 := of_decide_eq_true hc2
        have hkn : k < n := by omega
        refine JC.skip ?_
        refine JQ.thenN ?_
        refine JC.seq ?_
        refine JC.block ?_
        -- region 7
        refine JC.region ?_
        refine JL.val rfl rfl rfl (.none rfl) (Ev.move rfl) ?_
        refine JL.val rfl rfl rfl (.none rfl) (Ev.move rfl) ?_
        refine JL.new rfl rfl rfl (.none rfl) (En.bsN (e := 3) rfl (fun _ => by kernel_rfl)) (fun b25 hb25 => ?_)
        refine JL.gen rfl rfl rfl (.none rfl) (Eg.append1 (z := (.int .i64 0)) (s := 1) (bytes := 8) rfl rfl rfl (by repeat (first | exact .last | exact .here | apply Cut.past | apply Cut.there)) Tryd.underlying47 (by kernel_rfl) rfl (by decide) (by decide) (by assumption) (Rds.all (by repeat (first | exact List.Mem.head _ | refine List.Mem.tail _ ?_ | refine List.mem_append_right _ ?_ | assumption))) rfl (by decide) (by intro u hu; first | exact u8s_one _ u hu | (simp at hu; subst hu; rfl)) (by omega)) ?_
        rintro _ _ ⟨r26, rfl, rfl, hr26⟩
        refine JL.val rfl rfl rfl (.none rfl) (Ev.assign rfl) ?_
        refine JL.nil ?_
        refine JQ.blockN ?_
        refine JQ.thenN ?_
        -- region 6
        refine JC.region ?_
        refine JL.val rfl rfl rfl (.none rfl) (Ev.move rfl) ?_
        refine JL.val rfl rfl rfl (.none rfl) (Ev.bin rfl rfl (add_i64 (by omega))) ?_
        refine JL.val rfl rfl rfl (.none rfl) (Ev.assign rfl) ?_
        refine JL.nil ?_
        refine JQ.loopN (k + 1, some r26) ?_ ?_ ?_ ?_
        · exact Keeps.get (by repeat (first | exact Keeps.nil | refine Keeps.cons rfl ?_))
        · first | exact Sub.all | exact Sub.of_cnt (fun a => by simp only [cnt_append, cnt_cons, cnt_nil, List.nil_append, List.append_nil]; omega) | repeat (first | exact Sub.nil | refine Sub.cons (by first | exact .here | exact .there .here | exact .there (.there .here) | exact .there (.there (.there .here)) | exact .there (.there (.there (.there .here)))) ?_ | exact Sub.all)
        · exact ⟨by omega, by rw [initL_one]; exact hr26⟩
        · show n - (k + 1) < n - k; omega
      · -- t20 False
        replace hc2 := of_decide_eq_false hc2
        obtain rfl : n = k := by omega
        refine JC.exit ?_
        refine JQ.thenE ?_
        refine JQ.thenE ?_
        refine JQ.blockE ?_
        refine JQ.thenN ?_
        refine JC.seq ?_
        refine JC.seq ?_
        -- region 8
        refine JC.region ?_
        refine JL.val rfl rfl rfl (.none rfl) (Ev.move rfl) ?_
        refine JL.val rfl rfl rfl (.none rfl) (Ev.bin rfl rfl (sub_i64 (by omega))) ?_
        refine JL.val rfl rfl rfl (.none rfl) (Ev.assign rfl) ?_
        refine JL.nil ?_
        refine JQ.thenN ?_
        refine JC.block ?_
        rw [initL_all n s] at hq
        refine JC.loop (X := Nat × Option Row)
          (fun ⟨t, q⟩ => [(1, .int .i64 (n : Int)), (6, Row.v n q), (8, .int .i64 ((n : Int) - 1 - t)), (2, .pointer (some ⟨b2, 0, none⟩))])
          (fun ⟨t, q⟩ => Row.b 3 q ++ [(b2, .cells (arr8 s) 25 (0, 0))])
          (fun ⟨t, q⟩ => t ≤ n - 1 ∧ okLot s n t ∧ Row.ok 1 n ((lotAt s n t).map i64) q)
          (fun ⟨t, q⟩ => n - 1 - t) (0, q) ?_ ?_ ?_ ?_
        · exact Keeps.get (Keeps.cons rfl (Keeps.cons rfl (Keeps.cons (congrArg (fun x => some (Value.int .i64 x)) (by omega)) (Keeps.cons rfl Keeps.nil))))
        · first | exact Sub.all | exact Sub.of_cnt (fun a => by simp only [cnt_append, cnt_cons, cnt_nil, List.nil_append, List.append_nil]; omega) | repeat (first | exact Sub.nil | refine Sub.cons (by first | exact .here | exact .there .here | exact .there (.there .here) | exact .there (.there (.there .here)) | exact .there (.there (.there (.there .here)))) ?_ | exact Sub.all)
        · exact ⟨Nat.zero_le _, fun j hj => by omega, hq⟩
        rintro ⟨t, q⟩ ⟨ht, hol, hq⟩
        refine JC.seq ?_
        refine JC.seq ?_
        -- region 9
        refine JC.region ?_
        refine JL.val rfl rfl rfl (.none rfl) (Ev.move rfl) ?_
        refine JL.val rfl rfl rfl (.none rfl) (Ev.bin rfl rfl geq_int) ?_
        refine JL.nil ?_
        refine JQ.thenN ?_
        refine JC.cond rfl (fun hc3 => ?_) (fun hc3 => ?_)
        · -- t30 True
          replace hc3 := of_decide_eq_true hc3
          obtain ⟨j, rfl⟩ : ∃ j : Nat, n = t + 1 + j := ⟨n - 1 - t, by omega⟩
          have hj1 : 1 ≤ j := by omega
          refine JC.re (d := 8) (v' := .int .i64 (j : Int)) rfl (congrArg (Value.int .i64) (by omega)) ?_
          have hll := lotAt_length s (t + 1 + j) t
          obtain ⟨hb1, hb2⟩ := lim_ok (show j ≤ 64 by omega)
          obtain ⟨r, rfl⟩ : ∃ r, q = some r := by cases q with | none => (have := hq.1; omega) | some r => exact ⟨r, rfl⟩
          refine JC.skip ?_
          refine JQ.thenN ?_
          refine JC.seq ?_
          refine JC.block ?_
          refine JC.seq ?_
          -- region 11
          refine JC.region ?_
          refine JL.val rfl rfl rfl (.none rfl) (Ev.loadB rfl (by repeat (first | exact List.Mem.head _ | refine List.Mem.tail _ ?_ | refine List.mem_append_right _ ?_ | assumption)) Tryd.underlying25 rfl Tryd.sizeOf25 (by rw [arr8_size, hs])) ?_
          refine JL.val rfl rfl rfl (.none rfl) (Ev.move rfl) ?_
          refine JL.val rfl rfl rfl (.none rfl) (Ev.conv rfl (conv_i64_u32 Tryd.underlying3 Tryd.underlying33 (by omega))) ?_
          refine JL.val rfl rfl rfl (.none rfl) (Ev.move rfl) ?_
          refine JL.val rfl rfl rfl (.none rfl) (Ev.bin rfl rfl (add_i64 (by omega))) ?_
          refine JL.re (d := 38) (v' := .int .i64 ((j + 1 : Nat) : Int)) rfl (congrArg (Value.int .i64) (by omega)) ?_
          refine JL.val rfl rfl rfl (.none rfl) (Ev.conv rfl (conv_i64_u64 Tryd.underlying3 Tryd.underlying34 (by omega))) ?_
          refine JL.callV rfl (.none rfl) rfl Tryd.call31 (fun w1 hw1 => rDrawn_any s hs (UInt32.ofNat j) (UInt64.ofNat (j + 1)) hb1 (by omega) w1) ?_
          refine JL.val rfl rfl rfl (.none rfl) (Ev.move rfl) ?_
          refine JL.val rfl rfl rfl (.none rfl) (Ev.ex0 rfl) ?_
          refine JL.val rfl rfl rfl (.none rfl) (Ev.ex1 rfl) ?_
          refine JL.val rfl rfl rfl (.none rfl) (Ev.assign rfl) ?_
          refine JL.val rfl rfl rfl (.none rfl) (Ev.assign rfl) ?_
          refine JL.nil ?_
          refine JQ.thenN ?_
          refine JC.seq ?_
          refine JC.seq ?_
          -- region 12
          refine JC.region ?_
          refine JL.val rfl rfl rfl (.none rfl) (Ev.move rfl) ?_
          refine JL.val rfl rfl rfl (.none rfl) (Ev.not rfl) ?_
          refine JL.nil ?_
          refine JQ.thenN ?_
          refine JC.cond rfl (fun hc4 => ?_) (fun hc4 => ?_)
          · -- t44 True
            have hnd : ¬ (drawn s (UInt32.ofNat j) (UInt64.ofNat (j + 1))).isSome := by simpa using hc4
            have hall := notAll (t := t) hj1 hnd
            refine JC.seq ?_
            -- region 13
            refine JC.region ?_
            refine JL.val rfl rfl rfl (.none rfl) (Ev.assign rfl) ?_
            refine JL.val rfl rfl rfl (.none rfl) (Ev.assign rfl) ?_
            refine JL.nil ?_
            refine JQ.thenN ?_
            refine JC.ret ?_
            refine JQ.thenR ?_
            refine JQ.blockR ?_
            refine JQ.thenR ?_
            refine JQ.thenR ?_
            refine JQ.blockR ?_
            refine JQ.thenR ?_
            refine JQ.end2 (H' := []) (.inl rfl) rfl (.tmp rfl) (.tmp rfl) ?_ ?_
            · first | exact Sub.all | exact Sub.of_cnt (fun a => by simp only [cnt_append, cnt_cons, cnt_nil, List.nil_append, List.append_nil]; omega) | repeat (first | exact Sub.nil | refine Sub.cons (by first | exact .here | exact .there .here | exact .there (.there .here) | exact .there (.there (.there .here)) | exact .there (.there (.there (.there .here)))) ?_ | exact Sub.all)
            · exact ⟨none, by rw [lotL_none hok hall, lotE_none hok hall]; rfl, rfl, by rw [lotL_none hok hall]; exact Row.ok0⟩
          · -- t44 False
            have hds : (drawn s (UInt32.ofNat j) (UInt64.ofNat (j + 1))).isSome := by simpa using hc4
            obtain ⟨x, hx⟩ := get_some (l := lotAt s (t + 1 + j) t) (k := j) (by omega)
            have hkl := drawnV_lt hds hb1
            have hk2 := Nat.lt_of_lt_of_eq hkl hb2
            have hki : (drawnV s (UInt32.ofNat j) (UInt64.ofNat (j + 1))).toNat < t + 1 + j := by omega
            obtain ⟨y, hy⟩ := get_some (l := lotAt s (t + 1 + j) t) (k := (drawnV s (UInt32.ofNat j) (UInt64.ofNat (j + 1))).toNat) (by omega)
            have hsw := swapL_of hx hy
            have hstep := lotAt_succ s (t + 1 + j) t (by omega)
            have hcs : r.cs.size = r.cap * 1 := hq.2.2.2.1
            have hcp : t + 1 + j ≤ r.cap := hq.2.1
            refine JC.skip ?_
            refine JQ.thenN ?_
            refine JC.seq ?_
            -- region 14
            refine JC.region ?_
            refine JL.val rfl rfl rfl (.none rfl) (Ev.move rfl) ?_
            refine JL.val rfl rfl rfl (.none rfl) (Ev.move rfl) ?_
            refine JL.val rfl rfl rfl (.none rfl) (Ev.idxS0 rfl rfl Tryd.underlying47 Tryd.sizeOf3 (k := j) rfl (by omega)) ?_
            refine JL.val rfl rfl rfl (.none rfl) (Ev.load1 rfl Tryd.underlying3 rfl (Row.rd hq (by repeat (first | exact List.Mem.head _ | refine List.Mem.tail _ ?_ | refine List.mem_append_right _ ?_ | assumption)) hx)) ?_
            refine JL.val rfl rfl rfl (.none rfl) (Ev.assign rfl) ?_
            refine JL.nil ?_
            refine JQ.thenN ?_
            refine JC.seq ?_
            -- region 15
            refine JC.region ?_
            refine JL.val rfl rfl rfl (.none rfl) (Ev.move rfl) ?_
            refine JL.val rfl rfl rfl (.none rfl) (Ev.move rfl) ?_
            refine JL.val rfl rfl rfl (.none rfl) (Ev.move rfl) ?_
            refine JL.val rfl rfl rfl (.none rfl) (Ev.move rfl) ?_
            refine JL.val rfl rfl rfl (.none rfl) (Ev.idxS0 rfl rfl Tryd.underlying47 Tryd.sizeOf3 (k := (drawnV s (UInt32.ofNat j) (UInt64.ofNat (j + 1))).toNat) rfl (by omega)) ?_
            refine JL.val rfl rfl rfl (.none rfl) (Ev.load1 rfl Tryd.underlying3 rfl (Row.rd hq (by repeat (first | exact List.Mem.head _ | refine List.Mem.tail _ ?_ | refine List.mem_append_right _ ?_ | assumption)) hy)) ?_
            refine JL.val rfl rfl rfl (.none rfl) (Ev.idxS0 rfl rfl Tryd.underlying47 Tryd.sizeOf3 (k := j) rfl (by omega)) ?_
            refine JL.sto rfl rfl (.none rfl) (Es.store1 rfl rfl Tryd.sizeOf3 rfl rfl (by repeat (first | exact .here | apply Upd.there | apply Upd.left)) (by omega)) ?_
            refine JL.nil ?_
            refine JQ.thenN ?_
            -- region 16
            refine JC.region ?_
            refine JL.val rfl rfl rfl (.none rfl) (Ev.move rfl) ?_
            refine JL.val rfl rfl rfl (.none rfl) (Ev.move rfl) ?_
            refine JL.val rfl rfl rfl (.none rfl) (Ev.move rfl) ?_
            refine JL.val rfl rfl rfl (.none rfl) (Ev.idxS0 rfl rfl Tryd.underlying47 Tryd.sizeOf3 (k := (drawnV s (UInt32.ofNat j) (UInt64.ofNat (j + 1))).toNat) rfl (by omega)) ?_
            refine JL.sto rfl rfl (.none rfl) (Es.store1 rfl rfl Tryd.sizeOf3 rfl rfl (by repeat (first | exact .here | apply Upd.there | apply Upd.left)) (by rw [Array.size_setIfInBounds]; omega)) ?_
            refine JL.nil ?_
            refine JQ.blockN ?_
            refine JQ.thenN ?_
            -- region 10
            refine JC.region ?_
            refine JL.val rfl rfl rfl (.none rfl) (Ev.move rfl) ?_
            refine JL.val rfl rfl rfl (.none rfl) (Ev.bin rfl rfl (sub_i64 (by omega))) ?_
            refine JL.val rfl rfl rfl (.none rfl) (Ev.assign rfl) ?_
            refine JL.nil ?_
            refine JQ.re (d := 8) (v' := .int .i64 (((t + 1 + j : Nat) : Int) - 1 - (t + 1 : Nat))) rfl (congrArg (Value.int .i64) (by omega)) ?_
            refine JQ.loopN (t + 1, some { r with cs := (r.cs.setIfInBounds j (i64 y)).setIfInBounds (drawnV s (UInt32.ofNat j) (UInt64.ofNat (j + 1))).toNat (i64 x) }) ?_ ?_ ?_ ?_
            · exact Keeps.get (by repeat (first | exact Keeps.nil | refine Keeps.cons rfl ?_))
            · first | exact Sub.all | exact Sub.of_cnt (fun a => by simp only [cnt_append, cnt_cons, cnt_nil, List.nil_append, List.append_nil]; omega) | repeat (first | exact Sub.nil | refine Sub.cons (by first | exact .here | exact .there .here | exact .there (.there .here) | exact .there (.there (.there .here)) | exact .there (.there (.there (.there .here)))) ?_ | exact Sub.all)
            · exact ⟨by omega, okLot_succ hol hds, by rw [hstep, show t + 1 + j - 1 - t = j by omega]; unfold pickK; rw [hsw]; exact Row.setAt x (Row.setAt y hq (by omega)) hki⟩
            · show t + 1 + j - 1 - (t + 1) < t + 1 + j - 1 - t; omega
        · -- t30 False
          replace hc3 := of_decide_eq_false hc3
          have ht1 : t = n - 1 := by omega
          refine JC.exit ?_
          refine JQ.thenE ?_
          refine JQ.thenE ?_
          refine JQ.blockE ?_
          refine JQ.thenN ?_
          refine JC.seq ?_
          -- region 17
          refine JC.region ?_
          refine JL.val rfl rfl rfl (.none rfl) (Ev.move rfl) ?_
          refine JL.val rfl rfl rfl (.none rfl) (Ev.assign rfl) ?_
          refine JL.val rfl rfl rfl (.none rfl) (Ev.assign rfl) ?_
          refine JL.nil ?_
          refine JQ.thenN ?_
          refine JC.ret ?_
          refine JQ.end2 (H' := Row.b 3 q) (.inl rfl) rfl (.tmp rfl) (.tmp rfl) ?_ ?_
          · first | exact Sub.all | exact Sub.of_cnt (fun a => by simp only [cnt_append, cnt_cons, cnt_nil, List.nil_append, List.append_nil]; omega) | repeat (first | exact Sub.nil | refine Sub.cons (by first | exact .here | exact .there .here | exact .there (.there .here) | exact .there (.there (.there .here)) | exact .there (.there (.there (.there .here)))) ?_ | exact Sub.all)
          · subst ht1; exact ⟨q, by rw [lotL_all hok hol, lotE_all hok hol, lotAt_length], rfl, by rw [lotL_all hok hol, lotAt_length]; exact hq⟩

theorem lawLots_any (s : List UInt8) (hs : s.length = 32) (z : Int) (hz : -9223372036854775808 ≤ z ∧ z ≤ 9223372036854775807) (w : World) (hk : KMem 1 w) (hf : FMem 0 w) :
    Calls Tryd.prog 6 #[.agg (arr8 s), .int .i64 z] w (Ret w (fun v _ => v = .bool true)) := by
  refine enter (vs := [.agg (arr8 s), .int .i64 z]) Tryd.func6 rfl Tryd.ntmps6 rfl ?_
  refine JC.seq ?_
  -- region 0
  refine JC.region ?_
  refine JL.new rfl rfl rfl (.none rfl) (En.boxA rfl) (fun b2 hb2 => ?_)
  refine JL.val rfl rfl rfl (.none rfl) (Ev.assign rfl) ?_
  refine JL.nil ?_
  refine JQ.thenN ?_
  refine JC.seq ?_
  -- region 1
  refine JC.region ?_
  refine JL.val rfl rfl rfl (.none rfl) (Ev.loadB rfl (by repeat (first | exact List.Mem.head _ | refine List.Mem.tail _ ?_ | refine List.mem_append_right _ ?_ | assumption)) Tryd.underlying25 rfl Tryd.sizeOf25 (by rw [arr8_size, hs])) ?_
  refine JL.val rfl rfl rfl (.none rfl) (Ev.move rfl) ?_
  refine JL.callN rfl (.none rfl) rfl Tryd.call20 (fun w1 hw1 => Lot_any s hs z hz w1 (hk.old hw1) (hf.old hw1)) ?_
  rintro _ _ ⟨r1, rfl, rfl, hr1⟩
  refine JL.val rfl rfl rfl (.none rfl) (Ev.move rfl) ?_
  refine JL.val rfl rfl rfl (.none rfl) (Ev.ex0 rfl) ?_
  refine JL.val rfl rfl rfl (.none rfl) (Ev.ex1 rfl) ?_
  refine JL.val rfl rfl rfl (.none rfl) (Ev.assign rfl) ?_
  refine JL.val rfl rfl rfl (.none rfl) (Ev.assign rfl) ?_
  refine JL.nil ?_
  refine JQ.thenN ?_
  refine JC.seq ?_
  -- region 2
  refine JC.region ?_
  refine JL.val rfl rfl rfl (.none rfl) (Ev.loadB rfl (by repeat (first | exact List.Mem.head _ | refine List.Mem.tail _ ?_ | refine List.mem_append_right _ ?_ | assumption)) Tryd.underlying25 rfl Tryd.sizeOf25 (by rw [arr8_size, hs])) ?_
  refine JL.val rfl rfl rfl (.none rfl) (Ev.move rfl) ?_
  refine JL.callN rfl (.none rfl) rfl Tryd.call21 (fun w1 hw1 => rLot_any s hs z hz w1) ?_
  rintro _ _ ⟨r2, rfl, rfl, hr2⟩
  refine JL.val rfl rfl rfl (.none rfl) (Ev.move rfl) ?_
  refine JL.val rfl rfl rfl (.none rfl) (Ev.ex0 rfl) ?_
  refine JL.val rfl rfl rfl (.none rfl) (Ev.ex1 rfl) ?_
  refine JL.val rfl rfl rfl (.none rfl) (Ev.assign rfl) ?_
  refine JL.val rfl rfl rfl (.none rfl) (Ev.assign rfl) ?_
  refine JL.nil ?_
  refine JQ.thenN ?_
  refine JC.seq ?_
  -- region 3
  refine JC.region ?_
  obtain ⟨o1, c1, e1, _, hC1⟩ := Row.vw (e := 3) hr1
  refine JL.re (d := 5) rfl e1 ?_
  obtain ⟨o2, c2, e2, _, hC2⟩ := Row.vw (e := 3) hr2
  refine JL.re (d := 7) rfl e2 ?_
  refine JL.val rfl rfl rfl (.none rfl) (Ev.move rfl) ?_
  refine JL.val rfl rfl rfl (.none rfl) (Ev.move rfl) ?_
  refine JL.callV rfl (.none rfl) rfl Tryd.call22 (fun w1 hw1 => sameInts_any o1 o2 c1 c2 (lotL s z) (lotL s z) w1 (hC1 w1 hw1 (fun p hp => by simp [hp])) (hC2 w1 hw1 (fun p hp => by simp [hp])) (lotL_le _ _)) ?_
  refine JL.val rfl rfl rfl (.none rfl) (Ev.move rfl) ?_
  refine JL.know (d := 24) (b := true) rfl ?_ ?_
  · exact decide_eq_true rfl
  refine JL.val rfl rfl rfl (.yes rfl rfl rfl) (Ev.move rfl) ?_
  refine JL.val rfl rfl rfl (.yes rfl rfl rfl) (Ev.move rfl) ?_
  refine JL.val rfl rfl rfl (.yes rfl rfl rfl) (Ev.bin rfl rfl eql_int) ?_
  refine JL.val rfl rfl rfl (.none rfl) (Ev.pickT rfl rfl) ?_
  refine JL.val rfl rfl rfl (.none rfl) (Ev.assign rfl) ?_
  refine JL.nil ?_
  refine JQ.thenN ?_
  refine JC.ret ?_
  refine JQ.end1 (H' := []) (.inl rfl) rfl (.tmp rfl) ?_ ?_
  · first | exact Sub.all | exact Sub.of_cnt (fun a => by simp only [cnt_append, cnt_cons, cnt_nil, List.nil_append, List.append_nil]; omega) | repeat (first | exact Sub.nil | refine Sub.cons (by first | exact .here | exact .there .here | exact .there (.there .here) | exact .there (.there (.there .here)) | exact .there (.there (.there (.there .here)))) ?_ | exact Sub.all)
  · first | rfl | exact congrArg Value.bool (decide_eq_true rfl)

end Go.Proofs.YtegcdgpkoombmaaDoor
