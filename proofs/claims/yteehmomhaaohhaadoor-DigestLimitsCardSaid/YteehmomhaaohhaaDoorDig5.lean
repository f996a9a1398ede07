/-
  Leaves and nodes: a byte ahead of an input, or of two digests; in the program and in the reference.
-/
import Derived.Test.YteehmomhaaohhaaDoorRef3
namespace Go.Proofs.YteehmomhaaohhaaDoor
open Go Go.RowKit
set_option maxRecDepth 100000

theorem bs_of_row {w0 w : World} {H : Blocks} {e : TypeId} {n : Nat} {r : Row} {l : List UInt8} {xs : List Value} (hw : Hp w0 H w) (hm : (r.g, Obj.cells r.cs e (0, 0)) ∈ H) (hr : Row.ok 1 n xs (some r)) (hn : n = l.length) (hx : xs = l.map u8 := by first | rfl | simp) :
    Bs w (some ⟨r.g, 0, none⟩) r.cap l := by
  subst hx
  subst hn
  exact ⟨hr.2.1, hr.2.2.1, fun h => (by cases h), fun a ha => by cases ha; exact mem_of_row hw hm hr⟩
theorem lim_succ (l : List UInt8) : (if 8192 < (0 :: l).length then (4 : Int) else 0) = if 8191 < l.length then 4 else 0 := by
  by_cases h : 8191 < l.length
  · rw [if_pos h, if_pos (by simp; omega)]
  · rw [if_neg h, if_neg (by simp; omega)]

theorem Leaf_any (oa : Option Addr) (cap : Nat) (l : List UInt8) (w : World) (hb : Bs w oa cap l) (hl : l.length ≤ 900000) (hk : KMem 0 w) (hf : FMem 1 w) :
    Calls Tryd.prog 20 #[.slice oa l.length cap] w (Ret w (fun v _ => v = .tuple #[.agg (arr8 (shaO (0 :: l))), .int .i64 (if 8191 < l.length then 4 else 0)])) := by
  refine enter (vs := [.slice oa l.length cap]) Tryd.func20 rfl Tryd.ntmps20 rfl ?_
  refine JC.seq ?_
  -- region 0
  refine JC.region ?_
  refine JL.new rfl rfl rfl (.none rfl) (En.alloc Tryd.zeroValue36) (fun b2 hb2 => ?_)
  refine JL.val rfl rfl rfl (.none rfl) (Ev.assign rfl) ?_
  refine JL.nil ?_
  refine JQ.thenN ?_
  refine JC.seq ?_
  -- region 1
  refine JC.region ?_
  refine JL.new rfl rfl rfl (.none rfl) (En.bsN (e := 5) rfl (fun _ => by kernel_rfl)) (fun b4 hb4 => ?_)
  refine JL.val rfl rfl rfl (.none rfl) (Ev.move rfl) ?_
  refine JL.gen rfl rfl rfl (.none rfl) (Eg.append (r := (some ⟨b4, 1, #[u8 0]⟩)) (n := 1) (m := l.length) (xs := [u8 0]) (news := (l.map u8)) (z := (.int .u8 0)) (s := 1) (bytes := 1) rfl rfl rfl (by first | exact .last | exact .here | exact .there .last | exact .there .here | exact .there (.there .last) | exact .there (.there .here) | exact .there (.there (.there .last)) | exact .there (.there (.there .here))) Tryd.underlying22 (by kernel_rfl) rfl (by decide) (by decide) ⟨rfl, by simp, by simp [maxLen], rfl, rfl⟩ (by simp) (fun a ha => Rds.old (hb.mem a ha)) (fun h => by have := hb.le; have := hb.empty h; omega) (u8s_one l) (by omega)) ?_
  rintro _ _ ⟨r1, rfl, rfl, hr1, hn1⟩
  obtain ⟨r1, rfl⟩ : ∃ r : Row, r1 = some r := by cases r1 with | none => exact absurd (hn1.1 rfl).1 (by simp) | some r => exact ⟨r, rfl⟩
  refine JL.re (d := 6) (v' := .slice (some ⟨r1.g, 0, none⟩) (0 :: l).length r1.cap) rfl (congrArg (fun n => Value.slice (some ⟨r1.g, 0, none⟩) n r1.cap) (by simp; try omega)) ?_
  refine JL.callV rfl (.none rfl) rfl Tryd.call17 (fun w1 hw1 => Sum_any (some ⟨r1.g, 0, none⟩) r1.cap (0 :: l) w1 (bs_of_row hw1 (by first | exact .tail _ (.head _) | exact .tail _ (.tail _ (.head _)) | exact .tail _ (.tail _ (.tail _ (.head _))) | exact .tail _ (.tail _ (.tail _ (.tail _ (.head _))))  | exact .head _) hr1 (by simp; omega)) (by simp; omega) (hk.old hw1) (hf.old hw1)) ?_
  refine JL.val rfl rfl rfl (.none rfl) (Ev.extract rfl rfl) ?_
  refine JL.val rfl rfl rfl (.none rfl) (Ev.extract rfl rfl) ?_
  refine JL.sto rfl rfl (.none rfl) (Es.storeA rfl rfl Tryd.sizeOf36 (by first | exact .here | exact .there .here | exact .there (.there .here) | exact .there (.there (.there .here)) | exact .there (.there (.there (.there .here))) | exact .there (.there (.there (.there (.there .here))))) (by rw [arr8_size, shaO_length]) rfl (arr8_one _)) ?_
  refine JL.val rfl rfl rfl (.none rfl) (Ev.assign rfl) ?_
  refine JL.nil ?_
  refine JQ.thenN ?_
  refine JC.ret ?_
  refine JQ.end2 (H' := []) (.inl rfl) rfl (.agg rfl (by first | exact .head _ | exact .tail _ (.head _) | exact .tail _ (.tail _ (.head _)) | exact .tail _ (.tail _ (.tail _ (.head _))) | exact .tail _ (.tail _ (.tail _ (.tail _ (.head _)))) | exact .tail _ (.tail _ (.tail _ (.tail _ (.tail _ (.head _)))))) Tryd.underlying36 rfl Tryd.sizeOf36 (by rw [arr8_size, shaO_length])) (.tmp rfl) ?_ ?_
  · repeat (first | exact Sub.nil | refine Sub.cons (by first | exact .here | exact .there .here | exact .there (.there .here) | exact .there (.there (.there .here)) | exact .there (.there (.there (.there .here)))) ?_ | exact Sub.all)
  · rw [lim_succ]; rfl

theorem leafOf_any (oa : Option Addr) (cap : Nat) (l : List UInt8) (w : World) (hb : Bs w oa cap l) (hl : l.length ≤ 900000) :
    Calls Tryd.prog 33 #[.slice oa l.length cap] w (Ret w (fun v _ => v = .agg (arr8 (sha (0 :: l))))) := by
  refine enter (vs := [.slice oa l.length cap]) Tryd.func33 rfl Tryd.ntmps33 rfl ?_
  refine JC.seq ?_
  -- region 0
  refine JC.region ?_
  refine JL.new rfl rfl rfl (.none rfl) (En.alloc Tryd.zeroValue36) (fun b2 hb2 => ?_)
  refine JL.nil ?_
  refine JQ.thenN ?_
  refine JC.seq ?_
  -- region 1
  refine JC.region ?_
  refine JL.new rfl rfl rfl (.none rfl) (En.bsN (e := 5) rfl (fun _ => by kernel_rfl)) (fun b3 hb3 => ?_)
  refine JL.val rfl rfl rfl (.none rfl) (Ev.move rfl) ?_
  refine JL.gen rfl rfl rfl (.none rfl) (Eg.append (r := (some ⟨b3, 1, #[u8 0]⟩)) (n := 1) (m := l.length) (xs := [u8 0]) (news := (l.map u8)) (z := (.int .u8 0)) (s := 1) (bytes := 1) rfl rfl rfl (by first | exact .last | exact .here | exact .there .last | exact .there .here | exact .there (.there .last) | exact .there (.there .here) | exact .there (.there (.there .last)) | exact .there (.there (.there .here))) Tryd.underlying22 (by kernel_rfl) rfl (by decide) (by decide) ⟨rfl, by simp, by simp [maxLen], rfl, rfl⟩ (by simp) (fun a ha => Rds.old (hb.mem a ha)) (fun h => by have := hb.le; have := hb.empty h; omega) (u8s_one l) (by omega)) ?_
  rintro _ _ ⟨r1, rfl, rfl, hr1, hn1⟩
  obtain ⟨r1, rfl⟩ : ∃ r : Row, r1 = some r := by cases r1 with | none => exact absurd (hn1.1 rfl).1 (by simp) | some r => exact ⟨r, rfl⟩
  refine JL.re (d := 5) (v' := .slice (some ⟨r1.g, 0, none⟩) (0 :: l).length r1.cap) rfl (congrArg (fun n => Value.slice (some ⟨r1.g, 0, none⟩) n r1.cap) (by simp; try omega)) ?_
  refine JL.callV rfl (.none rfl) rfl Tryd.call31 (fun w1 hw1 => of_any (some ⟨r1.g, 0, none⟩) r1.cap (0 :: l) w1 (bs_of_row hw1 (by first | exact .tail _ (.head _) | exact .tail _ (.tail _ (.head _)) | exact .tail _ (.tail _ (.tail _ (.head _))) | exact .tail _ (.tail _ (.tail _ (.tail _ (.head _))))  | exact .head _) hr1 (by simp; omega)) (by simp; omega)) ?_
  refine JL.sto rfl rfl (.none rfl) (Es.storeA rfl rfl Tryd.sizeOf36 (by first | exact .here | exact .there .here | exact .there (.there .here) | exact .there (.there (.there .here)) | exact .there (.there (.there (.there .here))) | exact .there (.there (.there (.there (.there .here))))) (by first | rw [arr8_size, sha_length] | rfl) rfl (arr8_one _)) ?_
  refine JL.nil ?_
  refine JQ.thenN ?_
  refine JC.ret ?_
  refine JQ.end1 (H' := []) (.inl rfl) rfl (.agg rfl (by first | exact .head _ | exact .tail _ (.head _) | exact .tail _ (.tail _ (.head _)) | exact .tail _ (.tail _ (.tail _ (.head _))) | exact .tail _ (.tail _ (.tail _ (.tail _ (.head _)))) | exact .tail _ (.tail _ (.tail _ (.tail _ (.tail _ (.head _)))))) Tryd.underlying36 rfl Tryd.sizeOf36 (by first | rw [arr8_size, sha_length] | rfl)) ?_ ?_
  · repeat (first | exact Sub.nil | refine Sub.cons (by first | exact .here | exact .there .here | exact .there (.there .here) | exact .there (.there (.there .here)) | exact .there (.there (.there (.there .here)))) ?_ | exact Sub.all)
  · exact rfl

theorem rLeaf_any (oa : Option Addr) (cap : Nat) (l : List UInt8) (w : World) (hb : Bs w oa cap l) (hl : l.length ≤ 900000) :
    Calls Tryd.prog 23 #[.slice oa l.length cap] w (Ret w (fun v _ => v = .tuple #[.agg (arr8 (shaO (0 :: l))), .int .i64 (if 8191 < l.length then 4 else 0)])) := by
  refine enter (vs := [.slice oa l.length cap]) Tryd.func23 rfl Tryd.ntmps23 rfl ?_
  refine JC.seq ?_
  -- region 0
  refine JC.region ?_
  refine JL.new rfl rfl rfl (.none rfl) (En.alloc Tryd.zeroValue36) (fun b2 hb2 => ?_)
  refine JL.val rfl rfl rfl (.none rfl) (Ev.assign rfl) ?_
  refine JL.nil ?_
  refine JQ.thenN ?_
  refine JC.seq ?_
  refine JC.seq ?_
  -- region 1
  refine JC.region ?_
  refine JL.val rfl rfl rfl (.none rfl) (Ev.move rfl) ?_
  refine JL.val rfl rfl rfl (.none rfl) (Ev.lenS rfl Tryd.underlying22) ?_
  refine JL.val rfl rfl rfl (.none rfl) (Ev.bin rfl rfl gtr_int) ?_
  refine JL.nil ?_
  refine JQ.thenN ?_
  refine JC.cond rfl (fun hc1 => ?_) (fun hc1 => ?_)
  · -- t6 True
    replace hc1 := of_decide_eq_true hc1
    have hc : 8191 < l.length := by omega
    refine JC.seq ?_
    -- region 2
    refine JC.region ?_
    refine JL.val rfl rfl rfl (.none rfl) (Ev.bu0 Tryd.underlying36 Tryd.sizeOf5 Tryd.zeroValue36) ?_
    refine JL.sto rfl rfl (.none rfl) (Es.storeA rfl rfl Tryd.sizeOf36 (by first | exact .here | exact .there .here | exact .there (.there .here) | exact .there (.there (.there .here)) | exact .there (.there (.there (.there .here))) | exact .there (.there (.there (.there (.there .here))))) rfl rfl (by intro u hu; exact arr8_one (List.replicate 32 0) u hu)) ?_
    refine JL.val rfl rfl rfl (.none rfl) (Ev.assign rfl) ?_
    refine JL.nil ?_
    refine JQ.thenN ?_
    refine JC.ret ?_
    refine JQ.thenR ?_
    refine JQ.end2 (H' := []) (.inl rfl) rfl (.agg rfl (by first | exact .head _ | exact .tail _ (.head _) | exact .tail _ (.tail _ (.head _)) | exact .tail _ (.tail _ (.tail _ (.head _))) | exact .tail _ (.tail _ (.tail _ (.tail _ (.head _)))) | exact .tail _ (.tail _ (.tail _ (.tail _ (.tail _ (.head _)))))) Tryd.underlying36 rfl Tryd.sizeOf36 (by first | rw [arr8_size, sha_length] | rfl)) (.tmp rfl) ?_ ?_
    · repeat (first | exact Sub.nil | refine Sub.cons (by first | exact .here | exact .there .here | exact .there (.there .here) | exact .there (.there (.there .here)) | exact .there (.there (.there (.there .here)))) ?_ | exact Sub.all)
    · rw [shaO_big (by simp; omega), if_pos hc]; rfl
  · -- t6 False
    replace hc1 := of_decide_eq_false hc1
    have hc : ¬ 8191 < l.length := by omega
    refine JC.skip ?_
    refine JQ.thenN ?_
    refine JC.seq ?_
    -- region 3
    refine JC.region ?_
    refine JL.val rfl rfl rfl (.none rfl) (Ev.move rfl) ?_
    refine JL.callV rfl (.none rfl) rfl Tryd.call33 (fun w1 hw1 => leafOf_any oa cap l w1 (hb.old hw1) hl) ?_
    refine JL.sto rfl rfl (.none rfl) (Es.storeA rfl rfl Tryd.sizeOf36 (by first | exact .here | exact .there .here | exact .there (.there .here) | exact .there (.there (.there .here)) | exact .there (.there (.there (.there .here))) | exact .there (.there (.there (.there (.there .here))))) (by first | rw [arr8_size, sha_length] | rfl) rfl (arr8_one _)) ?_
    refine JL.val rfl rfl rfl (.none rfl) (Ev.assign rfl) ?_
    refine JL.nil ?_
    refine JQ.thenN ?_
    refine JC.ret ?_
    refine JQ.end2 (H' := []) (.inl rfl) rfl (.agg rfl (by first | exact .head _ | exact .tail _ (.head _) | exact .tail _ (.tail _ (.head _)) | exact .tail _ (.tail _ (.tail _ (.head _))) | exact .tail _ (.tail _ (.tail _ (.tail _ (.head _)))) | exact .tail _ (.tail _ (.tail _ (.tail _ (.tail _ (.head _)))))) Tryd.underlying36 rfl Tryd.sizeOf36 (by first | rw [arr8_size, sha_length] | rfl)) (.tmp rfl) ?_ ?_
    · repeat (first | exact Sub.nil | refine Sub.cons (by first | exact .here | exact .there .here | exact .there (.there .here) | exact .there (.there (.there .here)) | exact .there (.there (.there (.there .here)))) ?_ | exact Sub.all)
    · rw [shaO_small (by simp; omega), if_neg hc]

theorem rNode_any (a b : List UInt8) (ha : a.length = 32) (hb : b.length = 32) (w : World) :
    Calls Tryd.prog 25 #[.agg (arr8 a), .agg (arr8 b)] w (Ret w (fun v _ => v = .agg (arr8 (sha (1 :: (a ++ b)))))) := by
  refine enter (vs := [.agg (arr8 a), .agg (arr8 b)]) Tryd.func25 rfl Tryd.ntmps25 rfl ?_
  refine JC.seq ?_
  -- region 0
  refine JC.region ?_
  refine JL.new rfl rfl rfl (.none rfl) (En.box rfl) (fun b2 hb2 => ?_)
  refine JL.new rfl rfl rfl (.none rfl) (En.box rfl) (fun b3 hb3 => ?_)
  refine JL.new rfl rfl rfl (.none rfl) (En.alloc Tryd.zeroValue36) (fun b4 hb4 => ?_)
  refine JL.nil ?_
  refine JQ.thenN ?_
  refine JC.seq ?_
  -- region 1
  refine JC.region ?_
  refine JL.new rfl rfl rfl (.none rfl) (En.bsN (e := 5) rfl (fun _ => by kernel_rfl)) (fun b6 hb6 => ?_)
  refine JL.val rfl rfl rfl (.none rfl) (Ev.sliceA rfl Tryd.underlying36 Tryd.sizeOf5) ?_
  refine JL.gen rfl rfl rfl (.none rfl) (Eg.append (r := (some ⟨b6, 1, #[u8 1]⟩)) (n := 1) (m := 32) (xs := [u8 1]) (news := (a.map u8)) (z := (.int .u8 0)) (s := 1) (bytes := 1) rfl rfl rfl (by first | exact .last | exact .here | exact .there .last | exact .there .here | exact .there (.there .last) | exact .there (.there .here) | exact .there (.there (.there .last)) | exact .there (.there (.there .here))) Tryd.underlying22 (by kernel_rfl) rfl (by decide) (by decide) ⟨rfl, by simp, by simp [maxLen], rfl, rfl⟩ (by simp [ha]) (fun ad had => by cases had; exact Rds.all (.tail _ (.tail _ (.tail _ (.head _))))) (fun h => by cases h) (u8s_one _) (by omega)) ?_
  rintro _ _ ⟨r1, rfl, rfl, hr1, hn1⟩
  obtain ⟨r1, rfl⟩ : ∃ r : Row, r1 = some r := by cases r1 with | none => exact absurd (hn1.1 rfl).1 (by simp) | some r => exact ⟨r, rfl⟩
  refine JL.val rfl rfl rfl (.none rfl) (Ev.assign rfl) ?_
  refine JL.nil ?_
  refine JQ.thenN ?_
  refine JC.seq ?_
  -- region 2
  refine JC.region ?_
  refine JL.val rfl rfl rfl (.none rfl) (Ev.move rfl) ?_
  refine JL.val rfl rfl rfl (.none rfl) (Ev.sliceA rfl Tryd.underlying36 Tryd.sizeOf5) ?_
  refine JL.gen rfl rfl rfl (.none rfl) (Eg.append (r := (some r1)) (n := (1 + 32)) (m := 32) (xs := ([u8 1] ++ a.map u8)) (news := (b.map u8)) (z := (.int .u8 0)) (s := 1) (bytes := 1) rfl rfl rfl (by first | exact .last | exact .here | exact .there .last | exact .there .here | exact .there (.there .last) | exact .there (.there .here) | exact .there (.there (.there .last)) | exact .there (.there (.there .here))) Tryd.underlying22 (by kernel_rfl) rfl (by decide) (by decide) hr1 (by simp [hb]) (fun ad had => by cases had; exact Rds.all (by first | exact .tail _ (.head _) | exact .tail _ (.tail _ (.head _)) | exact .tail _ (.tail _ (.tail _ (.head _))) | exact .tail _ (.tail _ (.tail _ (.tail _ (.head _))))  | exact .head _)) (fun h => by cases h) (u8s_one _) (by omega)) ?_
  rintro _ _ ⟨r2, rfl, rfl, hr2, hn1⟩
  obtain ⟨r2, rfl⟩ : ∃ r : Row, r2 = some r := by cases r2 with | none => exact absurd (hn1.1 rfl).1 (by simp) | some r => exact ⟨r, rfl⟩
  refine JL.re (d := 11) (v' := .slice (some ⟨r2.g, 0, none⟩) ((1 :: (a ++ b))).length r2.cap) rfl (congrArg (fun n => Value.slice (some ⟨r2.g, 0, none⟩) n r2.cap) (by simp; try omega)) ?_
  refine JL.callV rfl (.none rfl) rfl Tryd.call31 (fun w1 hw1 => of_any (some ⟨r2.g, 0, none⟩) r2.cap (1 :: (a ++ b)) w1 (bs_of_row hw1 (by first | exact .tail _ (.head _) | exact .tail _ (.tail _ (.head _)) | exact .tail _ (.tail _ (.tail _ (.head _))) | exact .tail _ (.tail _ (.tail _ (.tail _ (.head _))))  | exact .head _) (hr2) (by simp; omega)) (by simp; omega)) ?_
  refine JL.sto rfl rfl (.none rfl) (Es.storeA rfl rfl Tryd.sizeOf36 (by first | exact .here | exact .there .here | exact .there (.there .here) | exact .there (.there (.there .here)) | exact .there (.there (.there (.there .here))) | exact .there (.there (.there (.there (.there .here))))) (by first | rw [arr8_size, sha_length] | rfl) rfl (arr8_one _)) ?_
  refine JL.nil ?_
  refine JQ.thenN ?_
  refine JC.ret ?_
  refine JQ.end1 (H' := []) (.inl rfl) rfl (.agg rfl (by first | exact .head _ | exact .tail _ (.head _) | exact .tail _ (.tail _ (.head _)) | exact .tail _ (.tail _ (.tail _ (.head _))) | exact .tail _ (.tail _ (.tail _ (.tail _ (.head _)))) | exact .tail _ (.tail _ (.tail _ (.tail _ (.tail _ (.head _)))))) Tryd.underlying36 rfl Tryd.sizeOf36 (by first | rw [arr8_size, sha_length] | rfl)) ?_ ?_
  · repeat (first | exact Sub.nil | refine Sub.cons (by first | exact .here | exact .there .here | exact .there (.there .here) | exact .there (.there (.there .here)) | exact .there (.there (.there (.there .here)))) ?_ | exact Sub.all)
  · exact rfl

end Go.Proofs.YteehmomhaaohhaaDoor
