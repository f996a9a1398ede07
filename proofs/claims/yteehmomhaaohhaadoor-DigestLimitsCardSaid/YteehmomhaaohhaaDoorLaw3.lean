/-
  The chapter's first examples hold; padding and digest below the limit.
-/
import Derived.Test.YteehmomhaaohhaaDoorDig5
import Derived.Test.YteehmomhaaohhaaDoorMore
namespace Go.Proofs.YteehmomhaaohhaaDoor
open Go Go.RowKit
set_option maxRecDepth 100000

theorem padS_any (oa : Option Addr) (cap : Nat) (l : List UInt8) (w : World) (hb : Bs w oa cap l) (hl : l.length ≤ 8192) :
    Calls Tryd.prog 13 #[.slice oa l.length cap] w (Ret w fun v H => ∃ r : Row, v = .tuple #[.slice (some ⟨r.g, 0, none⟩) (pad l).length r.cap, .int .i64 0] ∧ H = [(r.g, .cells r.cs 5 (0, 0))] ∧ Row.ok 1 (pad l).length ((pad l).map u8) (some r)) := by
  refine (pad_any oa cap l w hb (by omega)).mono ?_
  rintro e w1 ⟨v, H1, he, hp, r, rfl, rfl, hr⟩
  have hc : ¬ 8192 < l.length := by omega
  rw [padO_small hc] at hr
  cases r with
  | none =>
    have h1 := hr.1
    have h2 := pad_length l
    omega
  | some r => exact ⟨_, _, he, hp, r, by rw [padO_small hc, if_neg hc]; rfl, rfl, hr⟩
theorem sumS_any (oa : Option Addr) (cap : Nat) (l : List UInt8) (w : World) (hb : Bs w oa cap l) (hl : l.length ≤ 8192) (hk : KMem 0 w) (hf : FMem 1 w) :
    Calls Tryd.prog 17 #[.slice oa l.length cap] w (Ret w fun v _ => v = .tuple #[.agg (arr8 (sha l)), .int .i64 0]) := by
  refine (Sum_any oa cap l w hb (by omega) hk hf).mono ?_
  rintro e w1 ⟨v, H1, he, hp, rfl⟩
  have hc : ¬ 8192 < l.length := by omega
  exact ⟨_, _, he, hp, by rw [shaO_small hc, if_neg hc]⟩
theorem leafS_any (oa : Option Addr) (cap : Nat) (l : List UInt8) (w : World) (hb : Bs w oa cap l) (hl : l.length ≤ 8191) (hk : KMem 0 w) (hf : FMem 1 w) :
    Calls Tryd.prog 20 #[.slice oa l.length cap] w (Ret w fun v _ => v = .tuple #[.agg (arr8 (sha (0 :: l))), .int .i64 0]) := by
  refine (Leaf_any oa cap l w hb (by omega) hk hf).mono ?_
  rintro e w1 ⟨v, H1, he, hp, rfl⟩
  have hc : ¬ 8191 < l.length := by omega
  exact ⟨_, _, he, hp, by rw [shaO_small (by simp; omega), if_neg hc]⟩

theorem told_any (b : List UInt8) (x : UInt32) (hb : b.length = 32) (hx : beWord b 0 = x) (w : World) :
    Calls Tryd.prog 32 #[.agg (arr8 b), .int .i64 0, u32 x] w (Ret w (fun v _ => v = .bool true)) := by
  refine enter (vs := [.agg (arr8 b), .int .i64 0, u32 x]) Tryd.func32 rfl Tryd.ntmps32 rfl ?_
  refine JC.seq ?_
  -- region 0
  refine JC.region ?_
  refine JL.new rfl rfl rfl (.none rfl) (En.box rfl) (fun b3 hb3 => ?_)
  refine JL.val rfl rfl rfl (.none rfl) (Ev.assign rfl) ?_
  refine JL.nil ?_
  refine JQ.thenN ?_
  refine JC.seq ?_
  -- region 1
  refine JC.region ?_
  refine JL.val rfl rfl rfl (.none rfl) (Ev.move rfl) ?_
  refine JL.val rfl rfl rfl (.none rfl) (Ev.bin rfl rfl eql_int) ?_
  refine JL.val rfl rfl rfl (.none rfl) (Ev.move rfl) ?_
  refine JL.know (d := 9) (b := true) rfl ?_ ?_
  · simp
  refine JL.val rfl rfl rfl (.yes rfl rfl rfl) (Ev.idxB1 (k := 0) rfl rfl Tryd.underlying36 Tryd.sizeOf5 rfl (by omega)) ?_
  refine JL.val rfl rfl rfl (.yes rfl rfl rfl) (Ev.load1 rfl Tryd.underlying5 rfl (Rd.own (by first | exact .head _ | exact .tail _ (.head _) | exact .tail _ (.tail _ (.head _)) | exact .tail _ (.tail _ (.tail _ (.head _))) | exact .tail _ (.tail _ (.tail _ (.tail _ (.head _)))) | exact .tail _ (.tail _ (.tail _ (.tail _ (.tail _ (.head _)))))) (arr8_getD (l := b) (k := 0) (by omega)))) ?_
  refine JL.val rfl rfl rfl (.yes rfl rfl rfl) (Ev.conv rfl (conv_u8_u32 Tryd.underlying5 Tryd.underlying23)) ?_
  refine JL.val rfl rfl rfl (.yes rfl rfl rfl) (Ev.bin rfl rfl (shl_u32 (n := 24) (by decide))) ?_
  refine JL.val rfl rfl rfl (.yes rfl rfl rfl) (Ev.idxB1 (k := 1) rfl rfl Tryd.underlying36 Tryd.sizeOf5 rfl (by omega)) ?_
  refine JL.val rfl rfl rfl (.yes rfl rfl rfl) (Ev.load1 rfl Tryd.underlying5 rfl (Rd.own (by first | exact .head _ | exact .tail _ (.head _) | exact .tail _ (.tail _ (.head _)) | exact .tail _ (.tail _ (.tail _ (.head _))) | exact .tail _ (.tail _ (.tail _ (.tail _ (.head _)))) | exact .tail _ (.tail _ (.tail _ (.tail _ (.tail _ (.head _)))))) (arr8_getD (l := b) (k := 1) (by omega)))) ?_
  refine JL.val rfl rfl rfl (.yes rfl rfl rfl) (Ev.conv rfl (conv_u8_u32 Tryd.underlying5 Tryd.underlying23)) ?_
  refine JL.val rfl rfl rfl (.yes rfl rfl rfl) (Ev.bin rfl rfl (shl_u32 (n := 16) (by decide))) ?_
  refine JL.val rfl rfl rfl (.yes rfl rfl rfl) (Ev.bin rfl rfl or_u32) ?_
  refine JL.val rfl rfl rfl (.yes rfl rfl rfl) (Ev.idxB1 (k := 2) rfl rfl Tryd.underlying36 Tryd.sizeOf5 rfl (by omega)) ?_
  refine JL.val rfl rfl rfl (.yes rfl rfl rfl) (Ev.load1 rfl Tryd.underlying5 rfl (Rd.own (by first | exact .head _ | exact .tail _ (.head _) | exact .tail _ (.tail _ (.head _)) | exact .tail _ (.tail _ (.tail _ (.head _))) | exact .tail _ (.tail _ (.tail _ (.tail _ (.head _)))) | exact .tail _ (.tail _ (.tail _ (.tail _ (.tail _ (.head _)))))) (arr8_getD (l := b) (k := 2) (by omega)))) ?_
  refine JL.val rfl rfl rfl (.yes rfl rfl rfl) (Ev.conv rfl (conv_u8_u32 Tryd.underlying5 Tryd.underlying23)) ?_
  refine JL.val rfl rfl rfl (.yes rfl rfl rfl) (Ev.bin rfl rfl (shl_u32 (n := 8) (by decide))) ?_
  refine JL.val rfl rfl rfl (.yes rfl rfl rfl) (Ev.bin rfl rfl or_u32) ?_
  refine JL.val rfl rfl rfl (.yes rfl rfl rfl) (Ev.idxB1 (k := 3) rfl rfl Tryd.underlying36 Tryd.sizeOf5 rfl (by omega)) ?_
  refine JL.val rfl rfl rfl (.yes rfl rfl rfl) (Ev.load1 rfl Tryd.underlying5 rfl (Rd.own (by first | exact .head _ | exact .tail _ (.head _) | exact .tail _ (.tail _ (.head _)) | exact .tail _ (.tail _ (.tail _ (.head _))) | exact .tail _ (.tail _ (.tail _ (.tail _ (.head _)))) | exact .tail _ (.tail _ (.tail _ (.tail _ (.tail _ (.head _)))))) (arr8_getD (l := b) (k := 3) (by omega)))) ?_
  refine JL.val rfl rfl rfl (.yes rfl rfl rfl) (Ev.conv rfl (conv_u8_u32 Tryd.underlying5 Tryd.underlying23)) ?_
  refine JL.val rfl rfl rfl (.yes rfl rfl rfl) (Ev.bin rfl rfl or_u32) ?_
  refine JL.val rfl rfl rfl (.yes rfl rfl rfl) (Ev.move rfl) ?_
  refine JL.val rfl rfl rfl (.yes rfl rfl rfl) (Ev.bin rfl rfl eql_int) ?_
  refine JL.val rfl rfl rfl (.none rfl) (Ev.pickT rfl rfl) ?_
  refine JL.val rfl rfl rfl (.none rfl) (Ev.assign rfl) ?_
  refine JL.nil ?_
  refine JQ.thenN ?_
  refine JC.ret ?_
  refine JQ.end1 (H' := []) (.inl rfl) rfl (.tmp rfl) ?_ ?_
  · repeat (first | exact Sub.nil | refine Sub.cons (by first | exact .here | exact .there .here | exact .there (.there .here) | exact .there (.there (.there .here)) | exact .there (.there (.there (.there .here)))) ?_ | exact Sub.all)
  · exact congrArg Value.bool (decide_eq_true (congrArg (fun u : UInt32 => (u.toNat : Int)) hx))

theorem alive_any (w : World) (hk : KMem 0 w) (hf : FMem 1 w) :
    Calls Tryd.prog 19 #[] w (Ret w (fun v _ => v = .bool true)) := by
  refine enter (vs := []) Tryd.func19 rfl Tryd.ntmps19 rfl ?_
  refine JC.seq ?_
  -- region 0
  refine JC.region ?_
  refine JL.val rfl rfl rfl (.none rfl) (Ev.assign rfl) ?_
  refine JL.nil ?_
  refine JQ.thenN ?_
  refine JC.seq ?_
  -- region 1
  refine JC.region ?_
  refine JL.callV rfl (.none rfl) rfl Tryd.call17 (fun w1 hw1 => Sum_any none 0 [] w1 bs_nil (Nat.zero_le _) (hk.old hw1) (hf.old hw1)) ?_
  refine JL.val rfl rfl rfl (.none rfl) (Ev.move rfl) ?_
  refine JL.val rfl rfl rfl (.none rfl) (Ev.extract rfl rfl) ?_
  refine JL.val rfl rfl rfl (.none rfl) (Ev.extract rfl rfl) ?_
  refine JL.new rfl rfl rfl (.none rfl) (En.alloc Tryd.zeroValue36) (fun b1 hb1 => ?_)
  refine JL.sto rfl rfl (.none rfl) (Es.storeA rfl rfl Tryd.sizeOf36 (by first | exact .here | exact .there .here | exact .there (.there .here) | exact .there (.there (.there .here)) | exact .there (.there (.there (.there .here))) | exact .there (.there (.there (.there (.there .here))))) (by rw [arr8_size, shaO_length]) rfl (arr8_one _)) ?_
  refine JL.val rfl rfl rfl (.none rfl) (Ev.assign rfl) ?_
  refine JL.nil ?_
  refine JQ.thenN ?_
  refine JC.seq ?_
  -- region 2
  refine JC.region ?_
  refine JL.new rfl rfl rfl (.none rfl) (En.bsN (e := 5) rfl (fun _ => by kernel_rfl)) (fun b12 hb12 => ?_)
  refine JL.gen rfl rfl rfl (.none rfl) (Eg.convS rfl Tryd.underlying22 Tryd.underlying5 (by first | exact .here | exact .there .here | exact .there (.there .here) | exact .there (.there (.there .here)) | exact .there (.there (.there (.there .here))) | exact .there (.there (.there (.there (.there .here)))))) ?_
  rintro _ _ ⟨rfl, rfl⟩
  refine JL.callV rfl (.none rfl) rfl Tryd.call17 (fun w1 hw1 => Sum_any (some ⟨b12, 0, none⟩) 3 [97, 98, 99] w1 (bs_of_block (l := [97, 98, 99]) hw1 (.head _) (by decide)) (by decide) (hk.old hw1) (hf.old hw1)) ?_
  refine JL.val rfl rfl rfl (.none rfl) (Ev.move rfl) ?_
  refine JL.val rfl rfl rfl (.none rfl) (Ev.extract rfl rfl) ?_
  refine JL.val rfl rfl rfl (.none rfl) (Ev.extract rfl rfl) ?_
  refine JL.new rfl rfl rfl (.none rfl) (En.alloc Tryd.zeroValue36) (fun b3 hb3 => ?_)
  refine JL.sto rfl rfl (.none rfl) (Es.storeA rfl rfl Tryd.sizeOf36 (by first | exact .here | exact .there .here | exact .there (.there .here) | exact .there (.there (.there .here)) | exact .there (.there (.there (.there .here))) | exact .there (.there (.there (.there (.there .here))))) (by rw [arr8_size, shaO_length]) rfl (arr8_one _)) ?_
  refine JL.val rfl rfl rfl (.none rfl) (Ev.assign rfl) ?_
  refine JL.nil ?_
  refine JQ.thenN ?_
  refine JC.seq ?_
  -- region 3
  refine JC.region ?_
  refine JL.callV rfl (.none rfl) rfl Tryd.call20 (fun w1 hw1 => Leaf_any none 0 [] w1 bs_nil (Nat.zero_le _) (hk.old hw1) (hf.old hw1)) ?_
  refine JL.val rfl rfl rfl (.none rfl) (Ev.move rfl) ?_
  refine JL.val rfl rfl rfl (.none rfl) (Ev.extract rfl rfl) ?_
  refine JL.val rfl rfl rfl (.none rfl) (Ev.extract rfl rfl) ?_
  refine JL.new rfl rfl rfl (.none rfl) (En.alloc Tryd.zeroValue36) (fun b5 hb5 => ?_)
  refine JL.sto rfl rfl (.none rfl) (Es.storeA rfl rfl Tryd.sizeOf36 (by first | exact .here | exact .there .here | exact .there (.there .here) | exact .there (.there (.there .here)) | exact .there (.there (.there (.there .here))) | exact .there (.there (.there (.there (.there .here))))) (by rw [arr8_size, shaO_length]) rfl (arr8_one _)) ?_
  refine JL.val rfl rfl rfl (.none rfl) (Ev.assign rfl) ?_
  refine JL.nil ?_
  refine JQ.thenN ?_
  refine JC.seq ?_
  -- region 4
  refine JC.region ?_
  refine JL.val rfl rfl rfl (.none rfl) (Ev.loadB rfl (by first | exact .head _ | exact .tail _ (.head _) | exact .tail _ (.tail _ (.head _)) | exact .tail _ (.tail _ (.tail _ (.head _))) | exact .tail _ (.tail _ (.tail _ (.tail _ (.head _)))) | exact .tail _ (.tail _ (.tail _ (.tail _ (.tail _ (.head _)))))) Tryd.underlying36 rfl Tryd.sizeOf36 (by rw [arr8_size, shaO_length])) ?_
  refine JL.val rfl rfl rfl (.none rfl) (Ev.move rfl) ?_
  refine JL.callV rfl (.none rfl) rfl Tryd.call32 (fun w1 hw1 => told_any (shaO []) 3820012610 (shaO_length _) (by kernel_rfl) w1) ?_
  refine JL.val rfl rfl rfl (.none rfl) (Ev.move rfl) ?_
  refine JL.know (d := 24) (b := true) rfl ?_ ?_
  · rfl
  refine JL.val rfl rfl rfl (.yes rfl rfl rfl) (Ev.loadB rfl (by first | exact .head _ | exact .tail _ (.head _) | exact .tail _ (.tail _ (.head _)) | exact .tail _ (.tail _ (.tail _ (.head _))) | exact .tail _ (.tail _ (.tail _ (.tail _ (.head _)))) | exact .tail _ (.tail _ (.tail _ (.tail _ (.tail _ (.head _)))))) Tryd.underlying36 rfl Tryd.sizeOf36 (by rw [arr8_size, shaO_length])) ?_
  refine JL.val rfl rfl rfl (.yes rfl rfl rfl) (Ev.move rfl) ?_
  refine JL.callV rfl (.yes rfl rfl rfl) rfl Tryd.call32 (fun w1 hw1 => told_any (shaO [97, 98, 99]) 3128432319 (shaO_length _) (by kernel_rfl) w1) ?_
  refine JL.val rfl rfl rfl (.none rfl) (Ev.pickT rfl rfl) ?_
  refine JL.val rfl rfl rfl (.none rfl) (Ev.move rfl) ?_
  refine JL.know (d := 29) (b := true) rfl ?_ ?_
  · rfl
  refine JL.val rfl rfl rfl (.yes rfl rfl rfl) (Ev.loadB rfl (by first | exact .head _ | exact .tail _ (.head _) | exact .tail _ (.tail _ (.head _)) | exact .tail _ (.tail _ (.tail _ (.head _))) | exact .tail _ (.tail _ (.tail _ (.tail _ (.head _)))) | exact .tail _ (.tail _ (.tail _ (.tail _ (.tail _ (.head _)))))) Tryd.underlying36 rfl Tryd.sizeOf36 (by rw [arr8_size, shaO_length])) ?_
  refine JL.val rfl rfl rfl (.yes rfl rfl rfl) (Ev.move rfl) ?_
  refine JL.callV rfl (.yes rfl rfl rfl) rfl Tryd.call32 (fun w1 hw1 => told_any (shaO (0 :: [])) 1848904604 (shaO_length _) (by kernel_rfl) w1) ?_
  refine JL.val rfl rfl rfl (.none rfl) (Ev.pickT rfl rfl) ?_
  refine JL.val rfl rfl rfl (.none rfl) (Ev.assign rfl) ?_
  refine JL.nil ?_
  refine JQ.thenN ?_
  refine JC.ret ?_
  refine JQ.end1 (H' := []) (.inl rfl) rfl (.tmp rfl) ?_ ?_
  · repeat (first | exact Sub.nil | refine Sub.cons (by first | exact .here | exact .there .here | exact .there (.there .here) | exact .there (.there (.there .here)) | exact .there (.there (.there (.there .here)))) ?_ | exact Sub.all)
  · exact rfl

end Go.Proofs.YteehmomhaaohhaaDoor
