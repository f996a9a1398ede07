/-
  The law on the digest, walked: it returns true.
-/
import Derived.Test.YteehmomhaaohhaaDoorRef3
import Derived.Test.YteehmomhaaohhaaDoorEql
namespace Go.Proofs.YteehmomhaaohhaaDoor
open Go Go.RowKit
set_option maxRecDepth 100000

theorem lawSum_any (ob : Option Addr) (capb : Nat) (lb : List UInt8) (w : World) (hb : Bs w ob capb lb) (hk : KMem 0 w) (hf : FMem 1 w) :
    Calls Tryd.prog 4 #[.slice ob lb.length capb] w (Ret w (fun v _ => v = .bool true)) := by
  refine enter (vs := [.slice ob lb.length capb]) Tryd.func4 rfl Tryd.ntmps4 rfl ?_
  refine JC.seq ?_
  -- region 0
  refine JC.region ?_
  refine JL.val rfl rfl rfl (.none rfl) (Ev.assign rfl) ?_
  refine JL.nil ?_
  refine JQ.thenN ?_
  refine JC.seq ?_
  refine JC.seq ?_
  -- region 1
  refine JC.region ?_
  refine JL.val rfl rfl rfl (.none rfl) (Ev.move rfl) ?_
  refine JL.callV rfl (.none rfl) rfl Tryd.call12 (fun w1 hw1 => great_any ob lb.length capb w1) ?_
  refine JL.nil ?_
  refine JQ.thenN ?_
  refine JC.cond rfl (fun hc1 => ?_) (fun hc1 => ?_)
  · -- t9 True
    replace hc1 := of_decide_eq_true hc1
    refine JC.seq ?_
    -- region 2
    refine JC.region ?_
    refine JL.val rfl rfl rfl (.none rfl) (Ev.assign rfl) ?_
    refine JL.nil ?_
    refine JQ.thenN ?_
    refine JC.ret ?_
    refine JQ.thenR ?_
    refine JQ.end1 (H' := []) (.inl rfl) rfl (.tmp rfl) ?_ ?_
    · repeat (first | exact Sub.nil | refine Sub.cons (by first | exact .here | exact .there .here | exact .there (.there .here) | exact .there (.there (.there .here)) | exact .there (.there (.there (.there .here)))) ?_ | exact Sub.all)
    · first | exact rfl | exact congrArg Value.bool (bytes_beq _)
  · -- t9 False
    replace hc1 := of_decide_eq_false hc1
    refine JC.skip ?_
    refine JQ.thenN ?_
    refine JC.seq ?_
    -- region 3
    refine JC.region ?_
    refine JL.val rfl rfl rfl (.none rfl) (Ev.move rfl) ?_
    refine JL.val rfl rfl rfl (.none rfl) (Ev.str rfl Tryd.underlying22 Tryd.underlying9 Tryd.underlying5 rfl (fun h => by have := hb.le; have := hb.empty h; omega) (fun a ha => Rds.old (hb.mem a ha))) ?_
    refine JL.val rfl rfl rfl (.none rfl) (Ev.assign rfl) ?_
    refine JL.nil ?_
    refine JQ.thenN ?_
    refine JC.seq ?_
    -- region 4
    refine JC.region ?_
    refine JL.val rfl rfl rfl (.none rfl) (Ev.move rfl) ?_
    refine JL.callV rfl (.none rfl) rfl Tryd.call17 (fun w1 hw1 => Sum_any ob capb lb w1 (hb.old hw1) (by omega) (hk.old hw1) (hf.old hw1)) ?_
    refine JL.val rfl rfl rfl (.none rfl) (Ev.move rfl) ?_
    refine JL.val rfl rfl rfl (.none rfl) (Ev.extract rfl rfl) ?_
    refine JL.val rfl rfl rfl (.none rfl) (Ev.extract rfl rfl) ?_
    refine JL.new rfl rfl rfl (.none rfl) (En.alloc Tryd.zeroValue36) (fun b4 hb4 => ?_)
    refine JL.sto rfl rfl (.none rfl) (Es.storeA rfl rfl Tryd.sizeOf36 (by first | exact .here | exact .there .here | exact .there (.there .here) | exact .there (.there (.there .here)) | exact .there (.there (.there (.there .here))) | exact .there (.there (.there (.there (.there .here))))) (by rw [arr8_size, shaO_length]) rfl (arr8_one _)) ?_
    refine JL.val rfl rfl rfl (.none rfl) (Ev.assign rfl) ?_
    refine JL.nil ?_
    refine JQ.thenN ?_
    refine JC.seq ?_
    -- region 5
    refine JC.region ?_
    refine JL.val rfl rfl rfl (.none rfl) (Ev.move rfl) ?_
    refine JL.callV rfl (.none rfl) rfl Tryd.call18 (fun w1 hw1 => rSum_any ob capb lb w1 (hb.old hw1) (by omega)) ?_
    refine JL.val rfl rfl rfl (.none rfl) (Ev.move rfl) ?_
    refine JL.val rfl rfl rfl (.none rfl) (Ev.extract rfl rfl) ?_
    refine JL.val rfl rfl rfl (.none rfl) (Ev.extract rfl rfl) ?_
    refine JL.new rfl rfl rfl (.none rfl) (En.alloc Tryd.zeroValue36) (fun b6 hb6 => ?_)
    refine JL.sto rfl rfl (.none rfl) (Es.storeA rfl rfl Tryd.sizeOf36 (by first | exact .here | exact .there .here | exact .there (.there .here) | exact .there (.there (.there .here)) | exact .there (.there (.there (.there .here))) | exact .there (.there (.there (.there (.there .here))))) (by rw [arr8_size, shaO_length]) rfl (arr8_one _)) ?_
    refine JL.val rfl rfl rfl (.none rfl) (Ev.assign rfl) ?_
    refine JL.nil ?_
    refine JQ.thenN ?_
    refine JC.seq ?_
    -- region 6
    refine JC.region ?_
    refine JL.val rfl rfl rfl (.none rfl) (Ev.loadB rfl (by first | exact .head _ | exact .tail _ (.head _) | exact .tail _ (.tail _ (.head _)) | exact .tail _ (.tail _ (.tail _ (.head _))) | exact .tail _ (.tail _ (.tail _ (.tail _ (.head _)))) | exact .tail _ (.tail _ (.tail _ (.tail _ (.tail _ (.head _)))))) Tryd.underlying36 rfl Tryd.sizeOf36 (by rw [arr8_size, shaO_length])) ?_
    refine JL.val rfl rfl rfl (.none rfl) (Ev.loadB rfl (by first | exact .head _ | exact .tail _ (.head _) | exact .tail _ (.tail _ (.head _)) | exact .tail _ (.tail _ (.tail _ (.head _))) | exact .tail _ (.tail _ (.tail _ (.tail _ (.head _)))) | exact .tail _ (.tail _ (.tail _ (.tail _ (.tail _ (.head _)))))) Tryd.underlying36 rfl Tryd.sizeOf36 (by rw [arr8_size, shaO_length])) ?_
    refine JL.val rfl rfl rfl (.none rfl) (Ev.bin rfl rfl (eql_arr8 (n := 32) Tryd.underlying36 Tryd.underlying5 (by kernel_rfl) (by kernel_rfl) (shaO_length _) (shaO_length _))) ?_
    refine JL.val rfl rfl rfl (.none rfl) (Ev.move rfl) ?_
    refine JL.know (d := 25) (b := true) rfl ?_ ?_
    · simp
    refine JL.val rfl rfl rfl (.yes rfl rfl rfl) (Ev.move rfl) ?_
    refine JL.val rfl rfl rfl (.yes rfl rfl rfl) (Ev.move rfl) ?_
    refine JL.val rfl rfl rfl (.yes rfl rfl rfl) (Ev.bin rfl rfl eql_int) ?_
    refine JL.val rfl rfl rfl (.none rfl) (Ev.pickT rfl rfl) ?_
    refine JL.val rfl rfl rfl (.none rfl) (Ev.move rfl) ?_
    refine JL.know (d := 30) (b := true) rfl ?_ ?_
    · simp
    refine JL.val rfl rfl rfl (.yes rfl rfl rfl) (Ev.move rfl) ?_
    refine JL.val rfl rfl rfl (.yes rfl rfl rfl) (Ev.str rfl Tryd.underlying22 Tryd.underlying9 Tryd.underlying5 rfl (fun h => by have := hb.le; have := hb.empty h; omega) (fun a ha => Rds.old (hb.mem a ha))) ?_
    refine JL.val rfl rfl rfl (.yes rfl rfl rfl) (Ev.move rfl) ?_
    refine JL.val rfl rfl rfl (.yes rfl rfl rfl) (Ev.bin rfl rfl eql_string) ?_
    refine JL.val rfl rfl rfl (.none rfl) (Ev.pickT rfl rfl) ?_
    refine JL.val rfl rfl rfl (.none rfl) (Ev.assign rfl) ?_
    refine JL.nil ?_
    refine JQ.thenN ?_
    refine JC.ret ?_
    refine JQ.end1 (H' := []) (.inl rfl) rfl (.tmp rfl) ?_ ?_
    · repeat (first | exact Sub.nil | refine Sub.cons (by first | exact .here | exact .there .here | exact .there (.there .here) | exact .there (.there (.there .here)) | exact .there (.there (.there (.there .here)))) ?_ | exact Sub.all)
    · first | exact rfl | exact congrArg Value.bool (bytes_beq _)

end Go.Proofs.YteehmomhaaohhaaDoor
