/-
  The law on padding and compression, walked: it returns true.
-/
import Derived.Test.YteehmomhaaohhaaDoorRef2
import Derived.Test.YteehmomhaaohhaaDoorEql
namespace Go.Proofs.YteehmomhaaohhaaDoor
open Go Go.RowKit
set_option maxRecDepth 100000

theorem lawCompress_any (ob oc : Option Addr) (capb capc : Nat) (lb lc : List UInt8) (s : St) (w : World) (hb : Bs w ob capb lb) (hc : Bs w oc capc lc) (hk : KMem 0 w) :
    Calls Tryd.prog 3 #[.slice ob lb.length capb, .agg (arr32 s.l), .slice oc lc.length capc] w (Ret w (fun v _ => v = .bool true)) := by
  refine enter (vs := [.slice ob lb.length capb, .agg (arr32 s.l), .slice oc lc.length capc]) Tryd.func3 rfl Tryd.ntmps3 rfl ?_
  refine JC.seq ?_
  -- region 0
  refine JC.region ?_
  refine JL.new rfl rfl rfl (.none rfl) (En.box rfl) (fun b4 hb4 => ?_)
  refine JL.val rfl rfl rfl (.none rfl) (Ev.assign rfl) ?_
  refine JL.nil ?_
  refine JQ.thenN ?_
  refine JC.seq ?_
  refine JC.seq ?_
  -- region 1
  refine JC.region ?_
  refine JL.val rfl rfl rfl (.none rfl) (Ev.move rfl) ?_
  refine JL.callV rfl (.none rfl) rfl Tryd.call12 (fun w1 hw1 => great_any ob lb.length capb w1) ?_
  refine JL.val rfl rfl rfl (.none rfl) (Ev.move rfl) ?_
  refine JL.split (d := 17) rfl (fun hg1 => ?_) (fun hg1 => ?_)
  · -- guard 17 true
    refine JL.skip rfl rfl (.noF rfl rfl rfl) ?_
    refine JL.skip rfl rfl (.noF rfl rfl rfl) ?_
    refine JL.val rfl rfl rfl (.none rfl) (Ev.pickT rfl rfl) ?_
    refine JL.nil ?_
    refine JQ.thenN ?_
    refine JC.condT rfl ?_
    refine JC.seq ?_
    -- region 2
    refine JC.region ?_
    refine JL.val rfl rfl rfl (.none rfl) (Ev.assign rfl) ?_
    refine JL.nil ?_
    refine JQ.thenN ?_
    refine JC.ret ?_
    refine JQ.thenR ?_
    refine JQ.end1 (H' := []) (.inl rfl) rfl (.tmp rfl) ?_ ?_
    · repeat (first | exact Sub.nil | refine Sub.cons (by first | exact .here | exact .there .here | exact .there (.there .here) | exact .there (.there (.there .here)) | exact .there (.there (.there (.there .here)))) ?_)
    · simp
  · -- guard 17 false
    have hbl : ¬ 8292 < (lb.length : Int) := of_decide_eq_false hg1
    refine JL.val rfl rfl rfl (.yes rfl rfl rfl) (Ev.move rfl) ?_
    refine JL.callV rfl (.yes rfl rfl rfl) rfl Tryd.call12 (fun w1 hw1 => great_any oc lc.length capc w1) ?_
    refine JL.val rfl rfl rfl (.none rfl) (Ev.pickF rfl rfl) ?_
    refine JL.nil ?_
    refine JQ.thenN ?_
    refine JC.cond rfl (fun hc1 => ?_) (fun hc1 => ?_)
    · -- t20 True
      replace hc1 := of_decide_eq_true hc1
      refine JC.seq ?_
      -- region 2
      refine JC.region ?_
      refine JL.val rfl rfl rfl (.none rfl) (Ev.assign rfl) ?_
      refine JL.nil ?_
      refine JQ.thenN ?_
      refine JC.ret ?_
      refine JQ.thenR ?_
      refine JQ.end1 (H' := []) (.inl rfl) rfl (.tmp rfl) ?_ ?_
      · repeat (first | exact Sub.nil | refine Sub.cons (by first | exact .here | exact .there .here | exact .there (.there .here) | exact .there (.there (.there .here)) | exact .there (.there (.there (.there .here)))) ?_)
      · simp
    · -- t20 False
      replace hc1 := of_decide_eq_false hc1
      refine JC.skip ?_
      refine JQ.thenN ?_
      refine JC.seq ?_
      -- region 3
      refine JC.region ?_
      refine JL.val rfl rfl rfl (.none rfl) (Ev.move rfl) ?_
      refine JL.callN rfl (.none rfl) rfl Tryd.call13 (fun w1 hw1 => pad_any ob capb lb w1 (hb.old hw1) (by omega)) ?_
      rintro _ _ ⟨r0, rfl, rfl, hr0⟩
      refine JL.val rfl rfl rfl (.none rfl) (Ev.move rfl) ?_
      refine JL.val rfl rfl rfl (.none rfl) (Ev.extract rfl rfl) ?_
      refine JL.val rfl rfl rfl (.none rfl) (Ev.extract rfl rfl) ?_
      refine JL.val rfl rfl rfl (.none rfl) (Ev.assign rfl) ?_
      refine JL.val rfl rfl rfl (.none rfl) (Ev.assign rfl) ?_
      refine JL.nil ?_
      refine JQ.thenN ?_
      refine JC.seq ?_
      -- region 4
      refine JC.region ?_
      refine JL.val rfl rfl rfl (.none rfl) (Ev.move rfl) ?_
      refine JL.callN rfl (.none rfl) rfl Tryd.call14 (fun w1 hw1 => rpad_any ob capb lb w1 (hb.old hw1) (by omega)) ?_
      rintro _ _ ⟨r1, rfl, rfl, hr1⟩
      refine JL.val rfl rfl rfl (.none rfl) (Ev.move rfl) ?_
      refine JL.val rfl rfl rfl (.none rfl) (Ev.extract rfl rfl) ?_
      refine JL.val rfl rfl rfl (.none rfl) (Ev.extract rfl rfl) ?_
      refine JL.val rfl rfl rfl (.none rfl) (Ev.assign rfl) ?_
      refine JL.val rfl rfl rfl (.none rfl) (Ev.assign rfl) ?_
      refine JL.nil ?_
      refine JQ.thenN ?_
      refine JC.seq ?_
      -- region 5
      refine JC.region ?_
      refine JL.val rfl rfl rfl (.none rfl) (Ev.loadB rfl (by first | exact .head _ | exact .tail _ (.head _) | exact List.mem_append_right _ (.head _) | exact List.mem_append_right _ (List.mem_append_right _ (.head _)) | exact .tail _ (List.mem_append_right _ (List.mem_append_right _ (.head _))) | exact .tail _ (.tail _ (List.mem_append_right _ (List.mem_append_right _ (.head _))))) Tryd.underlying24 rfl Tryd.sizeOf24 rfl) ?_
      refine JL.val rfl rfl rfl (.none rfl) (Ev.move rfl) ?_
      refine JL.callV rfl (.none rfl) rfl Tryd.call15 (fun w1 hw1 => compress_any s oc capc lc w1 (hc.old hw1) (hk.old hw1)) ?_
      refine JL.val rfl rfl rfl (.none rfl) (Ev.move rfl) ?_
      refine JL.val rfl rfl rfl (.none rfl) (Ev.extract rfl rfl) ?_
      refine JL.val rfl rfl rfl (.none rfl) (Ev.extract rfl rfl) ?_
      refine JL.new rfl rfl rfl (.none rfl) (En.alloc Tryd.zeroValue24) (fun b11 hb11 => ?_)
      refine JL.sto rfl rfl (.none rfl) (Es.storeA rfl rfl Tryd.sizeOf24 (by first | exact .here | exact .there .here | exact .there (.there .here) | exact .there (.there (.there .here)) | exact .there (.there (.there (.there .here))) | exact .there (.there (.there (.there (.there .here))))) (by split <;> rfl) rfl (arr32_one _)) ?_
      refine JL.val rfl rfl rfl (.none rfl) (Ev.assign rfl) ?_
      refine JL.nil ?_
      refine JQ.thenN ?_
      refine JC.seq ?_
      -- region 6
      refine JC.region ?_
      refine JL.val rfl rfl rfl (.none rfl) (Ev.loadB rfl (by first | exact .head _ | exact .tail _ (.head _) | exact List.mem_append_right _ (.head _) | exact List.mem_append_right _ (List.mem_append_right _ (.head _)) | exact .tail _ (List.mem_append_right _ (List.mem_append_right _ (.head _))) | exact .tail _ (.tail _ (List.mem_append_right _ (List.mem_append_right _ (.head _))))) Tryd.underlying24 rfl Tryd.sizeOf24 rfl) ?_
      refine JL.val rfl rfl rfl (.none rfl) (Ev.move rfl) ?_
      refine JL.callV rfl (.none rfl) rfl Tryd.call16 (fun w1 hw1 => rcompress_any s oc capc lc w1 (hc.old hw1)) ?_
      refine JL.val rfl rfl rfl (.none rfl) (Ev.move rfl) ?_
      refine JL.val rfl rfl rfl (.none rfl) (Ev.extract rfl rfl) ?_
      refine JL.val rfl rfl rfl (.none rfl) (Ev.extract rfl rfl) ?_
      refine JL.new rfl rfl rfl (.none rfl) (En.alloc Tryd.zeroValue24) (fun b13 hb13 => ?_)
      refine JL.sto rfl rfl (.none rfl) (Es.storeA rfl rfl Tryd.sizeOf24 (by first | exact .here | exact .there .here | exact .there (.there .here) | exact .there (.there (.there .here)) | exact .there (.there (.there (.there .here))) | exact .there (.there (.there (.there (.there .here))))) (by split <;> rfl) rfl (arr32_one _)) ?_
      refine JL.val rfl rfl rfl (.none rfl) (Ev.assign rfl) ?_
      refine JL.nil ?_
      refine JQ.thenN ?_
      refine JC.seq ?_
      -- region 7
      refine JC.region ?_
      refine JL.val rfl rfl rfl (.none rfl) (Ev.move rfl) ?_
      refine JL.val rfl rfl rfl (.none rfl) (Ev.strR rfl Tryd.underlying22 Tryd.underlying9 Tryd.underlying5 hr0 (fun p hp => by first | exact List.mem_append_left _ hp | exact .tail _ (List.mem_append_left _ hp) | exact .tail _ (.tail _ (List.mem_append_left _ hp)) | exact .tail _ (.tail _ (List.mem_append_right _ (List.mem_append_left _ hp))) | exact List.mem_append_right _ (List.mem_append_left _ hp))) ?_
      refine JL.val rfl rfl rfl (.none rfl) (Ev.move rfl) ?_
      refine JL.val rfl rfl rfl (.none rfl) (Ev.strR rfl Tryd.underlying22 Tryd.underlying9 Tryd.underlying5 hr1 (fun p hp => by first | exact List.mem_append_left _ hp | exact .tail _ (List.mem_append_left _ hp) | exact .tail _ (.tail _ (List.mem_append_left _ hp)) | exact .tail _ (.tail _ (List.mem_append_right _ (List.mem_append_left _ hp))) | exact List.mem_append_right _ (List.mem_append_left _ hp))) ?_
      refine JL.val rfl rfl rfl (.none rfl) (Ev.bin rfl rfl eql_string) ?_
      refine JL.val rfl rfl rfl (.none rfl) (Ev.move rfl) ?_
      refine JL.know (d := 48) (b := true) rfl ?_ ?_
      · exact bytes_beq _
      refine JL.val rfl rfl rfl (.yes rfl rfl rfl) (Ev.move rfl) ?_
      refine JL.val rfl rfl rfl (.yes rfl rfl rfl) (Ev.move rfl) ?_
      refine JL.val rfl rfl rfl (.yes rfl rfl rfl) (Ev.bin rfl rfl eql_int) ?_
      refine JL.val rfl rfl rfl (.none rfl) (Ev.pickT rfl rfl) ?_
      refine JL.val rfl rfl rfl (.none rfl) (Ev.move rfl) ?_
      refine JL.know (d := 53) (b := true) rfl ?_ ?_
      · simp
      refine JL.val rfl rfl rfl (.yes rfl rfl rfl) (Ev.loadB rfl (by first | exact .head _ | exact .tail _ (.head _) | exact List.mem_append_right _ (.head _) | exact List.mem_append_right _ (List.mem_append_right _ (.head _)) | exact .tail _ (List.mem_append_right _ (List.mem_append_right _ (.head _))) | exact .tail _ (.tail _ (List.mem_append_right _ (List.mem_append_right _ (.head _))))) Tryd.underlying24 rfl Tryd.sizeOf24 (by split <;> rfl)) ?_
      refine JL.val rfl rfl rfl (.yes rfl rfl rfl) (Ev.loadB rfl (by first | exact .head _ | exact .tail _ (.head _) | exact List.mem_append_right _ (.head _) | exact List.mem_append_right _ (List.mem_append_right _ (.head _)) | exact .tail _ (List.mem_append_right _ (List.mem_append_right _ (.head _))) | exact .tail _ (.tail _ (List.mem_append_right _ (List.mem_append_right _ (.head _))))) Tryd.underlying24 rfl Tryd.sizeOf24 (by split <;> rfl)) ?_
      refine JL.val rfl rfl rfl (.yes rfl rfl rfl) (Ev.bin rfl rfl (eql_arr32 (n := 8) Tryd.underlying24 Tryd.underlying23 (by kernel_rfl) (by kernel_rfl) (by split <;> rfl) (by split <;> rfl))) ?_
      refine JL.val rfl rfl rfl (.none rfl) (Ev.pickT rfl rfl) ?_
      refine JL.val rfl rfl rfl (.none rfl) (Ev.move rfl) ?_
      refine JL.know (d := 58) (b := true) rfl ?_ ?_
      · simp
      refine JL.val rfl rfl rfl (.yes rfl rfl rfl) (Ev.move rfl) ?_
      refine JL.val rfl rfl rfl (.yes rfl rfl rfl) (Ev.move rfl) ?_
      refine JL.val rfl rfl rfl (.yes rfl rfl rfl) (Ev.bin rfl rfl eql_int) ?_
      refine JL.val rfl rfl rfl (.none rfl) (Ev.pickT rfl rfl) ?_
      refine JL.val rfl rfl rfl (.none rfl) (Ev.assign rfl) ?_
      refine JL.nil ?_
      refine JQ.thenN ?_
      refine JC.ret ?_
      refine JQ.end1 (H' := []) (.inl rfl) rfl (.tmp rfl) ?_ ?_
      · repeat (first | exact Sub.nil | refine Sub.cons (by first | exact .here | exact .there .here | exact .there (.there .here) | exact .there (.there (.there .here)) | exact .there (.there (.there (.there .here)))) ?_)
      · simp

end Go.Proofs.YteehmomhaaohhaaDoor
