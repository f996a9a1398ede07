/-
  A ballot's place and a place's number in the program; places drawn.
-/
import Derived.Test.YtjjoenbighmfoaaDoorSmp1Uq
namespace Go.Proofs.YtjjoenbighmfoaaDoor
open Go Go.RowKit
set_option maxRecDepth 100000

theorem Zs.take {w : World} {oa : Option Addr} {cap : Nat} {ss : List Int} {b : Nat} (h : Cs w oa ss.length cap (ints ss)) (hb : b ≤ ss.length) : Cs w oa (ss.take b).length cap (ints (ss.take b)) := by
  have hl : (ss.take b).length = b := by rw [List.length_take]; omega
  rw [hl]
  exact Cs.take (f := fun z : Int => Value.int .i64 z) h hb

theorem sAt_any (oa : Option Addr) (cap : Nat) (ss : List Int) (n : Int) (hnb : -9223372036854775808 ≤ n ∧ n ≤ 9223372036854775807) (w : World) (hs : Cs w oa ss.length cap (ints ss)) :
    Calls Tryd.prog 14 #[.slice oa ss.length cap, .int .i64 n] w (Ret w (fun v _ => v = .tuple #[.agg (plc (atV ss n)).toArray, .int .i64 (atE ss n)])) := by
  refine enter (vs := [.slice oa ss.length cap, .int .i64 n]) Tryd.func14 rfl Tryd.ntmps14 rfl ?_
  refine JC.seq ?_
  refine JC.region ?_
  refine JL.new rfl rfl rfl (.none rfl) (En.allocZ (cs := (plc (0, 0)).toArray) Tryd.zeroValue27 rfl) (fun b4 hb4 => ?_)
  refine JL.asg ?_
  refine JL.nil ?_
  refine JQ.thenN ?_
  refine JC.scope ?_
  refine JC.seq ?_
  refine JC.seq ?_
  refine JC.region ?_
  refine JL.mv ?_
  refine JL.callV rfl (.none rfl) rfl Tryd.call16 (fun w1 hw1 => sTotal_any oa cap ss w1 (hs.old hw1)) ?_
  refine JL.mv ?_
  refine JL.val rfl rfl rfl (.none rfl) (Ev.ex0 rfl) ?_
  refine JL.val rfl rfl rfl (.none rfl) (Ev.ex1 rfl) ?_
  refine JL.asg ?_
  refine JL.nil ?_
  refine JQ.thenN ?_
  refine JC.seq ?_
  refine JC.region ?_
  refine JL.mv ?_
  refine JL.val rfl rfl rfl (.none rfl) (Ev.bin rfl rfl neq_int) ?_
  refine JL.nil ?_
  refine JQ.thenN ?_
  refine JC.cond rfl (fun hc => ?_) (fun hc => ?_)
  · -- t15 True
    replace hc := of_decide_eq_true hc
    have hbad : ¬ okZ ss := fun h => by rw [mayE_ok h] at hc; omega
    refine JC.seq ?_
    refine JC.region ?_
    refine JL.val rfl rfl rfl (.none rfl) (Ev.loadB rfl memK Tryd.underlying27 rfl Tryd.sizeOf27 rfl) ?_
    refine JL.mv ?_
    refine JL.sto rfl rfl (.none rfl) (Es.storeA rfl rfl Tryd.sizeOf27 Upd.k rfl rfl (plc_one _)) ?_
    refine JL.asg ?_
    refine JL.nil ?_
    refine JQ.thenN ?_
    refine JC.ret ?_
    refine JQ.thenR ?_
    refine JQ.scR ?_
    refine JQ.end2 (H' := []) (.inl rfl) rfl (.agg rfl memK Tryd.underlying27 rfl Tryd.sizeOf27 rfl) (.tmp rfl) ?_ ?_
    · exact Sub.k
    · rw [atV_bad hbad, atE_bad hbad]
  · -- t15 False
    replace hc := of_decide_eq_false hc
    have hz : mayE ss = 0 := by omega
    have hok : okZ ss := mayE_zero hz
    have hal := allP_le hok
    have hall := allP_length hok
    have hsu := okZ_sum hok
    have hln := hok.1
    refine JC.skip ?_
    refine JQ.thenN ?_
    refine JC.seq ?_
    refine JC.seq ?_
    refine JC.region ?_
    refine JL.mv ?_
    refine JL.val rfl rfl rfl (.none rfl) (Ev.bin rfl rfl lss_int) ?_
    refine JL.nil ?_
    refine JQ.thenN ?_
    refine JC.cond rfl (fun hneg => ?_) (fun hneg => ?_)
    · -- t19 True
      replace hneg := of_decide_eq_true hneg
      have hno : atO ss n = none := atO_neg hneg
      refine JC.seq ?_
      refine JC.region ?_
      refine JL.val rfl rfl rfl (.none rfl) (Ev.loadB rfl memK Tryd.underlying27 rfl Tryd.sizeOf27 rfl) ?_
      refine JL.sto rfl rfl (.none rfl) (Es.storeA rfl rfl Tryd.sizeOf27 Upd.k rfl rfl (plc_one _)) ?_
      refine JL.asg ?_
      refine JL.nil ?_
      refine JQ.thenN ?_
      refine JC.ret ?_
      refine JQ.thenR ?_
      refine JQ.scR ?_
      refine JQ.end2 (H' := []) (.inl rfl) rfl (.agg rfl memK Tryd.underlying27 rfl Tryd.sizeOf27 rfl) (.tmp rfl) ?_ ?_
      · exact Sub.k
      · first | (rw [atV_none hok hno, atE_none hok hno]; done) | (rw [atV_some hok hso, atE_some hok hso]; done) | (exfalso; omega)
    · -- t19 False
      replace hneg := of_decide_eq_false hneg
      refine JC.skip ?_
      refine JQ.thenN ?_
      refine JC.seq ?_
      refine JC.label ?_
      refine JQ.thenN ?_
      refine JC.seq ?_
      refine JC.seq ?_
      refine JC.region ?_
      refine JL.mv ?_
      refine JL.val rfl rfl rfl (.none rfl) (Ev.lenS rfl Tryd.underlying28) ?_
      refine JL.mv ?_
      refine JL.nil ?_
      refine JQ.thenN ?_
      refine JC.block ?_
      refine JC.loop (X := Nat × Int)
        (fun ⟨i, m⟩ => [(0, .slice oa ss.length cap), (1, .int .i64 m), (4, .pointer (some ⟨b4, 0, none⟩)), (21, .slice oa ss.length cap), (22, .int .i64 (ss.length : Int)), (23, .int .i64 (i : Int))])
        (fun ⟨i, m⟩ => [(b4, Obj.cells (plc (0, 0)).toArray 27 (0, 0))])
        (fun ⟨i, m⟩ => i ≤ ss.length ∧ 0 ≤ m ∧ n = sumZ (ss.take i) + m ∧ (i = 0 ∨ i < ss.length))
        (fun ⟨i, m⟩ => ss.length - i) (0, n) ?_ ?_ ?_ ?_
      · exact Keeps.k
      · exact Sub.k
      · exact ⟨Nat.zero_le _, by omega, by show n = 0 + n; omega, .inl rfl⟩
      rintro ⟨i, m⟩ ⟨hi, hm0, hn, hlast⟩
      refine JC.seq ?_
      refine JC.region ?_
      refine JL.val rfl rfl rfl (.none rfl) (Ev.bin rfl rfl lss_int) ?_
      refine JL.nil ?_
      refine JQ.thenN ?_
      refine JC.seq ?_
      refine JC.cond rfl (fun hc1 => ?_) (fun hc1 => ?_)
      · -- t24 True
        replace hc1 := of_decide_eq_true hc1
        obtain ⟨a, rfl⟩ := hs.get_some (by omega)
        obtain ⟨x, hx⟩ := get_some (l := ss) (k := i) (by omega)
        have hxv := hok.2 x (List.mem_of_getElem? hx)
        have hst := sumZ_take hx
        have hsi := okZ_sum (okZ_take hok i)
        refine JC.skip ?_
        refine JQ.thenN ?_
        refine JC.seq ?_
        refine JC.block ?_
        refine JC.seq ?_
        refine JC.region ?_
        refine JL.mv ?_
        refine JL.val rfl rfl rfl (.none rfl) (Ev.idxS1 rfl rfl Tryd.underlying28 Tryd.sizeOf3 (k := i) rfl (by omega)) ?_
        refine JL.val rfl rfl rfl (.none rfl) (Ev.load1 rfl Tryd.underlying3 rfl ((Rds.old (hs.mem _ rfl)).at (k := i) (ints_get hx))) ?_
        refine JL.asg ?_
        refine JL.asg ?_
        refine JL.nil ?_
        refine JQ.thenN ?_
        refine JC.seq ?_
        refine JC.seq ?_
        refine JC.region ?_
        refine JL.mv ?_
        refine JL.mv ?_
        refine JL.nil ?_
        refine JQ.thenN ?_
        refine JC.block ?_
        refine JC.loop (X := Nat × Int)
          (fun ⟨j, m⟩ => [(0, .slice (some a) ss.length cap), (1, .int .i64 m), (4, .pointer (some ⟨b4, 0, none⟩)), (6, .int .i64 (i : Int)), (7, .int .i64 x), (21, .slice (some a) ss.length cap), (22, .int .i64 (ss.length : Int)), (23, .int .i64 (i : Int)), (28, .int .i64 x), (29, .int .i64 (j : Int))])
          (fun ⟨j, m⟩ => [(b4, Obj.cells (plc (0, 0)).toArray 27 (0, 0))])
          (fun ⟨j, m⟩ => (j : Int) ≤ x ∧ 0 ≤ m ∧ n = sumZ (ss.take i) + j + m)
          (fun ⟨j, m⟩ => x.toNat - j) (0, m) ?_ ?_ ?_ ?_
        · exact Keeps.k
        · exact Sub.k
        · exact ⟨by omega, hm0, by rw [hn]; omega⟩
        rintro ⟨j, m⟩ ⟨hj, hm0, hn⟩
        refine JC.seq ?_
        refine JC.region ?_
        refine JL.val rfl rfl rfl (.none rfl) (Ev.bin rfl rfl lss_int) ?_
        refine JL.nil ?_
        refine JQ.thenN ?_
        refine JC.seq ?_
        refine JC.cond rfl (fun hc2 => ?_) (fun hc2 => ?_)
        · -- t30 True
          replace hc2 := of_decide_eq_true hc2
          refine JC.skip ?_
          refine JQ.thenN ?_
          refine JC.seq ?_
          refine JC.block ?_
          refine JC.seq ?_
          refine JC.region ?_
          refine JL.mv ?_
          refine JL.asg ?_
          refine JL.nil ?_
          refine JQ.thenN ?_
          refine JC.seq ?_
          refine JC.seq ?_
          refine JC.region ?_
          refine JL.mv ?_
          refine JL.val rfl rfl rfl (.none rfl) (Ev.bin rfl rfl gtr_int) ?_
          refine JL.nil ?_
          refine JQ.thenN ?_
          refine JC.cond rfl (fun hc3 => ?_) (fun hc3 => ?_)
          · -- t33 True
            replace hc3 := of_decide_eq_true hc3
            refine JC.seq ?_
            refine JC.region ?_
            refine JL.mv ?_
            refine JL.val rfl rfl rfl (.none rfl) (Ev.bin rfl rfl (sub_i64 (by omega))) ?_
            refine JL.asg ?_
            refine JL.nil ?_
            refine JQ.thenN ?_
            refine JC.exit ?_
            refine JQ.thenE ?_
            refine JQ.blockE ?_
            refine JQ.thenN ?_
            refine JC.region ?_
            refine JL.val rfl rfl rfl (.none rfl) (Ev.bin rfl rfl (add_i64 (by omega))) ?_
            refine JL.mv ?_
            refine JL.nil ?_
            refine JQ.loopN (j + 1, m - 1) ?_ ?_ ?_ ?_
            · exact Keeps.k
            · exact Sub.k
            · exact ⟨by omega, by omega, by omega⟩
            · show x.toNat - (j + 1) < x.toNat - j; omega
          · -- t33 False
            replace hc3 := of_decide_eq_false hc3
            have hso : atO ss n = some ((i : Int), (j : Int)) := atO_at hok hx (by omega) (by omega)
            refine JC.skip ?_
            refine JQ.thenN ?_
            refine JC.seq ?_
            refine JC.region ?_
            refine JL.mv ?_
            refine JL.mv ?_
            refine JL.val rfl rfl rfl (.none rfl) (Ev.bu2 rfl rfl rfl rfl Tryd.underlying27 (fun _ => by kernel_rfl) Tryd.zeroValue27) ?_
            refine JL.sto rfl rfl (.none rfl) (Es.storeA rfl rfl Tryd.sizeOf27 Upd.k rfl rfl (plc_one ((i : Int), (j : Int)))) ?_
            refine JL.reH (b := b4) (o' := Obj.cells (plc ((i : Int), (j : Int))).toArray 27 (0, 0)) .here rfl ?_
            refine JL.nil ?_
            refine JQ.thenN ?_
            refine JC.exit ?_
            refine JQ.blockO rfl ?_
            refine JQ.thenE ?_
            refine JQ.thenE ?_
            refine JQ.blockO rfl ?_
            refine JQ.thenE ?_
            refine JQ.blockO rfl ?_
            refine JQ.thenE ?_
            refine JQ.thenE ?_
            refine JQ.blockE ?_
            refine JQ.thenN ?_
            refine JC.seq ?_
            refine JC.seq ?_
            refine JC.region ?_
            refine JL.mv ?_
            refine JL.val rfl rfl rfl (.none rfl) (Ev.lenS rfl Tryd.underlying28) ?_
            refine JL.val rfl rfl rfl (.none rfl) (Ev.bin rfl rfl eql_int) ?_
            refine JL.nil ?_
            refine JQ.thenN ?_
            refine JC.cond rfl (fun h00 => ?_) (fun h00 => ?_)
            · -- t49 True
              replace h00 := of_decide_eq_true h00
              have h01 : ss.length = 0 := by omega
              refine JC.seq ?_
              refine JC.region ?_
              refine JL.val rfl rfl rfl (.none rfl) (Ev.loadB rfl memK Tryd.underlying27 rfl Tryd.sizeOf27 rfl) ?_
              refine JL.sto rfl rfl (.none rfl) (Es.storeA rfl rfl Tryd.sizeOf27 Upd.k rfl rfl (plc_one _)) ?_
              refine JL.asg ?_
              refine JL.nil ?_
              refine JQ.thenN ?_
              refine JC.ret ?_
              refine JQ.thenR ?_
              refine JQ.scR ?_
              refine JQ.end2 (H' := []) (.inl rfl) rfl (.agg rfl memK Tryd.underlying27 rfl Tryd.sizeOf27 rfl) (.tmp rfl) ?_ ?_
              · exact Sub.k
              · first | (rw [atV_none hok hno, atE_none hok hno]; done) | (rw [atV_some hok hso, atE_some hok hso]; done) | (exfalso; omega)
            · -- t49 False
              replace h00 := of_decide_eq_false h00
              have h01 : ¬ ss.length = 0 := by omega
              refine JC.skip ?_
              refine JQ.thenN ?_
              refine JC.seq ?_
              refine JC.region ?_
              refine JL.val rfl rfl rfl (.none rfl) (Ev.loadB rfl memK Tryd.underlying27 rfl Tryd.sizeOf27 rfl) ?_
              refine JL.sto rfl rfl (.none rfl) (Es.storeA rfl rfl Tryd.sizeOf27 Upd.k rfl rfl (plc_one _)) ?_
              refine JL.asg ?_
              refine JL.nil ?_
              refine JQ.thenN ?_
              refine JC.ret ?_
              refine JQ.scR ?_
              refine JQ.end2 (H' := []) (.inl rfl) rfl (.agg rfl memK Tryd.underlying27 rfl Tryd.sizeOf27 rfl) (.tmp rfl) ?_ ?_
              · exact Sub.k
              · first | (rw [atV_none hok hno, atE_none hok hno]; done) | (rw [atV_some hok hso, atE_some hok hso]; done) | (exfalso; omega)
        · -- t30 False
          replace hc2 := of_decide_eq_false hc2
          have hjx : (j : Int) = x := by omega
          refine JC.exit ?_
          refine JQ.thenE ?_
          refine JQ.thenE ?_
          refine JQ.blockE ?_
          refine JQ.thenN ?_
          refine JC.seq ?_
          refine JC.region ?_
          refine JL.mv ?_
          refine JL.mv ?_
          refine JL.val rfl rfl rfl (.none rfl) (Ev.lenS rfl Tryd.underlying28) ?_
          refine JL.val rfl rfl rfl (.none rfl) (Ev.bin rfl rfl (sub_i64 (by omega))) ?_
          refine JL.val rfl rfl rfl (.none rfl) (Ev.bin rfl rfl eql_int) ?_
          refine JL.nil ?_
          refine JQ.thenN ?_
          refine JC.cond rfl (fun hc4 => ?_) (fun hc4 => ?_)
          · -- t44 True
            replace hc4 := of_decide_eq_true hc4
            have hno : atO ss n = none := atO_gr hok (by have hie : i + 1 = ss.length := (by omega); rw [hie, List.take_length] at hst; omega)
            refine JC.seq ?_
            refine JC.region ?_
            refine JL.val rfl rfl rfl (.none rfl) (Ev.loadB rfl memK Tryd.underlying27 rfl Tryd.sizeOf27 rfl) ?_
            refine JL.sto rfl rfl (.none rfl) (Es.storeA rfl rfl Tryd.sizeOf27 Upd.k rfl rfl (plc_one _)) ?_
            refine JL.asg ?_
            refine JL.nil ?_
            refine JQ.thenN ?_
            refine JC.ret ?_
            refine JQ.blockR ?_
            refine JQ.thenR ?_
            refine JQ.thenR ?_
            refine JQ.blockR ?_
            refine JQ.thenR ?_
            refine JQ.scR ?_
            refine JQ.end2 (H' := []) (.inl rfl) rfl (.agg rfl memK Tryd.underlying27 rfl Tryd.sizeOf27 rfl) (.tmp rfl) ?_ ?_
            · exact Sub.k
            · first | (rw [atV_none hok hno, atE_none hok hno]; done) | (rw [atV_some hok hso, atE_some hok hso]; done) | (exfalso; omega)
          · -- t44 False
            replace hc4 := of_decide_eq_false hc4
            refine JC.skip ?_
            refine JQ.blockN ?_
            refine JQ.thenN ?_
            refine JC.region ?_
            refine JL.val rfl rfl rfl (.none rfl) (Ev.bin rfl rfl (add_i64 (by omega))) ?_
            refine JL.mv ?_
            refine JL.nil ?_
            refine JQ.loopN (i + 1, m) ?_ ?_ ?_ ?_
            · exact Keeps.k
            · exact Sub.k
            · exact ⟨by omega, by omega, by omega, .inr (by omega)⟩
            · show ss.length - (i + 1) < ss.length - i; omega
      · -- t24 False
        replace hc1 := of_decide_eq_false hc1
        have hie : i = ss.length := by omega
        have h0 : ss.length = 0 := by omega
        have hno : atO ss n = none := atO_gr hok (by rw [hie, List.take_length] at hn; omega)
        refine JC.exit ?_
        refine JQ.thenE ?_
        refine JQ.thenE ?_
        refine JQ.blockE ?_
        refine JQ.thenN ?_
        refine JC.seq ?_
        refine JC.seq ?_
        refine JC.region ?_
        refine JL.mv ?_
        refine JL.val rfl rfl rfl (.none rfl) (Ev.lenS rfl Tryd.underlying28) ?_
        refine JL.val rfl rfl rfl (.none rfl) (Ev.bin rfl rfl eql_int) ?_
        refine JL.nil ?_
        refine JQ.thenN ?_
        refine JC.cond rfl (fun h00 => ?_) (fun h00 => ?_)
        · -- t49 True
          replace h00 := of_decide_eq_true h00
          have h01 : ss.length = 0 := by omega
          refine JC.seq ?_
          refine JC.region ?_
          refine JL.val rfl rfl rfl (.none rfl) (Ev.loadB rfl memK Tryd.underlying27 rfl Tryd.sizeOf27 rfl) ?_
          refine JL.sto rfl rfl (.none rfl) (Es.storeA rfl rfl Tryd.sizeOf27 Upd.k rfl rfl (plc_one _)) ?_
          refine JL.asg ?_
          refine JL.nil ?_
          refine JQ.thenN ?_
          refine JC.ret ?_
          refine JQ.thenR ?_
          refine JQ.scR ?_
          refine JQ.end2 (H' := []) (.inl rfl) rfl (.agg rfl memK Tryd.underlying27 rfl Tryd.sizeOf27 rfl) (.tmp rfl) ?_ ?_
          · exact Sub.k
          · first | (rw [atV_none hok hno, atE_none hok hno]; done) | (rw [atV_some hok hso, atE_some hok hso]; done) | (exfalso; omega)
        · -- t49 False
          replace h00 := of_decide_eq_false h00
          have h01 : ¬ ss.length = 0 := by omega
          refine JC.skip ?_
          refine JQ.thenN ?_
          refine JC.seq ?_
          refine JC.region ?_
          refine JL.val rfl rfl rfl (.none rfl) (Ev.loadB rfl memK Tryd.underlying27 rfl Tryd.sizeOf27 rfl) ?_
          refine JL.sto rfl rfl (.none rfl) (Es.storeA rfl rfl Tryd.sizeOf27 Upd.k rfl rfl (plc_one _)) ?_
          refine JL.asg ?_
          refine JL.nil ?_
          refine JQ.thenN ?_
          refine JC.ret ?_
          refine JQ.scR ?_
          refine JQ.end2 (H' := []) (.inl rfl) rfl (.agg rfl memK Tryd.underlying27 rfl Tryd.sizeOf27 rfl) (.tmp rfl) ?_ ?_
          · exact Sub.k
          · first | (rw [atV_none hok hno, atE_none hok hno]; done) | (rw [atV_some hok hso, atE_some hok hso]; done) | (exfalso; omega)

theorem sNumber_any (oa : Option Addr) (cap : Nat) (ss : List Int) (p : Pl) (w : World) (hs : Cs w oa ss.length cap (ints ss)) :
    Calls Tryd.prog 15 #[.slice oa ss.length cap, .agg (plc p).toArray] w (Ret w (fun v _ => v = .tuple #[.int .i64 (nuV ss p), .int .i64 (nuE ss p)])) := by
  refine enter (vs := [.slice oa ss.length cap, .agg (plc p).toArray]) Tryd.func15 rfl Tryd.ntmps15 rfl ?_
  refine JC.seq ?_
  refine JC.region ?_
  refine JL.new rfl rfl rfl (.none rfl) (En.boxA rfl) (fun b3 hb3 => ?_)
  refine JL.asg ?_
  refine JL.asg ?_
  refine JL.nil ?_
  refine JQ.thenN ?_
  refine JC.seq ?_
  refine JC.seq ?_
  refine JC.region ?_
  refine JL.mv ?_
  refine JL.callV rfl (.none rfl) rfl Tryd.call16 (fun w1 hw1 => sTotal_any oa cap ss w1 (hs.old hw1)) ?_
  refine JL.mv ?_
  refine JL.val rfl rfl rfl (.none rfl) (Ev.ex0 rfl) ?_
  refine JL.val rfl rfl rfl (.none rfl) (Ev.ex1 rfl) ?_
  refine JL.asg ?_
  refine JL.asg ?_
  refine JL.nil ?_
  refine JQ.thenN ?_
  refine JC.seq ?_
  refine JC.region ?_
  refine JL.mv ?_
  refine JL.val rfl rfl rfl (.none rfl) (Ev.bin rfl rfl neq_int) ?_
  refine JL.nil ?_
  refine JQ.thenN ?_
  refine JC.cond rfl (fun hc => ?_) (fun hc => ?_)
  · -- t16 True
    replace hc := of_decide_eq_true hc
    have hbad : ¬ okZ ss := fun h => by rw [mayE_ok h] at hc; omega
    refine JC.seq ?_
    refine JC.region ?_
    refine JL.mv ?_
    refine JL.asg ?_
    refine JL.asg ?_
    refine JL.nil ?_
    refine JQ.thenN ?_
    refine JC.ret ?_
    refine JQ.thenR ?_
    refine JQ.end2 (H' := []) (.inl rfl) rfl (.tmp rfl) (.tmp rfl) ?_ ?_
    · exact Sub.k
    · rw [nuV_bad hbad, nuE_bad hbad]
  · -- t16 False
    replace hc := of_decide_eq_false hc
    have hz : mayE ss = 0 := by omega
    have hok : okZ ss := mayE_zero hz
    have hal := allP_le hok
    have hall := allP_length hok
    have hsu := okZ_sum hok
    have hln := hok.1
    refine JC.skip ?_
    refine JQ.thenN ?_
    refine JC.seq ?_
    refine JC.seq ?_
    refine JC.regionQ (by kernel_rfl) (by kernel_rfl) ?_
    refine JW.val rfl rfl (.none rfl) (Ev.fld 0 rfl (fun _ _ => by kernel_rfl)) ?_
    refine JW.val rfl rfl (.none rfl) (Ev.load1 rfl Tryd.underlying3 rfl (Rd.own memK rfl)) ?_
    refine JW.val rfl rfl (.none rfl) (Ev.bin rfl rfl lss_int) ?_
    refine JW.val rfl rfl (.none rfl) (Ev.move rfl) ?_
    refine JW.split (d := 21) rfl (fun hA => ?_) (fun hA => ?_)
    · -- guard 21 true
      have hA := of_decide_eq_true hA
      have hnp : ¬ isP ss p := fun h => by obtain ⟨h1, h2, h3, h4⟩ := h; omega
      refine JW.skip rfl rfl (.noF rfl rfl rfl) ?_
      refine JW.skip rfl rfl (.noF rfl rfl rfl) ?_
      refine JW.skip rfl rfl (.noF rfl rfl rfl) ?_
      refine JW.skip rfl rfl (.noF rfl rfl rfl) ?_
      refine JW.skip rfl rfl (.noF rfl rfl rfl) ?_
      refine JW.val rfl rfl (.none rfl) (Ev.pickT rfl rfl) ?_
      refine JW.val rfl rfl (.none rfl) (Ev.move rfl) ?_
      refine JW.skip rfl rfl (.noF rfl rfl rfl) ?_
      refine JW.skip rfl rfl (.noF rfl rfl rfl) ?_
      refine JW.skip rfl rfl (.noF rfl rfl rfl) ?_
      refine JW.val rfl rfl (.none rfl) (Ev.pickT rfl rfl) ?_
      refine JW.val rfl rfl (.none rfl) (Ev.move rfl) ?_
      refine JW.skip rfl rfl (.noF rfl rfl rfl) ?_
      refine JW.skip rfl rfl (.noF rfl rfl rfl) ?_
      refine JW.skip rfl rfl (.noF rfl rfl rfl) ?_
      refine JW.skip rfl rfl (.noF rfl rfl rfl) ?_
      refine JW.skip rfl rfl (.noF rfl rfl rfl) ?_
      refine JW.skip rfl rfl (.noF rfl rfl rfl) ?_
      refine JW.skip rfl rfl (.noF rfl rfl rfl) ?_
      refine JW.skip rfl rfl (.noF rfl rfl rfl) ?_
      refine JW.val rfl rfl (.none rfl) (Ev.pickT rfl rfl) ?_
      refine JW.nilQ ?_
      refine JQ.thenN ?_
      refine JC.condT rfl ?_
      refine JC.seq ?_
      refine JC.region ?_
      refine JL.asg ?_
      refine JL.asg ?_
      refine JL.nil ?_
      refine JQ.thenN ?_
      refine JC.ret ?_
      refine JQ.thenR ?_
      refine JQ.end2 (H' := []) (.inl rfl) rfl (.tmp rfl) (.tmp rfl) ?_ ?_
      · exact Sub.k
      · first | (rw [nuV_no hnp, nuE_no hok hnp]; done) | (rw [nuV_ok hok hip, nuE_ok hok hip, hbe, Int.toNat_natCast]; done) | (rw [nuV_ok hok hip, nuE_ok hok hip, show p.1.toNat = b by omega]; done)
    · -- guard 21 false
      have hA := of_decide_eq_false hA
      refine JW.val rfl rfl (.yes rfl rfl rfl) (Ev.fld 0 rfl (fun _ _ => by kernel_rfl)) ?_
      refine JW.val rfl rfl (.yes rfl rfl rfl) (Ev.load1 rfl Tryd.underlying3 rfl (Rd.own memK rfl)) ?_
      refine JW.val rfl rfl (.yes rfl rfl rfl) (Ev.move rfl) ?_
      refine JW.val rfl rfl (.yes rfl rfl rfl) (Ev.lenS rfl Tryd.underlying28) ?_
      refine JW.val rfl rfl (.yes rfl rfl rfl) (Ev.bin rfl rfl geq_int) ?_
      refine JW.val rfl rfl (.none rfl) (Ev.pickF rfl rfl) ?_
      refine JW.val rfl rfl (.none rfl) (Ev.move rfl) ?_
      refine JW.split (d := 28) rfl (fun hB => ?_) (fun hB => ?_)
      · -- guard 28 true
        have hB := of_decide_eq_true hB
        have hnp : ¬ isP ss p := fun h => by obtain ⟨h1, h2, h3, h4⟩ := h; omega
        refine JW.skip rfl rfl (.noF rfl rfl rfl) ?_
        refine JW.skip rfl rfl (.noF rfl rfl rfl) ?_
        refine JW.skip rfl rfl (.noF rfl rfl rfl) ?_
        refine JW.val rfl rfl (.none rfl) (Ev.pickT rfl rfl) ?_
        refine JW.val rfl rfl (.none rfl) (Ev.move rfl) ?_
        refine JW.skip rfl rfl (.noF rfl rfl rfl) ?_
        refine JW.skip rfl rfl (.noF rfl rfl rfl) ?_
        refine JW.skip rfl rfl (.noF rfl rfl rfl) ?_
        refine JW.skip rfl rfl (.noF rfl rfl rfl) ?_
        refine JW.skip rfl rfl (.noF rfl rfl rfl) ?_
        refine JW.skip rfl rfl (.noF rfl rfl rfl) ?_
        refine JW.skip rfl rfl (.noF rfl rfl rfl) ?_
        refine JW.skip rfl rfl (.noF rfl rfl rfl) ?_
        refine JW.val rfl rfl (.none rfl) (Ev.pickT rfl rfl) ?_
        refine JW.nilQ ?_
        refine JQ.thenN ?_
        refine JC.condT rfl ?_
        refine JC.seq ?_
        refine JC.region ?_
        refine JL.asg ?_
        refine JL.asg ?_
        refine JL.nil ?_
        refine JQ.thenN ?_
        refine JC.ret ?_
        refine JQ.thenR ?_
        refine JQ.end2 (H' := []) (.inl rfl) rfl (.tmp rfl) (.tmp rfl) ?_ ?_
        · exact Sub.k
        · first | (rw [nuV_no hnp, nuE_no hok hnp]; done) | (rw [nuV_ok hok hip, nuE_ok hok hip, hbe, Int.toNat_natCast]; done) | (rw [nuV_ok hok hip, nuE_ok hok hip, show p.1.toNat = b by omega]; done)
      · -- guard 28 false
        have hB := of_decide_eq_false hB
        refine JW.val rfl rfl (.yes rfl rfl rfl) (Ev.fld 1 rfl (fun _ _ => by kernel_rfl)) ?_
        refine JW.val rfl rfl (.yes rfl rfl rfl) (Ev.load1 rfl Tryd.underlying3 rfl (Rd.own memK rfl)) ?_
        refine JW.val rfl rfl (.yes rfl rfl rfl) (Ev.bin rfl rfl lss_int) ?_
        refine JW.val rfl rfl (.none rfl) (Ev.pickF rfl rfl) ?_
        refine JW.val rfl rfl (.none rfl) (Ev.move rfl) ?_
        refine JW.split (d := 33) rfl (fun hC => ?_) (fun hC => ?_)
        · -- guard 33 true
          have hC := of_decide_eq_true hC
          have hnp : ¬ isP ss p := fun h => by obtain ⟨h1, h2, h3, h4⟩ := h; omega
          refine JW.skip rfl rfl (.noF rfl rfl rfl) ?_
          refine JW.skip rfl rfl (.noF rfl rfl rfl) ?_
          refine JW.skip rfl rfl (.noF rfl rfl rfl) ?_
          refine JW.skip rfl rfl (.noF rfl rfl rfl) ?_
          refine JW.skip rfl rfl (.noF rfl rfl rfl) ?_
          refine JW.skip rfl rfl (.noF rfl rfl rfl) ?_
          refine JW.skip rfl rfl (.noF rfl rfl rfl) ?_
          refine JW.skip rfl rfl (.noF rfl rfl rfl) ?_
          refine JW.val rfl rfl (.none rfl) (Ev.pickT rfl rfl) ?_
          refine JW.nilQ ?_
          refine JQ.thenN ?_
          refine JC.condT rfl ?_
          refine JC.seq ?_
          refine JC.region ?_
          refine JL.asg ?_
          refine JL.asg ?_
          refine JL.nil ?_
          refine JQ.thenN ?_
          refine JC.ret ?_
          refine JQ.thenR ?_
          refine JQ.end2 (H' := []) (.inl rfl) rfl (.tmp rfl) (.tmp rfl) ?_ ?_
          · exact Sub.k
          · first | (rw [nuV_no hnp, nuE_no hok hnp]; done) | (rw [nuV_ok hok hip, nuE_ok hok hip, hbe, Int.toNat_natCast]; done) | (rw [nuV_ok hok hip, nuE_ok hok hip, show p.1.toNat = b by omega]; done)
        · -- guard 33 false
          have hC := of_decide_eq_false hC
          obtain ⟨b, hbe⟩ : ∃ b : Nat, p.1 = (b : Int) := ⟨p.1.toNat, by omega⟩
          obtain ⟨a, rfl⟩ := hs.get_some (by omega)
          obtain ⟨x, hx⟩ := get_some (l := ss) (k := b) (by omega)
          refine JW.val rfl rfl (.yes rfl rfl rfl) (Ev.fld 1 rfl (fun _ _ => by kernel_rfl)) ?_
          refine JW.val rfl rfl (.yes rfl rfl rfl) (Ev.load1 rfl Tryd.underlying3 rfl (Rd.own memK rfl)) ?_
          refine JW.val rfl rfl (.yes rfl rfl rfl) (Ev.move rfl) ?_
          refine JW.val rfl rfl (.yes rfl rfl rfl) (Ev.fld 0 rfl (fun _ _ => by kernel_rfl)) ?_
          refine JW.val rfl rfl (.yes rfl rfl rfl) (Ev.load1 rfl Tryd.underlying3 rfl (Rd.own memK rfl)) ?_
          refine JW.val rfl rfl (.yes rfl rfl rfl) (Ev.idxS1 rfl rfl Tryd.underlying28 Tryd.sizeOf3 (k := b) hbe (by omega)) ?_
          refine JW.val rfl rfl (.yes rfl rfl rfl) (Ev.load1 rfl Tryd.underlying3 rfl ((Rds.old (hs.mem _ rfl)).at (k := b) (ints_get hx))) ?_
          refine JW.val rfl rfl (.yes rfl rfl rfl) (Ev.bin rfl rfl geq_int) ?_
          refine JW.val rfl rfl (.none rfl) (Ev.pickF rfl rfl) ?_
          refine JW.nilQ ?_
          refine JQ.thenN ?_
          refine JC.cond rfl (fun hc1 => ?_) (fun hc1 => ?_)
          · -- t42 True
            replace hc1 := of_decide_eq_true hc1
            have hnp : ¬ isP ss p := fun h => by obtain ⟨h1, h2, h3, h4⟩ := h; have e1 : p.1.toNat = b := (by omega); rw [e1, List.getD_eq_getElem?_getD, hx] at h4; exact absurd h4 (by show ¬ p.2 < x; omega)
            refine JC.seq ?_
            refine JC.region ?_
            refine JL.asg ?_
            refine JL.asg ?_
            refine JL.nil ?_
            refine JQ.thenN ?_
            refine JC.ret ?_
            refine JQ.thenR ?_
            refine JQ.end2 (H' := []) (.inl rfl) rfl (.tmp rfl) (.tmp rfl) ?_ ?_
            · exact Sub.k
            · first | (rw [nuV_no hnp, nuE_no hok hnp]; done) | (rw [nuV_ok hok hip, nuE_ok hok hip, hbe, Int.toNat_natCast]; done) | (rw [nuV_ok hok hip, nuE_ok hok hip, show p.1.toNat = b by omega]; done)
          · -- t42 False
            replace hc1 := of_decide_eq_false hc1
            have hip : isP ss p := ⟨by omega, by omega, by omega, (by have e1 : p.1.toNat = b := (by omega); rw [e1, List.getD_eq_getElem?_getD, hx]; show p.2 < x; omega)⟩
            have hb64 := hok.2 x (List.mem_of_getElem? hx)
            have htl : (ss.take b).length = b := by rw [List.length_take]; omega
            have hokt := okZ_take hok b
            have hst := okZ_sum hokt
            refine JC.skip ?_
            refine JQ.thenN ?_
            refine JC.seq ?_
            refine JC.region ?_
            refine JL.mv ?_
            refine JL.val rfl rfl rfl (.none rfl) (Ev.fld 0 rfl (fun _ _ => by kernel_rfl)) ?_
            refine JL.val rfl rfl rfl (.none rfl) (Ev.load1 rfl Tryd.underlying3 rfl (Rd.own memK rfl)) ?_
            refine JL.val rfl rfl rfl (.none rfl) (Ev.cast (v' := .slice (some a) (ss.take b).length cap) (by rw [sub3_0, htl]) (Ev.sliceHi rfl rfl Tryd.underlying28 Tryd.sizeOf3 (h := b) hbe (by have := hs.le; omega))) ?_
            refine JL.callV rfl (.none rfl) rfl Tryd.call16 (fun w1 hw1 => sTotal_any (some a) cap (ss.take b) w1 (Zs.take (hs.old hw1) (by omega))) ?_
            refine JL.mv ?_
            refine JL.val rfl rfl rfl (.none rfl) (Ev.ex0 rfl) ?_
            refine JL.val rfl rfl rfl (.none rfl) (Ev.ex1 rfl) ?_
            refine JL.asg ?_
            refine JL.asg ?_
            refine JL.nil ?_
            refine JQ.thenN ?_
            refine JC.seq ?_
            refine JC.region ?_
            refine JL.re (d := 8) (v' := .int .i64 (sumZ (ss.take b))) rfl (congrArg (Value.int .i64) (totV_ok hokt)) ?_
            refine JL.mv ?_
            refine JL.val rfl rfl rfl (.none rfl) (Ev.fld 1 rfl (fun _ _ => by kernel_rfl)) ?_
            refine JL.val rfl rfl rfl (.none rfl) (Ev.load1 rfl Tryd.underlying3 rfl (Rd.own memK rfl)) ?_
            refine JL.val rfl rfl rfl (.none rfl) (Ev.bin rfl rfl (add_i64 (by omega))) ?_
            refine JL.asg ?_
            refine JL.asg ?_
            refine JL.nil ?_
            refine JQ.thenN ?_
            refine JC.ret ?_
            refine JQ.end2 (H' := []) (.inl rfl) rfl (.tmp rfl) (.tmp rfl) ?_ ?_
            · exact Sub.k
            · first | (rw [nuV_no hnp, nuE_no hok hnp]; done) | (rw [nuV_ok hok hip, nuE_ok hok hip, hbe, Int.toNat_natCast]; done) | (rw [nuV_ok hok hip, nuE_ok hok hip, show p.1.toNat = b by omega]; done)

end Go.Proofs.YtjjoenbighmfoaaDoor
