/-
  The reference's padding; padding and compression with their errors, in the program and in the reference.
-/
import Derived.Test.YtebinlinhmohbaaDoorRef1
import Derived.Test.YtebinlinhmohbaaDoorDig3
namespace Go.Proofs.YtebinlinhmohbaaDoor
open Go Go.RowKit
set_option maxRecDepth 100000

def padO (l : List UInt8) : List UInt8 := if 8192 < l.length then [] else pad l
theorem padO_big {l : List UInt8} (h : 8192 < l.length) : padO l = [] := if_pos h
theorem padO_small {l : List UInt8} (h : ¬ 8192 < l.length) : padO l = pad l := if_neg h

theorem rpadded_any (oa : Option Addr) (cap : Nat) (l : List UInt8) (w : World) (hb : Bs w oa cap l) (hl : l.length ≤ 1000000) :
    Calls Tryd.prog 52 #[.slice oa l.length cap] w (Ret w (fun v H => ∃ r : Row, v = Row.v (pad l).length (some r) ∧ H = Row.b 5 (some r) ∧ Row.ok 1 (pad l).length ((pad l).map u8) (some r))) := by
  refine enter (vs := [.slice oa l.length cap]) Tryd.func52 rfl Tryd.ntmps52 rfl ?_
  refine JC.seq ?_
  -- region 0
  refine JC.region ?_
  refine JL.val rfl rfl rfl (.none rfl) (Ev.assign rfl) ?_
  refine JL.nil ?_
  refine JQ.thenN ?_
  refine JC.seq ?_
  -- region 1
  refine JC.region ?_
  refine JL.new rfl rfl rfl (.none rfl) (En.bsN (e := 5) rfl (fun _ => by kernel_rfl)) (fun b6 hb6 => ?_)
  refine JL.val rfl rfl rfl (.none rfl) (Ev.move rfl) ?_
  refine JL.gen rfl rfl rfl (.none rfl) (Eg.append (r := (some ⟨b6, 0, #[]⟩)) (n := 0) (m := l.length) (xs := []) (news := (l.map u8)) (z := (.int .u8 0)) (s := 1) (bytes := 1) rfl rfl rfl (by repeat (first | exact .last | exact .here | apply Cut.past | apply Cut.there)) Tryd.underlying71 (by kernel_rfl) rfl (by decide) (by decide) ⟨rfl, by simp, by simp, rfl, rfl⟩ (by simp) (fun a ha => Rds.old (hb.mem a ha)) (fun h => by have := hb.le; have := hb.empty h; omega) (u8s_one l) (by omega)) ?_
  rintro _ _ ⟨r1, rfl, rfl, hr1, hn1⟩
  refine JL.val rfl rfl rfl (.none rfl) (Ev.assign rfl) ?_
  refine JL.nil ?_
  refine JQ.thenN ?_
  refine JC.seq ?_
  -- region 2
  refine JC.region ?_
  refine JL.val rfl rfl rfl (.none rfl) (Ev.move rfl) ?_
  refine JL.new rfl rfl rfl (.none rfl) (En.bsN (e := 5) rfl (fun _ => by kernel_rfl)) (fun b10 hb10 => ?_)
  refine JL.gen rfl rfl rfl (.none rfl) (Eg.append1 (r := r1) (n := (0 + l.length)) (m := 1) (xs := ([] ++ l.map u8)) (news := [u8 128]) (z := (.int .u8 0)) (s := 1) (bytes := 1) rfl rfl rfl (by repeat (first | exact .last | exact .here | apply Cut.past | apply Cut.there)) Tryd.underlying71 (by kernel_rfl) rfl (by decide) (by decide) hr1 (Rds.all (by repeat (first | exact List.Mem.head _ | refine List.Mem.tail _ ?_ | refine List.mem_append_right _ ?_ | assumption))) rfl (by decide) (by intro u hu; simp at hu; subst hu; rfl) (by omega)) ?_
  rintro _ _ ⟨r2, rfl, rfl, hr2⟩
  refine JL.val rfl rfl rfl (.none rfl) (Ev.assign rfl) ?_
  refine JL.nil ?_
  refine JQ.thenN ?_
  refine JC.seq ?_
  refine JC.block ?_
  refine JC.loop (X := Nat × Row)
    (fun ⟨i, r⟩ => [(0, .slice oa l.length cap), (3, Row.v (l.length + 1 + i) (some r))])
    (fun ⟨i, r⟩ => Row.b 5 (some r))
    (fun ⟨i, r⟩ => i ≤ zeros l.length ∧ Row.ok 1 (l.length + 1 + i) ((l ++ [128] ++ List.replicate i 0).map u8) (some r))
    (fun ⟨i, r⟩ => zeros l.length - i) (0, r2) ?_ ?_ ?_ ?_
  · exact Keeps.get (by first | exact Keeps.cons rfl (Keeps.cons (congrArg (fun n => some (Row.v n (some r2))) (by omega)) Keeps.nil))
  · repeat (first | exact Sub.nil | refine Sub.cons (by first | exact .here | exact .there .here | exact .there (.there .here)) ?_)
  · exact ⟨Nat.zero_le _, by simpa [List.map_append, List.append_assoc, u8] using hr2⟩
  rintro ⟨i, r⟩ ⟨hi, hr⟩
  have hz : zeros l.length < 64 := by unfold zeros; omega
  refine JC.seq ?_
  refine JC.seq ?_
  -- region 3
  refine JC.region ?_
  refine JL.val rfl rfl rfl (.none rfl) (Ev.move rfl) ?_
  refine JL.val rfl rfl rfl (.none rfl) (Ev.lenS rfl Tryd.underlying71) ?_
  refine JL.val rfl rfl rfl (.none rfl) (Ev.bin rfl rfl (add_i64 (by omega))) ?_
  refine JL.val rfl rfl rfl (.none rfl) (Ev.bin rfl rfl (rem_i64 (by omega))) ?_
  refine JL.val rfl rfl rfl (.none rfl) (Ev.bin rfl rfl neq_int) ?_
  refine JL.nil ?_
  refine JQ.thenN ?_
  refine JC.cond rfl (fun hc1 => ?_) (fun hc1 => ?_)
  · -- t16 True
    replace hc1 := of_decide_eq_true hc1
    have hne : (l.length + 1 + i + 8) % 64 ≠ 0 := by omega
    have hlt : i < zeros l.length := by unfold zeros at hi ⊢; omega
    refine JC.skip ?_
    refine JQ.thenN ?_
    refine JC.block ?_
    -- region 4
    refine JC.region ?_
    refine JL.val rfl rfl rfl (.none rfl) (Ev.move rfl) ?_
    refine JL.new rfl rfl rfl (.none rfl) (En.bsN (e := 5) rfl (fun _ => by kernel_rfl)) (fun b18 hb18 => ?_)
    refine JL.gen rfl rfl rfl (.none rfl) (Eg.append1 (r := (some r)) (n := l.length + 1 + i) (m := 1) (xs := ((l ++ [128] ++ List.replicate i 0).map u8)) (news := [u8 0]) (z := (.int .u8 0)) (s := 1) (bytes := 1) rfl rfl rfl (by repeat (first | exact .last | exact .here | apply Cut.past | apply Cut.there)) Tryd.underlying71 (by kernel_rfl) rfl (by decide) (by decide) hr (Rds.all (by repeat (first | exact List.Mem.head _ | refine List.Mem.tail _ ?_ | refine List.mem_append_right _ ?_ | assumption))) rfl (by decide) (by intro u hu; simp at hu; subst hu; rfl) (by omega)) ?_
    rintro _ _ ⟨r3, rfl, rfl, hr3⟩
    refine JL.val rfl rfl rfl (.none rfl) (Ev.assign rfl) ?_
    refine JL.nil ?_
    refine JQ.blockN ?_
    refine JQ.loopN (i + 1, r3) ?_ ?_ ?_ ?_
    · exact Keeps.get (by repeat (first | exact Keeps.nil | refine Keeps.cons rfl ?_))
    · first | exact Sub.all | exact Sub.of_cnt (fun a => by (try dsimp only); simp only [cntA]; omega) | repeat (first | exact Sub.nil | refine Sub.cons (by first | exact .here | exact .there .here | exact .there (.there .here) | exact .there (.there (.there .here)) | exact .there (.there (.there (.there .here)))) ?_ | exact Sub.all)
    · exact ⟨by omega, by simpa [List.map_append, List.append_assoc, Nat.add_assoc, List.replicate_succ', u8] using hr3⟩
    · show zeros l.length - (i + 1) < zeros l.length - i; omega
  · -- t16 False
    replace hc1 := of_decide_eq_false hc1
    have hne : (l.length + 1 + i + 8) % 64 = 0 := by omega
    obtain rfl : i = zeros l.length := by unfold zeros at hi ⊢; omega
    refine JC.exit ?_
    refine JQ.thenE ?_
    refine JQ.thenE ?_
    refine JQ.blockE ?_
    refine JQ.thenN ?_
    refine JC.seq ?_
    -- region 5
    refine JC.region ?_
    refine JL.val rfl rfl rfl (.none rfl) (Ev.move rfl) ?_
    refine JL.val rfl rfl rfl (.none rfl) (Ev.lenS rfl Tryd.underlying71) ?_
    refine JL.val rfl rfl rfl (.none rfl) (Ev.conv rfl (conv_i64_u64 Tryd.underlying3 Tryd.underlying89 (by omega))) ?_
    refine JL.val rfl rfl rfl (.none rfl) (Ev.bin rfl rfl (mul_u64 (y := 8))) ?_
    refine JL.val rfl rfl rfl (.none rfl) (Ev.assign rfl) ?_
    refine JL.nil ?_
    refine JQ.thenN ?_
    refine JC.seq ?_
    refine JC.seq ?_
    -- region 6
    refine JC.region ?_
    refine JL.val rfl rfl rfl (.none rfl) (Ev.assign rfl) ?_
    refine JL.nil ?_
    refine JQ.thenN ?_
    refine JC.block ?_
    refine JC.loop (X := Nat × Row)
      (fun ⟨i, r⟩ => [(3, Row.v (l.length + 1 + zeros l.length + i) (some r)), (4, u64 (UInt64.ofNat l.length * 8)), (5, .int .i64 (i : Int))])
      (fun ⟨i, r⟩ => Row.b 5 (some r))
      (fun ⟨i, r⟩ => i ≤ 8 ∧ Row.ok 1 (l.length + 1 + zeros l.length + i) ((l ++ [128] ++ List.replicate (zeros l.length) 0 ++ (lenBytes l.length).take i).map u8) (some r))
      (fun ⟨i, r⟩ => 8 - i) (0, r) ?_ ?_ ?_ ?_
    · exact Keeps.get (by repeat (first | exact Keeps.nil | refine Keeps.cons rfl ?_))
    · repeat (first | exact Sub.nil | refine Sub.cons (by first | exact .here | exact .there .here | exact .there (.there .here)) ?_)
    · exact ⟨Nat.zero_le _, by simpa [List.map_append, List.append_assoc] using hr⟩
    rintro ⟨i, r⟩ ⟨hi, hr⟩
    have hz : zeros l.length < 64 := by unfold zeros; omega
    refine JC.seq ?_
    refine JC.seq ?_
    -- region 7
    refine JC.region ?_
    refine JL.val rfl rfl rfl (.none rfl) (Ev.move rfl) ?_
    refine JL.val rfl rfl rfl (.none rfl) (Ev.bin rfl rfl lss_int) ?_
    refine JL.nil ?_
    refine JQ.thenN ?_
    refine JC.cond rfl (fun hc2 => ?_) (fun hc2 => ?_)
    · -- t25 True
      replace hc2 := of_decide_eq_true hc2
      refine JC.skip ?_
      refine JQ.thenN ?_
      refine JC.seq ?_
      refine JC.block ?_
      -- region 9
      refine JC.region ?_
      refine JL.val rfl rfl rfl (.none rfl) (Ev.move rfl) ?_
      refine JL.val rfl rfl rfl (.none rfl) (Ev.move rfl) ?_
      refine JL.val rfl rfl rfl (.none rfl) (Ev.move rfl) ?_
      refine JL.val rfl rfl rfl (.none rfl) (Ev.bin rfl rfl (mul_i64 (by omega))) ?_
      refine JL.val rfl rfl rfl (.none rfl) (Ev.bin rfl rfl (sub_i64 (by omega))) ?_
      refine JL.re (d := 32) (v' := .int .i64 ((56 - 8 * i : Nat) : Int)) rfl (congrArg (Value.int .i64) (by omega)) ?_
      refine JL.val rfl rfl rfl (.none rfl) (Ev.bin rfl rfl (shr_u64 (n := 56 - 8 * i) (by omega))) ?_
      refine JL.val rfl rfl rfl (.none rfl) (Ev.conv rfl (conv_u64_u8 Tryd.underlying89 Tryd.underlying5)) ?_
      refine JL.new rfl rfl rfl (.none rfl) (En.bsN (e := 5) rfl (fun _ => by kernel_rfl)) (fun b35 hb35 => ?_)
      refine JL.gen rfl rfl rfl (.none rfl) (Eg.append1 (r := (some r)) (n := l.length + 1 + zeros l.length + i) (m := 1) (xs := ((l ++ [128] ++ List.replicate (zeros l.length) 0 ++ (lenBytes l.length).take i).map u8)) (news := [u8 ((UInt64.ofNat l.length * 8) >>> UInt64.ofNat (56 - 8 * i)).toUInt8]) (z := (.int .u8 0)) (s := 1) (bytes := 1) rfl rfl rfl (by repeat (first | exact .last | exact .here | apply Cut.past | apply Cut.there)) Tryd.underlying71 (by kernel_rfl) rfl (by decide) (by decide) hr (Rds.all (by repeat (first | exact List.Mem.head _ | refine List.Mem.tail _ ?_ | refine List.mem_append_right _ ?_ | assumption))) rfl (by decide) (by intro u hu; simp at hu; subst hu; rfl) (by omega)) ?_
      rintro _ _ ⟨r3, rfl, rfl, hr3⟩
      refine JL.val rfl rfl rfl (.none rfl) (Ev.assign rfl) ?_
      refine JL.nil ?_
      refine JQ.blockN ?_
      refine JQ.thenN ?_
      -- region 8
      refine JC.region ?_
      refine JL.val rfl rfl rfl (.none rfl) (Ev.move rfl) ?_
      refine JL.val rfl rfl rfl (.none rfl) (Ev.bin rfl rfl (add_i64 (by omega))) ?_
      refine JL.val rfl rfl rfl (.none rfl) (Ev.assign rfl) ?_
      refine JL.nil ?_
      refine JQ.loopN (i + 1, r3) ?_ ?_ ?_ ?_
      · exact Keeps.get (by repeat (first | exact Keeps.nil | refine Keeps.cons rfl ?_))
      · first | exact Sub.all | exact Sub.of_cnt (fun a => by (try dsimp only); simp only [cntA]; omega) | repeat (first | exact Sub.nil | refine Sub.cons (by first | exact .here | exact .there .here | exact .there (.there .here) | exact .there (.there (.there .here)) | exact .there (.there (.there (.there .here)))) ?_ | exact Sub.all)
      · exact ⟨by omega, by simpa [lenBytes_take _ (show i < 8 by omega), List.map_append, List.append_assoc, Nat.add_assoc] using hr3⟩
      · show 8 - (i + 1) < 8 - i; omega
    · -- t25 False
      replace hc2 := of_decide_eq_false hc2
      refine JC.exit ?_
      refine JQ.thenE ?_
      refine JQ.thenE ?_
      refine JQ.blockE ?_
      refine JQ.thenN ?_
      refine JC.seq ?_
      -- region 10
      refine JC.region ?_
      refine JL.val rfl rfl rfl (.none rfl) (Ev.move rfl) ?_
      refine JL.val rfl rfl rfl (.none rfl) (Ev.assign rfl) ?_
      refine JL.nil ?_
      refine JQ.thenN ?_
      refine JC.ret ?_
      obtain rfl : i = 8 := by omega
      refine JQ.end1 (H' := (Row.b 5 (some r))) (.inl rfl) rfl (.tmp rfl) ?_ ?_
      · first | exact Sub.all | exact Sub.of_cnt (fun a => by (try dsimp only); simp only [cntA]; omega) | repeat (first | exact Sub.nil | refine Sub.cons (by first | exact .here | exact .there .here | exact .there (.there .here) | exact .there (.there (.there .here)) | exact .there (.there (.there (.there .here)))) ?_ | exact Sub.all)
      · exact ⟨r, by rw [pad_length, pad_sum], rfl, by rw [pad_length, pad_sum]; exact hr⟩

end Go.Proofs.YtebinlinhmohbaaDoor
