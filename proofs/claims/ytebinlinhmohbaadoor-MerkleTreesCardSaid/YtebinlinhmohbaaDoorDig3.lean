/-
  The program's padding.
-/
import Derived.Test.YtebinlinhmohbaaDoorDig2
namespace Go.Proofs.YtebinlinhmohbaaDoor
open Go Go.RowKit
set_option maxRecDepth 100000

theorem lenBytes_take (n : Nat) {i : Nat} (hi : i < 8) : (lenBytes n).take (i + 1) = (lenBytes n).take i ++ [((UInt64.ofNat n * 8) >>> UInt64.ofNat (56 - 8 * i)).toUInt8] := by
  rcases (by omega : i = 0 ∨ i = 1 ∨ i = 2 ∨ i = 3 ∨ i = 4 ∨ i = 5 ∨ i = 6 ∨ i = 7) with h | h | h | h | h | h | h | h <;> subst h <;> rfl
theorem pad_sum (n z : Nat) : n + 9 + z = n + 1 + z + 8 := by omega

theorem clone_any (oa : Option Addr) (cap : Nat) (l : List UInt8) (w : World) (hb : Bs w oa cap l) (hl : l.length ≤ 1000000) :
    Calls Tryd.prog 55 #[.slice oa l.length cap] w (Ret w (fun v H => ∃ r, v = Row.v l.length r ∧ H = Row.b 5 r ∧ Row.ok 1 l.length (l.map u8) r)) := by
  refine enter (vs := [.slice oa l.length cap]) Tryd.func55 rfl Tryd.ntmps55 rfl ?_
  refine JC.seq ?_
  -- region 0
  refine JC.region ?_
  refine JL.val rfl rfl rfl (.none rfl) (Ev.assign rfl) ?_
  refine JL.nil ?_
  refine JQ.thenN ?_
  refine JC.seq ?_
  refine JC.seq ?_
  -- region 1
  refine JC.region ?_
  refine JL.val rfl rfl rfl (.none rfl) (Ev.move rfl) ?_
  refine JL.val rfl rfl rfl (.none rfl) (Ev.bin rfl rfl (eql_slice_nil Tryd.underlying71)) ?_
  refine JL.nil ?_
  refine JQ.thenN ?_
  refine JC.cond rfl (fun hc1 => ?_) (fun hc1 => ?_)
  · -- t4 True
    have hoa : oa = none := by simpa using hc1
    have hl0 : l = [] := List.eq_nil_of_length_eq_zero (by have := hb.le; have := hb.empty hoa; omega)
    refine JC.seq ?_
    -- region 2
    refine JC.region ?_
    refine JL.val rfl rfl rfl (.none rfl) (Ev.assign rfl) ?_
    refine JL.nil ?_
    refine JQ.thenN ?_
    refine JC.ret ?_
    refine JQ.thenR ?_
    refine JQ.end1 (H' := []) (.inl rfl) rfl (.tmp rfl) ?_ ?_
    · first | exact Sub.nil | exact Sub.all
    · exact ⟨none, by rw [hl0]; rfl, rfl, by rw [hl0]; exact ⟨rfl, rfl⟩⟩
  · -- t4 False
    refine JC.skip ?_
    refine JQ.thenN ?_
    refine JC.seq ?_
    -- region 3
    refine JC.region ?_
    refine JL.new rfl rfl rfl (.none rfl) (En.bsN (e := 5) rfl (fun _ => by kernel_rfl)) (fun b5 hb5 => ?_)
    refine JL.val rfl rfl rfl (.none rfl) (Ev.move rfl) ?_
    refine JL.gen rfl rfl rfl (.none rfl) (Eg.append (r := (some ⟨b5, 0, #[]⟩)) (n := 0) (m := l.length) (xs := []) (news := (l.map u8)) (z := (.int .u8 0)) (s := 1) (bytes := 1) rfl rfl rfl (by repeat (first | exact .last | exact .here | apply Cut.past | apply Cut.there)) Tryd.underlying71 (by kernel_rfl) rfl (by decide) (by decide) ⟨rfl, by simp, by simp, rfl, rfl⟩ (by simp) (fun a ha => Rds.old (hb.mem a ha)) (fun h => by have := hb.le; have := hb.empty h; omega) (u8s_one l) (by omega)) ?_
    rintro _ _ ⟨r1, rfl, rfl, hr1, hn1⟩
    refine JL.val rfl rfl rfl (.none rfl) (Ev.assign rfl) ?_
    refine JL.nil ?_
    refine JQ.thenN ?_
    refine JC.ret ?_
    refine JQ.end1 (H' := (Row.b 5 r1)) (.inl rfl) rfl (.tmp rfl) ?_ ?_
    · first | exact Sub.nil | exact Sub.all
    · exact ⟨r1, by rw [Nat.zero_add], rfl, by rw [Nat.zero_add] at hr1; exact hr1⟩

theorem padded_any (oa : Option Addr) (cap : Nat) (l : List UInt8) (w : World) (hb : Bs w oa cap l) (hl : l.length ≤ 1000000) :
    Calls Tryd.prog 47 #[.slice oa l.length cap] w (Ret w (fun v H => ∃ r : Row, v = Row.v (pad l).length (some r) ∧ H = Row.b 5 (some r) ∧ Row.ok 1 (pad l).length ((pad l).map u8) (some r))) := by
  refine enter (vs := [.slice oa l.length cap]) Tryd.func47 rfl Tryd.ntmps47 rfl ?_
  refine JC.seq ?_
  -- region 0
  refine JC.region ?_
  refine JL.val rfl rfl rfl (.none rfl) (Ev.assign rfl) ?_
  refine JL.nil ?_
  refine JQ.thenN ?_
  refine JC.seq ?_
  -- region 1
  refine JC.region ?_
  refine JL.val rfl rfl rfl (.none rfl) (Ev.move rfl) ?_
  refine JL.val rfl rfl rfl (.none rfl) (Ev.lenS rfl Tryd.underlying71) ?_
  refine JL.val rfl rfl rfl (.none rfl) (Ev.assign rfl) ?_
  refine JL.nil ?_
  refine JQ.thenN ?_
  refine JC.seq ?_
  -- region 2
  refine JC.region ?_
  refine JL.val rfl rfl rfl (.none rfl) (Ev.move rfl) ?_
  refine JL.callN rfl (.none rfl) rfl Tryd.call55 (fun w1 hw1 => clone_any oa cap l w1 (hb.old hw1) hl) ?_
  rintro _ _ ⟨r0, rfl, rfl, hr0⟩
  refine JL.new rfl rfl rfl (.none rfl) (En.bsN (e := 5) rfl (fun _ => by kernel_rfl)) (fun b10 hb10 => ?_)
  refine JL.gen rfl rfl rfl (.none rfl) (Eg.append1 (r := r0) (n := l.length) (m := 1) (xs := (l.map u8)) (news := [u8 128]) (z := (.int .u8 0)) (s := 1) (bytes := 1) rfl rfl rfl (by repeat (first | exact .last | exact .here | apply Cut.past | apply Cut.there)) Tryd.underlying71 (by kernel_rfl) rfl (by decide) (by decide) hr0 (Rds.all (by repeat (first | exact List.Mem.head _ | refine List.Mem.tail _ ?_ | refine List.mem_append_right _ ?_ | assumption))) rfl (by decide) (by intro u hu; simp at hu; subst hu; rfl) (by omega)) ?_
  rintro _ _ ⟨r1, rfl, rfl, hr1⟩
  refine JL.val rfl rfl rfl (.none rfl) (Ev.assign rfl) ?_
  refine JL.nil ?_
  refine JQ.thenN ?_
  refine JC.seq ?_
  -- region 3
  refine JC.region ?_
  refine JL.val rfl rfl rfl (.none rfl) (Ev.move rfl) ?_
  refine JL.val rfl rfl rfl (.none rfl) (Ev.move rfl) ?_
  refine JL.val rfl rfl rfl (.none rfl) (Ev.bin rfl rfl (add_i64 (by omega))) ?_
  refine JL.val rfl rfl rfl (.none rfl) (Ev.bin rfl rfl (rem_i64 (by omega))) ?_
  refine JL.val rfl rfl rfl (.none rfl) (Ev.bin rfl rfl (sub_i64 (by omega))) ?_
  refine JL.val rfl rfl rfl (.none rfl) (Ev.bin rfl rfl (rem_i64 (by omega))) ?_
  have hz : zeros l.length < 64 := by unfold zeros; omega
  refine JL.re (d := 17) (v' := .int .i64 ((zeros l.length : Nat) : Int)) rfl (congrArg (Value.int .i64) (by unfold zeros; omega)) ?_
  refine JL.gen rfl rfl rfl (.none rfl) (Eg.appendZs (r := r1) (n := l.length + 1) (k := zeros l.length) (xs := l.map u8 ++ [u8 128]) (z := (.int .u8 0)) (bytes := 1) rfl rfl rfl (by repeat (first | exact .last | exact .here | apply Cut.past | apply Cut.there)) Tryd.underlying71 Tryd.underlying3 (by kernel_rfl) rfl rfl (by decide) hr1 (by omega)) ?_
  rintro _ _ ⟨r2, rfl, rfl, hr2⟩
  refine JL.val rfl rfl rfl (.none rfl) (Ev.assign rfl) ?_
  refine JL.nil ?_
  refine JQ.thenN ?_
  refine JC.seq ?_
  refine JC.seq ?_
  -- region 4
  refine JC.region ?_
  refine JL.val rfl rfl rfl (.none rfl) (Ev.assign rfl) ?_
  refine JL.nil ?_
  refine JQ.thenN ?_
  refine JC.block ?_
  refine JC.loop (X := Nat × Row)
    (fun ⟨i, r⟩ => [(3, .int .i64 (l.length : Int)), (4, Row.v (l.length + 1 + zeros l.length + i) (some r)), (5, .int .i64 (56 - 8 * (i : Int)))])
    (fun ⟨i, r⟩ => Row.b 5 (some r))
    (fun ⟨i, r⟩ => i ≤ 8 ∧ Row.ok 1 (l.length + 1 + zeros l.length + i) ((l ++ [128] ++ List.replicate (zeros l.length) 0 ++ (lenBytes l.length).take i).map u8) (some r))
    (fun ⟨i, r⟩ => 8 - i) (0, r2) ?_ ?_ ?_ ?_
  · exact Keeps.get (by repeat (first | exact Keeps.nil | refine Keeps.cons rfl ?_))
  · repeat (first | exact Sub.nil | refine Sub.cons (by first | exact .here | exact .there .here | exact .there (.there .here)) ?_)
  · exact ⟨Nat.zero_le _, by simpa [List.map_append, List.append_assoc, u8] using hr2⟩
  rintro ⟨i, r⟩ ⟨hi, hr⟩
  have hz : zeros l.length < 64 := by unfold zeros; omega
  refine JC.seq ?_
  refine JC.seq ?_
  -- region 5
  refine JC.region ?_
  refine JL.val rfl rfl rfl (.none rfl) (Ev.move rfl) ?_
  refine JL.val rfl rfl rfl (.none rfl) (Ev.bin rfl rfl geq_int) ?_
  refine JL.nil ?_
  refine JQ.thenN ?_
  refine JC.cond rfl (fun hc1 => ?_) (fun hc1 => ?_)
  · -- t20 True
    replace hc1 := of_decide_eq_true hc1
    refine JC.skip ?_
    refine JQ.thenN ?_
    refine JC.seq ?_
    refine JC.block ?_
    -- region 7
    refine JC.region ?_
    refine JL.val rfl rfl rfl (.none rfl) (Ev.move rfl) ?_
    refine JL.val rfl rfl rfl (.none rfl) (Ev.move rfl) ?_
    refine JL.val rfl rfl rfl (.none rfl) (Ev.conv rfl (conv_i64_u64 Tryd.underlying3 Tryd.underlying89 (by omega))) ?_
    refine JL.val rfl rfl rfl (.none rfl) (Ev.bin rfl rfl (mul_u64 (y := 8))) ?_
    refine JL.val rfl rfl rfl (.none rfl) (Ev.move rfl) ?_
    refine JL.re (d := 27) (v' := .int .i64 ((56 - 8 * i : Nat) : Int)) rfl (congrArg (Value.int .i64) (by omega)) ?_
    refine JL.val rfl rfl rfl (.none rfl) (Ev.bin rfl rfl (shr_u64 (n := 56 - 8 * i) (by omega))) ?_
    refine JL.val rfl rfl rfl (.none rfl) (Ev.conv rfl (conv_u64_u8 Tryd.underlying89 Tryd.underlying5)) ?_
    refine JL.new rfl rfl rfl (.none rfl) (En.bsN (e := 5) rfl (fun _ => by kernel_rfl)) (fun b30 hb30 => ?_)
    refine JL.gen rfl rfl rfl (.none rfl) (Eg.append1 (r := (some r)) (n := l.length + 1 + zeros l.length + i) (m := 1) (xs := ((l ++ [128] ++ List.replicate (zeros l.length) 0 ++ (lenBytes l.length).take i).map u8)) (news := [u8 ((UInt64.ofNat l.length * 8) >>> UInt64.ofNat (56 - 8 * i)).toUInt8]) (z := (.int .u8 0)) (s := 1) (bytes := 1) rfl rfl rfl (by repeat (first | exact .last | exact .here | apply Cut.past | apply Cut.there)) Tryd.underlying71 (by kernel_rfl) rfl (by decide) (by decide) hr (Rds.all (by repeat (first | exact List.Mem.head _ | refine List.Mem.tail _ ?_ | refine List.mem_append_right _ ?_ | assumption))) rfl (by decide) (by intro u hu; simp at hu; subst hu; rfl) (by omega)) ?_
    rintro _ _ ⟨r3, rfl, rfl, hr3⟩
    refine JL.val rfl rfl rfl (.none rfl) (Ev.assign rfl) ?_
    refine JL.nil ?_
    refine JQ.blockN ?_
    refine JQ.thenN ?_
    -- region 6
    refine JC.region ?_
    refine JL.val rfl rfl rfl (.none rfl) (Ev.move rfl) ?_
    refine JL.val rfl rfl rfl (.none rfl) (Ev.bin rfl rfl (sub_i64 (by omega))) ?_
    refine JL.val rfl rfl rfl (.none rfl) (Ev.assign rfl) ?_
    refine JL.nil ?_
    refine JQ.re (d := 5) (v' := .int .i64 (56 - 8 * ((i + 1 : Nat) : Int))) rfl (congrArg (Value.int .i64) (by omega)) ?_
    refine JQ.loopN (i + 1, r3) ?_ ?_ ?_ ?_
    · exact Keeps.get (by repeat (first | exact Keeps.nil | refine Keeps.cons rfl ?_))
    · first | exact Sub.all | exact Sub.of_cnt (fun a => by (try dsimp only); simp only [cntA]; omega) | repeat (first | exact Sub.nil | refine Sub.cons (by first | exact .here | exact .there .here | exact .there (.there .here) | exact .there (.there (.there .here)) | exact .there (.there (.there (.there .here)))) ?_ | exact Sub.all)
    · exact ⟨by omega, by simpa [lenBytes_take _ (show i < 8 by omega), List.map_append, List.append_assoc, Nat.add_assoc] using hr3⟩
    · show 8 - (i + 1) < 8 - i; omega
  · -- t20 False
    replace hc1 := of_decide_eq_false hc1
    refine JC.exit ?_
    refine JQ.thenE ?_
    refine JQ.thenE ?_
    refine JQ.blockE ?_
    refine JQ.thenN ?_
    refine JC.seq ?_
    -- region 8
    refine JC.region ?_
    refine JL.val rfl rfl rfl (.none rfl) (Ev.move rfl) ?_
    refine JL.val rfl rfl rfl (.none rfl) (Ev.assign rfl) ?_
    refine JL.nil ?_
    refine JQ.thenN ?_
    refine JC.ret ?_
    obtain rfl : i = 8 := by omega
    refine JQ.end1 (H' := (Row.b 5 (some r))) (.inl rfl) rfl (.tmp rfl) ?_ ?_
    · first | exact Sub.all | exact Sub.of_cnt (fun a => by (try dsimp only); simp only [cntA]; omega) | repeat (first | exact Sub.nil | refine Sub.cons (by first | exact .here | exact .there .here | exact .there (.there .here) | exact .there (.there (.there .here)) | exact .there (.there (.there (.there .here)))) ?_ | exact Sub.all)
    · exact ⟨r, by rw [pad_length, pad_sum], rfl, by rw [pad_length, pad_sum]; exact hr⟩

end Go.Proofs.YtebinlinhmohbaaDoor
