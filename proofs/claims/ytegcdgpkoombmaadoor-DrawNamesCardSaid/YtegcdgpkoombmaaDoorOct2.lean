/-
  Fields: a length of two bytes and the bytes; in the program and in the reference.
-/
import Derived.Test.YtegcdgpkoombmaaDoorOct1
import Derived.Test.YtegcdgpkoombmaaDoorPart
namespace Go.Proofs.YtegcdgpkoombmaaDoor
open Go Go.RowKit
set_option maxRecDepth 100000

def putF (lb lf : List UInt8) : List UInt8 := if 65535 < lf.length ∨ 16384 < lb.length + 2 + lf.length then [] else lb ++ fieldB lf
theorem putF_bad {lb lf : List UInt8} (h : 65535 < lf.length ∨ 16384 < lb.length + 2 + lf.length) : putF lb lf = [] := if_pos h
theorem putF_ok {lb lf : List UInt8} (h : ¬ (65535 < lf.length ∨ 16384 < lb.length + 2 + lf.length)) : putF lb lf = lb ++ fieldB lf := if_neg h
theorem putF_len (lb lf : List UInt8) : (lb ++ fieldB lf).length = lb.length + 2 + lf.length := by rw [List.length_append, fieldB_length]; omega

theorem twin_any (oa : Option Addr) (cap : Nat) (l : List UInt8) (w : World) (hb : Bs w oa cap l) (hl : l.length ≤ 100000) :
    Calls Tryd.prog 11 #[.slice oa l.length cap] w (Ret w (fun v H => ∃ r1 : Option Row, v = Row.v l.length r1 ∧ H = Row.b 5 r1 ∧ Row.ok 1 l.length (l.map u8) r1)) := by
  refine enter (vs := [.slice oa l.length cap]) Tryd.func11 rfl Tryd.ntmps11 rfl ?_
  refine JC.seq ?_
  -- region 0
  refine JC.region ?_
  refine JL.val rfl rfl rfl (.none rfl) (Ev.assign rfl) ?_
  refine JL.nil ?_
  refine JQ.thenN ?_
  refine JC.seq ?_
  -- region 1
  refine JC.region ?_
  refine JL.val rfl rfl rfl (.none rfl) (Ev.move rfl) ?_
  refine JL.gen rfl rfl rfl (.none rfl) (Eg.append (r := none) (n := 0) (m := l.length) (xs := []) (news := (l.map u8)) (z := (.int .u8 0)) (s := 1) (bytes := 1) rfl rfl rfl (by repeat (first | exact .last | exact .here | apply Cut.past | apply Cut.there)) Tryd.underlying23 (by kernel_rfl) rfl (by decide) (by decide) ⟨rfl, rfl⟩ (by simp) (fun a ha => Rds.old (hb.mem a ha)) (fun h => by have := hb.le; have := hb.empty h; omega) (u8s_one _) (by omega)) ?_
  rintro _ _ ⟨r1, rfl, rfl, hr1, hn1⟩
  refine JL.val rfl rfl rfl (.none rfl) (Ev.assign rfl) ?_
  refine JL.nil ?_
  refine JQ.thenN ?_
  refine JC.ret ?_
  refine JQ.end1 (H' := (Row.b 5 r1)) (.inl rfl) rfl (.tmp rfl) ?_ ?_
  · exact Sub.all
  · exact ⟨r1, by rw [Nat.zero_add], rfl, by rw [Nat.zero_add] at hr1; exact hr1⟩

theorem field_any (oa : Option Addr) (cap : Nat) (l : List UInt8) (w : World) (hb : Bs w oa cap l) (hl : l.length ≤ 100000) :
    Calls Tryd.prog 36 #[.slice oa l.length cap] w (Ret w (fun v H => ∃ r1 : Option Row, v = Row.v (fieldB l).length r1 ∧ H = Row.b 5 r1 ∧ Row.ok 1 (fieldB l).length ((fieldB l).map u8) r1)) := by
  refine enter (vs := [.slice oa l.length cap]) Tryd.func36 rfl Tryd.ntmps36 rfl ?_
  refine JC.seq ?_
  -- region 0
  refine JC.region ?_
  refine JL.val rfl rfl rfl (.none rfl) (Ev.assign rfl) ?_
  refine JL.nil ?_
  refine JQ.thenN ?_
  refine JC.seq ?_
  -- region 1
  refine JC.region ?_
  refine JL.val rfl rfl rfl (.none rfl) (Ev.move rfl) ?_
  refine JL.val rfl rfl rfl (.none rfl) (Ev.lenS rfl Tryd.underlying23) ?_
  refine JL.val rfl rfl rfl (.none rfl) (Ev.conv rfl (conv_i64_u64 Tryd.underlying3 Tryd.underlying34 (by omega))) ?_
  refine JL.callN rfl (.none rfl) rfl Tryd.call48 (fun w1 hw1 => digits_any (UInt64.ofNat l.length) 2 w1 (by decide)) ?_
  rintro _ _ ⟨r0, rfl, rfl, hr0⟩
  refine JL.val rfl rfl rfl (.none rfl) (Ev.move rfl) ?_
  refine JL.gen rfl rfl rfl (.none rfl) (Eg.append (r := r0) (n := 2) (m := l.length) (xs := ((be (UInt64.ofNat l.length) 2).map u8)) (news := (l.map u8)) (z := (.int .u8 0)) (s := 1) (bytes := 1) rfl rfl rfl (by repeat (first | exact .last | exact .here | apply Cut.past | apply Cut.there)) Tryd.underlying23 (by kernel_rfl) rfl (by decide) (by decide) hr0 (by simp) (fun a ha => Rds.old (hb.mem a ha)) (fun h => by have := hb.le; have := hb.empty h; omega) (u8s_one _) (by omega)) ?_
  rintro _ _ ⟨r1, rfl, rfl, hr1, hn1⟩
  refine JL.val rfl rfl rfl (.none rfl) (Ev.assign rfl) ?_
  refine JL.nil ?_
  refine JQ.thenN ?_
  refine JC.ret ?_
  refine JQ.end1 (H' := (Row.b 5 r1)) (.inl rfl) rfl (.tmp rfl) ?_ ?_
  · exact Sub.all
  · exact ⟨r1, by rw [fieldB_length], rfl, by rw [fieldB_length]; simpa [fieldB] using hr1⟩

theorem putField_any (ob of : Option Addr) (capb capf : Nat) (lb lf : List UInt8) (w : World) (hb : Bs w ob capb lb) (hbf : Bs w of capf lf) (hlb : lb.length ≤ 100000) (hlf : lf.length ≤ 1000000) :
    Calls Tryd.prog 34 #[.slice ob lb.length capb, .slice of lf.length capf] w (Ret w (fun v H => ∃ r1 : Option Row, v = .tuple #[Row.v (putF lb lf).length r1, .int .i64 (if (65535 < lf.length ∨ 16384 < lb.length + 2 + lf.length) then 4 else 0)] ∧ H = Row.b 5 r1 ∧ Row.ok 1 (putF lb lf).length ((putF lb lf).map u8) r1)) := by
  refine enter (vs := [.slice ob lb.length capb, .slice of lf.length capf]) Tryd.func34 rfl Tryd.ntmps34 rfl ?_
  refine JC.seq ?_
  -- region 0
  refine JC.region ?_
  refine JL.val rfl rfl rfl (.none rfl) (Ev.assign rfl) ?_
  refine JL.val rfl rfl rfl (.none rfl) (Ev.assign rfl) ?_
  refine JL.nil ?_
  refine JQ.thenN ?_
  refine JC.seq ?_
  refine JC.seq ?_
  -- region 1
  refine JC.region ?_
  refine JL.val rfl rfl rfl (.none rfl) (Ev.move rfl) ?_
  refine JL.val rfl rfl rfl (.none rfl) (Ev.lenS rfl Tryd.underlying23) ?_
  refine JL.val rfl rfl rfl (.none rfl) (Ev.bin rfl rfl gtr_int) ?_
  refine JL.val rfl rfl rfl (.none rfl) (Ev.move rfl) ?_
  refine JL.split (d := 9) rfl (fun hg1 => ?_) (fun hg1 => ?_)
  · -- guard 9 true
    have hbad : (65535 < lf.length ∨ 16384 < lb.length + 2 + lf.length) := .inl (by have := of_decide_eq_true hg1; omega)
    refine JL.skip rfl rfl (.noF rfl rfl rfl) ?_
    refine JL.skip rfl rfl (.noF rfl rfl rfl) ?_
    refine JL.skip rfl rfl (.noF rfl rfl rfl) ?_
    refine JL.skip rfl rfl (.noF rfl rfl rfl) ?_
    refine JL.skip rfl rfl (.noF rfl rfl rfl) ?_
    refine JL.skip rfl rfl (.noF rfl rfl rfl) ?_
    refine JL.skip rfl rfl (.noF rfl rfl rfl) ?_
    refine JL.val rfl rfl rfl (.none rfl) (Ev.pickT rfl rfl) ?_
    refine JL.nil ?_
    refine JQ.thenN ?_
    refine JC.condT rfl ?_
    refine JC.seq ?_
    -- region 2
    refine JC.region ?_
    refine JL.val rfl rfl rfl (.none rfl) (Ev.assign rfl) ?_
    refine JL.val rfl rfl rfl (.none rfl) (Ev.assign rfl) ?_
    refine JL.nil ?_
    refine JQ.thenN ?_
    refine JC.ret ?_
    refine JQ.thenR ?_
    refine JQ.end2 (H' := []) (.inl rfl) rfl (.tmp rfl) (.tmp rfl) ?_ ?_
    · exact Sub.all
    · exact ⟨none, by rw [putF_bad hbad, if_pos hbad]; rfl, rfl, by rw [putF_bad hbad]; exact ⟨rfl, rfl⟩⟩
  · -- guard 9 false
    have hnb := of_decide_eq_false hg1
    refine JL.val rfl rfl rfl (.yes rfl rfl rfl) (Ev.move rfl) ?_
    refine JL.val rfl rfl rfl (.yes rfl rfl rfl) (Ev.lenS rfl Tryd.underlying23) ?_
    refine JL.val rfl rfl rfl (.yes rfl rfl rfl) (Ev.bin rfl rfl (add_i64 (by omega))) ?_
    refine JL.val rfl rfl rfl (.yes rfl rfl rfl) (Ev.move rfl) ?_
    refine JL.val rfl rfl rfl (.yes rfl rfl rfl) (Ev.lenS rfl Tryd.underlying23) ?_
    refine JL.val rfl rfl rfl (.yes rfl rfl rfl) (Ev.bin rfl rfl (add_i64 (by omega))) ?_
    refine JL.val rfl rfl rfl (.yes rfl rfl rfl) (Ev.bin rfl rfl gtr_int) ?_
    refine JL.val rfl rfl rfl (.none rfl) (Ev.pickF rfl rfl) ?_
    refine JL.nil ?_
    refine JQ.thenN ?_
    refine JC.cond rfl (fun hc1 => ?_) (fun hc1 => ?_)
    · -- t17 True
      have hbad : (65535 < lf.length ∨ 16384 < lb.length + 2 + lf.length) := .inr (by have := of_decide_eq_true hc1; omega)
      refine JC.seq ?_
      -- region 2
      refine JC.region ?_
      refine JL.val rfl rfl rfl (.none rfl) (Ev.assign rfl) ?_
      refine JL.val rfl rfl rfl (.none rfl) (Ev.assign rfl) ?_
      refine JL.nil ?_
      refine JQ.thenN ?_
      refine JC.ret ?_
      refine JQ.thenR ?_
      refine JQ.end2 (H' := []) (.inl rfl) rfl (.tmp rfl) (.tmp rfl) ?_ ?_
      · exact Sub.all
      · exact ⟨none, by rw [putF_bad hbad, if_pos hbad]; rfl, rfl, by rw [putF_bad hbad]; exact ⟨rfl, rfl⟩⟩
    · -- t17 False
      have hok : ¬ (65535 < lf.length ∨ 16384 < lb.length + 2 + lf.length) := by have := of_decide_eq_false hc1; omega
      refine JC.skip ?_
      refine JQ.thenN ?_
      refine JC.seq ?_
      -- region 3
      refine JC.region ?_
      refine JL.val rfl rfl rfl (.none rfl) (Ev.move rfl) ?_
      refine JL.callN rfl (.none rfl) rfl Tryd.call44 (fun w1 hw1 => clone_any ob capb lb w1 (hb.old hw1) (by omega)) ?_
      rintro _ _ ⟨r0, rfl, rfl, hr0⟩
      refine JL.val rfl rfl rfl (.none rfl) (Ev.move rfl) ?_
      refine JL.val rfl rfl rfl (.none rfl) (Ev.lenS rfl Tryd.underlying23) ?_
      refine JL.val rfl rfl rfl (.none rfl) (Ev.conv rfl (conv_i64_u64 Tryd.underlying3 Tryd.underlying34 (by omega))) ?_
      refine JL.call rfl (.none rfl) rfl Tryd.call43 (fun w1 hw1 => put_any w w1 [] r0 lb.length lb (UInt64.ofNat lf.length) 2 (by decide) (by omega) hr0 hw1) ?_
      rintro _ _ ⟨r1, rfl, rfl, hr1⟩
      refine JL.val rfl rfl rfl (.none rfl) (Ev.move rfl) ?_
      refine JL.gen rfl rfl rfl (.none rfl) (Eg.append (r := r1) (n := (lb.length + 2)) (m := lf.length) (xs := ((lb ++ be (UInt64.ofNat lf.length) 2).map u8)) (news := (lf.map u8)) (z := (.int .u8 0)) (s := 1) (bytes := 1) rfl rfl rfl (by repeat (first | exact .last | exact .here | apply Cut.past | apply Cut.there)) Tryd.underlying23 (by kernel_rfl) rfl (by decide) (by decide) hr1 (by simp) (fun a ha => Rds.old (hbf.mem a ha)) (fun h => by have := hbf.le; have := hbf.empty h; omega) (u8s_one _) (by omega)) ?_
      rintro _ _ ⟨r2, rfl, rfl, hr2, hn1⟩
      refine JL.val rfl rfl rfl (.none rfl) (Ev.assign rfl) ?_
      refine JL.val rfl rfl rfl (.none rfl) (Ev.assign rfl) ?_
      refine JL.nil ?_
      refine JQ.thenN ?_
      refine JC.ret ?_
      refine JQ.end2 (H' := (Row.b 5 r2)) (.inl rfl) rfl (.tmp rfl) (.tmp rfl) ?_ ?_
      · exact Sub.all
      · exact ⟨r2, by rw [putF_ok hok, if_neg hok, putF_len], rfl, by rw [putF_ok hok, putF_len]; simpa [fieldB, List.append_assoc] using hr2⟩

end Go.Proofs.YtegcdgpkoombmaaDoor
