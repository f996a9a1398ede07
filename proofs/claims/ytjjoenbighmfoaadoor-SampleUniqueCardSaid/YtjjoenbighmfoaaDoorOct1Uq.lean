/-
  Numbers as bytes: behind bytes that the caller holds, and by themselves.
-/
import Derived.Test.YtjjoenbighmfoaaDoorPackAUq
import Derived.Test.YtjjoenbighmfoaaDoorPackCUq
namespace Go.Proofs.YtjjoenbighmfoaaDoor
open Go Go.RowKit
set_option maxRecDepth 100000

def nDiv (n : UInt64) (i : Nat) : UInt64 := UInt64.ofNat (n.toNat / 256 ^ i)
theorem Row.sl {e : TypeId} {n : Nat} {xs : List Value} {r : Option Row} (h : Row.ok 1 n xs r) : ∃ oa cap, Row.v n r = .slice oa n cap ∧ (oa = none → n = 0) ∧ ∀ c H, (∀ p ∈ Row.b e r, p ∈ H) → ∀ a, oa = some a → Rds c H a xs := by
  cases r with
  | none =>
    obtain ⟨rfl, rfl⟩ := h
    exact ⟨none, 0, rfl, fun _ => rfl, fun _ _ _ a ha => by cases ha⟩
  | some r =>
    refine ⟨some ⟨r.g, 0, none⟩, r.cap, rfl, fun h => (by cases h), fun c H hm a ha => ?_⟩
    cases ha
    refine Rds.own (hm _ (List.mem_cons_self ..)) fun j v hj => ?_
    rw [← h.2.2.2.2, List.getElem?_take] at hj
    split at hj
    · simpa using hj
    · cases hj
theorem put_any (w0 w : World) (H0 : Blocks) (r : Option Row) (m : Nat) (xs : List UInt8) (n : UInt64) (size : Nat) (hs : size ≤ 8) (hm : m ≤ 1000000) (hr0 : Row.ok 1 m (xs.map u8) r) (hw : Hp w0 (Row.b 5 r ++ H0) w) :
    Calls Tryd.prog 67 #[Row.v m r, u64 n, .int .i64 (size : Int)] w (Ret w0 (fun v H => ∃ r1 : Option Row, v = Row.v (m + size) r1 ∧ H = Row.b 5 r1 ++ H0 ∧ Row.ok 1 (m + size) ((xs ++ be n size).map u8) r1)) := by
  refine enterAt (vs := [Row.v m r, u64 n, .int .i64 (size : Int)]) Tryd.func67 rfl Tryd.ntmps67 rfl hw ?_
  refine JC.seq ?_
  -- region 0
  refine JC.region ?_
  refine JL.val rfl rfl rfl (.none rfl) (Ev.assign rfl) ?_
  refine JL.nil ?_
  refine JQ.thenN ?_
  refine JC.seq ?_
  refine JC.seq ?_
  -- region 1
  refine JC.region ?_
  refine JL.val rfl rfl rfl (.none rfl) (Ev.move rfl) ?_
  refine JL.val rfl rfl rfl (.none rfl) (Ev.move rfl) ?_
  refine JL.nil ?_
  refine JQ.thenN ?_
  refine JC.block ?_
  refine JC.loop (X := Nat × Option Row)
    (fun ⟨i, q⟩ => [(0, Row.v (m + i) q), (1, u64 n), (2, .int .i64 (size : Int)), (8, .int .i64 (size : Int)), (9, .int .i64 (i : Int))])
    (fun ⟨i, q⟩ => Row.b 5 q ++ H0)
    (fun ⟨i, q⟩ => i ≤ size ∧ Row.ok 1 (m + i) ((xs ++ (be n size).take i).map u8) q)
    (fun ⟨i, q⟩ => size - i) (0, r) ?_ ?_ ?_ ?_
  · exact Keeps.get (by repeat (first | exact Keeps.nil | refine Keeps.cons rfl ?_))
  · exact Sub.all
  · exact ⟨Nat.zero_le _, by simpa using hr0⟩
  rintro ⟨i, q⟩ ⟨hi, hq⟩
  refine JC.seq ?_
  -- region 2
  refine JC.region ?_
  refine JL.val rfl rfl rfl (.none rfl) (Ev.bin rfl rfl lss_int) ?_
  refine JL.nil ?_
  refine JQ.thenN ?_
  refine JC.seq ?_
  refine JC.cond rfl (fun hc1 => ?_) (fun hc1 => ?_)
  · -- t10 True
    replace hc1 := of_decide_eq_true hc1
    refine JC.skip ?_
    refine JQ.thenN ?_
    refine JC.seq ?_
    refine JC.block ?_
    refine JC.seq ?_
    -- region 3
    refine JC.region ?_
    refine JL.val rfl rfl rfl (.none rfl) (Ev.move rfl) ?_
    refine JL.val rfl rfl rfl (.none rfl) (Ev.assign rfl) ?_
    refine JL.nil ?_
    refine JQ.thenN ?_
    -- region 4
    refine JC.region ?_
    refine JL.val rfl rfl rfl (.none rfl) (Ev.move rfl) ?_
    refine JL.val rfl rfl rfl (.none rfl) (Ev.move rfl) ?_
    refine JL.val rfl rfl rfl (.none rfl) (Ev.move rfl) ?_
    refine JL.val rfl rfl rfl (.none rfl) (Ev.bin rfl rfl (sub_i64 (by omega))) ?_
    refine JL.val rfl rfl rfl (.none rfl) (Ev.move rfl) ?_
    refine JL.val rfl rfl rfl (.none rfl) (Ev.bin rfl rfl (sub_i64 (by omega))) ?_
    refine JL.val rfl rfl rfl (.none rfl) (Ev.bin rfl rfl (mul_i64 (by omega))) ?_
    refine JL.re (d := 18) (v' := .int .i64 ((8 * (size - 1 - i) : Nat) : Int)) rfl (congrArg (Value.int .i64) (by omega)) ?_
    refine JL.val rfl rfl rfl (.none rfl) (Ev.bin rfl rfl (shr_u64 (n := 8 * (size - 1 - i)) (by omega))) ?_
    refine JL.val rfl rfl rfl (.none rfl) (Ev.conv rfl (conv_u64_u8 Tryd.underlying51 Tryd.underlying5)) ?_
    refine JL.new rfl rfl rfl (.none rfl) (En.bsN (e := 5) rfl (fun _ => by kernel_rfl)) (fun b21 hb21 => ?_)
    refine JL.gen rfl rfl rfl (.none rfl) (Eg.append1 (r := q) (n := (m + i)) (m := 1) (xs := ((xs ++ (be n size).take i).map u8)) (news := [u8 (n >>> UInt64.ofNat (8 * (size - 1 - i))).toUInt8]) (z := (.int .u8 0)) (s := 1) (bytes := 1) rfl rfl rfl (by repeat (first | exact .last | exact .here | apply Cut.past | apply Cut.there)) Tryd.underlying88 (by kernel_rfl) rfl (by decide) (by decide) hq (Rds.all (by repeat (first | exact List.Mem.head _ | refine List.Mem.tail _ ?_ | refine List.mem_append_right _ ?_ | assumption))) rfl (by decide) (by intro u hu; simp at hu; subst hu; rfl) (by omega)) ?_
    rintro _ _ ⟨q3, rfl, rfl, hq3⟩
    refine JL.val rfl rfl rfl (.none rfl) (Ev.assign rfl) ?_
    refine JL.nil ?_
    refine JQ.blockN ?_
    refine JQ.thenN ?_
    -- region 5
    refine JC.region ?_
    refine JL.val rfl rfl rfl (.none rfl) (Ev.bin rfl rfl (add_i64 (by omega))) ?_
    refine JL.val rfl rfl rfl (.none rfl) (Ev.move rfl) ?_
    refine JL.nil ?_
    refine JQ.loopN (i + 1, some q3) ?_ ?_ ?_ ?_
    · exact Keeps.get (by repeat (first | exact Keeps.nil | refine Keeps.cons rfl ?_))
    · exact Sub.rot
    · exact ⟨by omega, by rw [be_take_succ _ (show i < size by omega)]; simpa [List.map_append, List.append_assoc] using (show Row.ok 1 (m + (i + 1)) _ (some q3) from hq3)⟩
    · show size - (i + 1) < size - i; omega
  · -- t10 False
    replace hc1 := of_decide_eq_false hc1
    refine JC.exit ?_
    refine JQ.thenE ?_
    refine JQ.thenE ?_
    refine JQ.blockE ?_
    refine JQ.thenN ?_
    refine JC.seq ?_
    -- region 6
    refine JC.region ?_
    refine JL.val rfl rfl rfl (.none rfl) (Ev.move rfl) ?_
    refine JL.val rfl rfl rfl (.none rfl) (Ev.assign rfl) ?_
    refine JL.nil ?_
    refine JQ.thenN ?_
    refine JC.ret ?_
    obtain rfl : i = size := by omega
    refine JQ.end1 (H' := (Row.b 5 q ++ H0)) (.inl rfl) rfl (.tmp rfl) ?_ ?_
    · exact Sub.all
    · exact ⟨q, rfl, rfl, by rw [List.take_of_length_le (by rw [be_length]; exact Nat.le_refl _)] at hq; exact hq⟩

end Go.Proofs.YtjjoenbighmfoaaDoor
