/-
  Numbers as bytes: behind bytes that the caller holds, and by themselves.
-/
import Derived.Test.YtjjoenbighmfoaaDoorPackAPo
import Derived.Test.YtjjoenbighmfoaaDoorPackCPo
namespace Go.Proofs.YtjjoenbighmfoaaDoor
open Go Go.RowKit
set_option maxRecDepth 100000

def nDiv (n : UInt64) (i : Nat) : UInt64 := UInt64.ofNat (n.toNat / 256 ^ i)
theorem nDiv_toNat (n : UInt64) (i : Nat) : (nDiv n i).toNat = n.toNat / 256 ^ i := by
  have h1 : n.toNat / 256 ^ i ≤ n.toNat := Nat.div_le_self _ _
  have h2 := n.toNat_lt
  unfold nDiv
  rw [UInt64.toNat_ofNat']
  exact Nat.mod_eq_of_lt (by omega)
theorem nDiv_zero (n : UInt64) : nDiv n 0 = n := by
  apply UInt64.toNat_inj.1
  rw [nDiv_toNat]
  simp
theorem nDiv_succ (n : UInt64) (i : Nat) : nDiv n i / 256 = nDiv n (i + 1) := by
  apply UInt64.toNat_inj.1
  rw [UInt64.toNat_div, nDiv_toNat, nDiv_toNat, Nat.pow_succ, ← Nat.div_div_eq_div_mul]
  rfl
theorem nDiv_byte (n : UInt64) {i : Nat} (hi : i < 8) : (nDiv n i % 256).toUInt8 = (n >>> UInt64.ofNat (8 * i)).toUInt8 := by
  apply UInt8.toNat_inj.1
  rw [UInt64.toNat_toUInt8, UInt64.toNat_toUInt8, UInt64.toNat_mod, nDiv_toNat, UInt64.toNat_shiftRight]
  have e : (UInt64.ofNat (8 * i)).toNat % 64 = 8 * i := by rw [UInt64.toNat_ofNat']; omega
  rw [e, Nat.shiftRight_eq_div_pow, Nat.pow_mul]
  show n.toNat / 256 ^ i % 256 % 256 = _
  simp
theorem Row.sl {e : TypeId} {n : Nat} {xs : List Value} {r : Option Row} (h : Row.ok 1 n xs r) : ∃ oa cap, Row.v n r = .slice oa n cap ∧ (oa = none → n = 0) ∧ ∀ c H, (∀ p ∈ Row.b e r, p ∈ H) → ∀ a, oa = some a → Rds c H a xs := by
  cases r with
  | none =>
    obtain ⟨rfl, rfl⟩ := h
    exact ⟨none, 0, rfl, fun _ => rfl, fun _ _ _ a ha => by cases ha⟩
  | some r =>
    refine ⟨some ⟨r.g, 0, none⟩, r.cap, rfl, fun h => (by cases h), fun c H hm a ha => ?_⟩
    cases ha
    refine Rds.own (hm _ (List.mem_cons_self ..)) fun j v hj => ?_
    rw [← h.2.2.2.2, List.getElem?_take] at hj
    split at hj
    · simpa using hj
    · cases hj
theorem Sub.tailAll {A B : Blocks} : Sub B (A ++ B) := by
  induction A with
  | nil => exact Sub.all
  | cons x A ih =>
    have key : ∀ (B C : Blocks), Sub B C → Sub B (x :: C) := by
      intro B C h
      induction h with
      | nil => exact .nil
      | all => exact Sub.drop1
      | cons hp _ ih => exact .cons (.there hp) ih
    exact key _ _ ih

theorem put_any (w0 w : World) (H0 : Blocks) (r : Option Row) (m : Nat) (xs : List UInt8) (n : UInt64) (size : Nat) (hs : size ≤ 8) (hm : m ≤ 1000000) (hr0 : Row.ok 1 m (xs.map u8) r) (hw : Hp w0 (Row.b 5 r ++ H0) w) :
    Calls Tryd.prog 67 #[Row.v m r, u64 n, .int .i64 (size : Int)] w (Ret w0 (fun v H => ∃ r1 : Option Row, v = Row.v (m + size) r1 ∧ H = Row.b 5 r1 ++ H0 ∧ Row.ok 1 (m + size) ((xs ++ be n size).map u8) r1)) := by
  refine enterAt (vs := [Row.v m r, u64 n, .int .i64 (size : Int)]) Tryd.func67 rfl Tryd.ntmps67 rfl hw ?_
  refine JC.seq ?_
  -- region 0
  refine JC.region ?_
  refine JL.val rfl rfl rfl (.none rfl) (Ev.assign rfl) ?_
  refine JL.nil ?_
  refine JQ.thenN ?_
  refine JC.seq ?_
  refine JC.seq ?_
  -- region 1
  refine JC.region ?_
  refine JL.val rfl rfl rfl (.none rfl) (Ev.move rfl) ?_
  refine JL.val rfl rfl rfl (.none rfl) (Ev.move rfl) ?_
  refine JL.nil ?_
  refine JQ.thenN ?_
  refine JC.block ?_
  refine JC.loop (X := Nat × Option Row)
    (fun ⟨i, q⟩ => [(0, Row.v (m + i) q), (1, u64 n), (2, .int .i64 (size : Int)), (8, .int .i64 (size : Int)), (9, .int .i64 (i : Int))])
    (fun ⟨i, q⟩ => Row.b 5 q ++ H0)
    (fun ⟨i, q⟩ => i ≤ size ∧ Row.ok 1 (m + i) ((xs ++ (be n size).take i).map u8) q)
    (fun ⟨i, q⟩ => size - i) (0, r) ?_ ?_ ?_ ?_
  · exact Keeps.get (by repeat (first | exact Keeps.nil | refine Keeps.cons rfl ?_))
  · exact Sub.all
  · exact ⟨Nat.zero_le _, by simpa using hr0⟩
  rintro ⟨i, q⟩ ⟨hi, hq⟩
  refine JC.seq ?_
  -- region 2
  refine JC.region ?_
  refine JL.val rfl rfl rfl (.none rfl) (Ev.bin rfl rfl lss_int) ?_
  refine JL.nil ?_
  refine JQ.thenN ?_
  refine JC.seq ?_
  refine JC.cond rfl (fun hc1 => ?_) (fun hc1 => ?_)
  · -- t10 True
    replace hc1 := of_decide_eq_true hc1
    refine JC.skip ?_
    refine JQ.thenN ?_
    refine JC.seq ?_
    refine JC.block ?_
    refine JC.seq ?_
    -- region 3
    refine JC.region ?_
    refine JL.val rfl rfl rfl (.none rfl) (Ev.move rfl) ?_
    refine JL.val rfl rfl rfl (.none rfl) (Ev.assign rfl) ?_
    refine JL.nil ?_
    refine JQ.thenN ?_
    -- region 4
    refine JC.region ?_
    refine JL.val rfl rfl rfl (.none rfl) (Ev.move rfl) ?_
    refine JL.val rfl rfl rfl (.none rfl) (Ev.move rfl) ?_
    refine JL.val rfl rfl rfl (.none rfl) (Ev.move rfl) ?_
    refine JL.val rfl rfl rfl (.none rfl) (Ev.bin rfl rfl (sub_i64 (by omega))) ?_
    refine JL.val rfl rfl rfl (.none rfl) (Ev.move rfl) ?_
    refine JL.val rfl rfl rfl (.none rfl) (Ev.bin rfl rfl (sub_i64 (by omega))) ?_
    refine JL.val rfl rfl rfl (.none rfl) (Ev.bin rfl rfl (mul_i64 (by omega))) ?_
    refine JL.re (d := 18) (v' := .int .i64 ((8 * (size - 1 - i) : Nat) : Int)) rfl (congrArg (Value.int .i64) (by omega)) ?_
    refine JL.val rfl rfl rfl (.none rfl) (Ev.bin rfl rfl (shr_u64 (n := 8 * (size - 1 - i)) (by omega))) ?_
    refine JL.val rfl rfl rfl (.none rfl) (Ev.conv rfl (conv_u64_u8 Tryd.underlying51 Tryd.underlying5)) ?_
    refine JL.new rfl rfl rfl (.none rfl) (En.bsN (e := 5) rfl (fun _ => by kernel_rfl)) (fun b21 hb21 => ?_)
    refine JL.gen rfl rfl rfl (.none rfl) (Eg.append1 (r := q) (n := (m + i)) (m := 1) (xs := ((xs ++ (be n size).take i).map u8)) (news := [u8 (n >>> UInt64.ofNat (8 * (size - 1 - i))).toUInt8]) (z := (.int .u8 0)) (s := 1) (bytes := 1) rfl rfl rfl (by repeat (first | exact .last | exact .here | apply Cut.past | apply Cut.there)) Tryd.underlying88 (by kernel_rfl) rfl (by decide) (by decide) hq (Rds.all (by repeat (first | exact List.Mem.head _ | refine List.Mem.tail _ ?_ | refine List.mem_append_right _ ?_ | assumption))) rfl (by decide) (by intro u hu; simp at hu; subst hu; rfl) (by omega)) ?_
    rintro _ _ ⟨q3, rfl, rfl, hq3⟩
    refine JL.val rfl rfl rfl (.none rfl) (Ev.assign rfl) ?_
    refine JL.nil ?_
    refine JQ.blockN ?_
    refine JQ.thenN ?_
    -- region 5
    refine JC.region ?_
    refine JL.val rfl rfl rfl (.none rfl) (Ev.bin rfl rfl (add_i64 (by omega))) ?_
    refine JL.val rfl rfl rfl (.none rfl) (Ev.move rfl) ?_
    refine JL.nil ?_
    refine JQ.loopN (i + 1, some q3) ?_ ?_ ?_ ?_
    · exact Keeps.get (by repeat (first | exact Keeps.nil | refine Keeps.cons rfl ?_))
    · exact Sub.rot
    · exact ⟨by omega, by rw [be_take_succ _ (show i < size by omega)]; simpa [List.map_append, List.append_assoc] using (show Row.ok 1 (m + (i + 1)) _ (some q3) from hq3)⟩
    · show size - (i + 1) < size - i; omega
  · -- t10 False
    replace hc1 := of_decide_eq_false hc1
    refine JC.exit ?_
    refine JQ.thenE ?_
    refine JQ.thenE ?_
    refine JQ.blockE ?_
    refine JQ.thenN ?_
    refine JC.seq ?_
    -- region 6
    refine JC.region ?_
    refine JL.val rfl rfl rfl (.none rfl) (Ev.move rfl) ?_
    refine JL.val rfl rfl rfl (.none rfl) (Ev.assign rfl) ?_
    refine JL.nil ?_
    refine JQ.thenN ?_
    refine JC.ret ?_
    obtain rfl : i = size := by omega
    refine JQ.end1 (H' := (Row.b 5 q ++ H0)) (.inl rfl) rfl (.tmp rfl) ?_ ?_
    · exact Sub.all
    · exact ⟨q, rfl, rfl, by rw [List.take_of_length_le (by rw [be_length]; exact Nat.le_refl _)] at hq; exact hq⟩

theorem digits_any (n : UInt64) (size : Nat) (w : World) (hs : size ≤ 8) :
    Calls Tryd.prog 63 #[u64 n, .int .i64 (size : Int)] w (Ret w (fun v H => ∃ r1 : Option Row, v = Row.v size r1 ∧ H = Row.b 5 r1 ∧ Row.ok 1 size ((be n size).map u8) r1)) := by
  refine enter (vs := [u64 n, .int .i64 (size : Int)]) Tryd.func63 rfl Tryd.ntmps63 rfl ?_
  refine JC.seq ?_
  -- region 0
  refine JC.region ?_
  refine JL.val rfl rfl rfl (.none rfl) (Ev.assign rfl) ?_
  refine JL.nil ?_
  refine JQ.thenN ?_
  refine JC.seq ?_
  -- region 1
  refine JC.region ?_
  refine JL.val rfl rfl rfl (.none rfl) (Ev.assign rfl) ?_
  refine JL.nil ?_
  refine JQ.thenN ?_
  refine JC.seq ?_
  refine JC.seq ?_
  -- region 2
  refine JC.region ?_
  refine JL.val rfl rfl rfl (.none rfl) (Ev.assign rfl) ?_
  refine JL.nil ?_
  refine JQ.thenN ?_
  refine JC.block ?_
  refine JC.loop (X := Nat × Option Row)
    (fun ⟨i, q⟩ => [(0, u64 (nDiv n i)), (1, .int .i64 (size : Int)), (5, Row.v i q), (6, .int .i64 (i : Int))])
    (fun ⟨i, q⟩ => Row.b 5 q)
    (fun ⟨i, q⟩ => i ≤ size ∧ Row.ok 1 i ((be n i).map u8) q)
    (fun ⟨i, q⟩ => size - i) (0, none) ?_ ?_ ?_ ?_
  · exact Keeps.get (Keeps.cons (congrArg (fun x => some (u64 x)) (nDiv_zero n).symm) (Keeps.cons rfl (Keeps.cons rfl (Keeps.cons rfl Keeps.nil))))
  · first | exact Sub.all | exact Sub.of_cnt (fun a => by (try dsimp only); simp only [cntA]; omega) | repeat (first | exact Sub.nil | refine Sub.cons (by first | exact .here | exact .there .here | exact .there (.there .here) | exact .there (.there (.there .here)) | exact .there (.there (.there (.there .here)))) ?_ | exact Sub.all)
  · exact ⟨Nat.zero_le _, rfl, rfl⟩
  rintro ⟨i, q⟩ ⟨hi, hq⟩
  refine JC.seq ?_
  refine JC.seq ?_
  -- region 3
  refine JC.region ?_
  refine JL.val rfl rfl rfl (.none rfl) (Ev.move rfl) ?_
  refine JL.val rfl rfl rfl (.none rfl) (Ev.move rfl) ?_
  refine JL.val rfl rfl rfl (.none rfl) (Ev.bin rfl rfl lss_int) ?_
  refine JL.nil ?_
  refine JQ.thenN ?_
  refine JC.cond rfl (fun hc1 => ?_) (fun hc1 => ?_)
  · -- t9 True
    replace hc1 := of_decide_eq_true hc1
    refine JC.skip ?_
    refine JQ.thenN ?_
    refine JC.seq ?_
    refine JC.block ?_
    refine JC.seq ?_
    -- region 5
    refine JC.region ?_
    refine JL.val rfl rfl rfl (.none rfl) (Ev.move rfl) ?_
    refine JL.val rfl rfl rfl (.none rfl) (Ev.bin rfl rfl (rem_u64 (y := 256) (by decide))) ?_
    refine JL.val rfl rfl rfl (.none rfl) (Ev.conv rfl (conv_u64_u8 Tryd.underlying51 Tryd.underlying5)) ?_
    refine JL.new rfl rfl rfl (.none rfl) (En.bsN (e := 5) rfl (fun _ => by kernel_rfl)) (fun b15 hb15 => ?_)
    refine JL.val rfl rfl rfl (.none rfl) (Ev.move rfl) ?_
    obtain ⟨oq, cq, eq1, hq0, hq1⟩ := Row.sl (e := 5) hq
    refine JL.re (d := 16) rfl eq1 ?_
    refine JL.gen rfl rfl rfl (.none rfl) (Eg.append (r := (some ⟨b15, 1, #[u8 (nDiv n i % 256).toUInt8]⟩)) (n := 1) (m := i) (xs := [u8 (nDiv n i % 256).toUInt8]) (news := ((be n i).map u8)) (z := (.int .u8 0)) (s := 1) (bytes := 1) rfl rfl rfl (.here) Tryd.underlying88 (by kernel_rfl) rfl (by decide) (by decide) ⟨rfl, by simp, by simp [maxLen], rfl, rfl⟩ (by simp [be_length]) (fun ad had => hq1 _ _ (fun p hp => .tail _ hp) ad had) (fun h => hq0 h) (u8s_one _) (by omega)) ?_
    rintro _ _ ⟨q3, rfl, rfl, hq3, hn1⟩
    refine JL.val rfl rfl rfl (.none rfl) (Ev.assign rfl) ?_
    refine JL.nil ?_
    refine JQ.thenN ?_
    -- region 6
    refine JC.region ?_
    refine JL.val rfl rfl rfl (.none rfl) (Ev.move rfl) ?_
    refine JL.val rfl rfl rfl (.none rfl) (Ev.bin rfl rfl (quo_u64 (y := 256) (by decide))) ?_
    refine JL.val rfl rfl rfl (.none rfl) (Ev.assign rfl) ?_
    refine JL.nil ?_
    refine JQ.blockN ?_
    refine JQ.thenN ?_
    -- region 4
    refine JC.region ?_
    refine JL.val rfl rfl rfl (.none rfl) (Ev.move rfl) ?_
    refine JL.val rfl rfl rfl (.none rfl) (Ev.bin rfl rfl (add_i64 (by omega))) ?_
    refine JL.val rfl rfl rfl (.none rfl) (Ev.assign rfl) ?_
    refine JL.nil ?_
    refine JQ.re (d := 0) (v' := u64 (nDiv n (i + 1))) rfl (congrArg u64 (nDiv_succ n i)) ?_
    refine JQ.re (d := 5) (v' := Row.v (i + 1) q3) rfl (by rw [Nat.add_comm 1 i]) ?_
    refine JQ.loopN (i + 1, q3) ?_ ?_ ?_ ?_
    · exact Keeps.get (by repeat (first | exact Keeps.nil | refine Keeps.cons rfl ?_))
    · exact Sub.tailAll
    · exact ⟨by omega, by rw [be_succ, Nat.add_comm i 1, ← nDiv_byte n (show i < 8 by omega)]; exact hq3⟩
    · show size - (i + 1) < size - i; omega
  · -- t9 False
    replace hc1 := of_decide_eq_false hc1
    refine JC.exit ?_
    refine JQ.thenE ?_
    refine JQ.thenE ?_
    refine JQ.blockE ?_
    refine JQ.thenN ?_
    refine JC.seq ?_
    -- region 7
    refine JC.region ?_
    refine JL.val rfl rfl rfl (.none rfl) (Ev.move rfl) ?_
    refine JL.val rfl rfl rfl (.none rfl) (Ev.assign rfl) ?_
    refine JL.nil ?_
    refine JQ.thenN ?_
    refine JC.ret ?_
    obtain rfl : i = size := by omega
    refine JQ.end1 (H' := (Row.b 5 q)) (.inl rfl) rfl (.tmp rfl) ?_ ?_
    · exact Sub.all
    · exact ⟨q, rfl, rfl, hq⟩

end Go.Proofs.YtjjoenbighmfoaaDoor
