/-
  Slices joined, and the program's nodes.
-/
import Derived.Test.YtebinlinhmohbaaDoorDig5
import Derived.Test.YtebinlinhmohbaaDoorMore
import Derived.Test.YtebinlinhmohbaaDoorPart
namespace Go.Proofs.YtebinlinhmohbaaDoor
open Go Go.RowKit
set_option maxRecDepth 100000


theorem grow_any (n : Nat) (w : World) (hn : n ≤ 1000000) :
    Calls Tryd.prog 49 #[.slice none 0 0, .int .i64 (n : Int)] w (Ret w (fun v H => ∃ r : Option Row, v = Row.v 0 r ∧ H = Row.b 5 r ∧ Row.ok 1 0 [] r)) := by
  refine enter (vs := [.slice none 0 0, .int .i64 (n : Int)]) Tryd.func49 rfl Tryd.ntmps49 rfl ?_
  refine JC.seq ?_
  -- region 0
  refine JC.region ?_
  refine JL.val rfl rfl rfl (.none rfl) (Ev.assign rfl) ?_
  refine JL.nil ?_
  refine JQ.thenN ?_
  refine JC.seq ?_
  refine JC.seq ?_
  -- region 1
  refine JC.region ?_
  refine JL.val rfl rfl rfl (.none rfl) (Ev.move rfl) ?_
  refine JL.val rfl rfl rfl (.none rfl) (Ev.bin rfl rfl lss_int) ?_
  refine JL.nil ?_
  refine JQ.thenN ?_
  refine JC.knowF rfl ?_ ?_
  · exact decide_eq_false (by omega)
  refine JC.skip ?_
  refine JQ.thenN ?_
  refine JC.seq ?_
  refine JC.seq ?_
  -- region 3
  refine JC.region ?_
  refine JL.val rfl rfl rfl (.none rfl) (Ev.move rfl) ?_
  refine JL.val rfl rfl rfl (.none rfl) (Ev.move rfl) ?_
  refine JL.val rfl rfl rfl (.none rfl) (Ev.capS rfl Tryd.underlying71) ?_
  refine JL.val rfl rfl rfl (.none rfl) (Ev.move rfl) ?_
  refine JL.val rfl rfl rfl (.none rfl) (Ev.lenS rfl Tryd.underlying71) ?_
  refine JL.val rfl rfl rfl (.none rfl) (Ev.bin rfl rfl (sub_i64 (by omega))) ?_
  refine JL.val rfl rfl rfl (.none rfl) (Ev.bin rfl rfl (sub_i64 (by omega))) ?_
  refine JL.val rfl rfl rfl (.none rfl) (Ev.assign rfl) ?_
  refine JL.re (d := 1) (v' := .int .i64 (n : Int)) rfl (congrArg (Value.int .i64) (by omega)) ?_
  refine JL.nil ?_
  refine JQ.thenN ?_
  refine JC.seq ?_
  -- region 4
  refine JC.region ?_
  refine JL.val rfl rfl rfl (.none rfl) (Ev.move rfl) ?_
  refine JL.val rfl rfl rfl (.none rfl) (Ev.bin rfl rfl gtr_int) ?_
  refine JL.nil ?_
  refine JQ.thenN ?_
  refine JC.cond rfl (fun hc1 => ?_) (fun hc1 => ?_)
  · -- t16 True
    replace hc1 := of_decide_eq_true hc1
    -- region 5
    refine JC.region ?_
    refine JL.val rfl rfl rfl (.none rfl) (Ev.move rfl) ?_
    refine JL.val rfl rfl rfl (.none rfl) (Ev.move rfl) ?_
    refine JL.val rfl rfl rfl (.none rfl) (Ev.capS rfl Tryd.underlying71) ?_
    refine JL.val rfl rfl rfl (.none rfl) (Ev.sliceHi rfl rfl Tryd.underlying71 Tryd.sizeOf5 (h := 0) rfl (Nat.le_refl _)) ?_
    refine JL.re (d := 20) (v' := .slice none 0 0) rfl rfl ?_
    refine JL.val rfl rfl rfl (.none rfl) (Ev.move rfl) ?_
    refine JL.gen rfl rfl rfl (.none rfl) (Eg.appendZ (r := none) (n := 0) (k := n) (xs := []) (z := (.int .u8 0)) (bytes := 1) rfl rfl rfl (.last) Tryd.underlying71 Tryd.underlying3 (by kernel_rfl) rfl rfl (by decide) ⟨rfl, rfl⟩ (by omega)) ?_
    rintro _ _ ⟨r1, rfl, rfl, hr1, hn1⟩
    obtain ⟨r1, rfl⟩ : ∃ r : Row, r1 = some r := by cases r1 with | none => have := (hn1.1 rfl).2; omega | some r => exact ⟨r, rfl⟩
    refine JL.val rfl rfl rfl (.none rfl) (Ev.move rfl) ?_
    refine JL.val rfl rfl rfl (.none rfl) (Ev.lenS rfl Tryd.underlying71) ?_
    refine JL.val rfl rfl rfl (.none rfl) (Ev.sliceHi rfl rfl Tryd.underlying71 Tryd.sizeOf5 (h := 0) rfl (Nat.zero_le _)) ?_
    refine JL.re (d := 25) (v' := Row.v 0 (some r1)) rfl sub3_zero ?_
    refine JL.val rfl rfl rfl (.none rfl) (Ev.assign rfl) ?_
    refine JL.nil ?_
    refine JQ.thenN ?_
    refine JC.seq ?_
    -- region 6
    refine JC.region ?_
    refine JL.val rfl rfl rfl (.none rfl) (Ev.move rfl) ?_
    refine JL.val rfl rfl rfl (.none rfl) (Ev.assign rfl) ?_
    refine JL.nil ?_
    refine JQ.thenN ?_
    refine JC.ret ?_
    refine JQ.end1 (H' := (Row.b 5 (some r1))) (.inl rfl) rfl (.tmp rfl) ?_ ?_
    · first | exact Sub.all | exact Sub.of_cnt (fun a => by (try dsimp only); simp only [cntA]; omega) | repeat (first | exact Sub.nil | refine Sub.cons (by first | exact .here | exact .there .here | exact .there (.there .here) | exact .there (.there (.there .here)) | exact .there (.there (.there (.there .here)))) ?_ | exact Sub.all)
    · exact ⟨some r1, rfl, rfl, rfl, Nat.zero_le _, hr1.2.2.1, hr1.2.2.2.1, rfl⟩
  · -- t16 False
    replace hc1 := of_decide_eq_false hc1
    refine JC.skip ?_
    refine JQ.thenN ?_
    refine JC.seq ?_
    -- region 6
    refine JC.region ?_
    refine JL.val rfl rfl rfl (.none rfl) (Ev.move rfl) ?_
    refine JL.val rfl rfl rfl (.none rfl) (Ev.assign rfl) ?_
    refine JL.nil ?_
    refine JQ.thenN ?_
    refine JC.ret ?_
    refine JQ.end1 (H' := []) (.inl rfl) rfl (.tmp rfl) ?_ ?_
    · first | exact Sub.all | exact Sub.of_cnt (fun a => by (try dsimp only); simp only [cntA]; omega) | repeat (first | exact Sub.nil | refine Sub.cons (by first | exact .here | exact .there .here | exact .there (.there .here) | exact .there (.there (.there .here)) | exact .there (.there (.there (.there .here)))) ?_ | exact Sub.all)
    · exact ⟨none, rfl, rfl, rfl, rfl⟩

theorem concat_any (a : Addr) (cap : Nat) (ps : List Part) (w : World) (hm : Mem w a (ps.map Part.v)) (hbs : ∀ p ∈ ps, Bs w p.o p.cap p.l) (hl : catLen ps ps.length ≤ 1000000) (hn : ps.length ≤ 1000000) :
    Calls Tryd.prog 39 #[.slice (some a) ps.length cap] w (Ret w (fun v H => ∃ r : Option Row, v = Row.v (catLen ps ps.length) r ∧ H = Row.b 5 r ∧ Row.ok 1 (catLen ps ps.length) ((ps.flatMap (·.l)).map u8) r)) := by
  refine enter (vs := [.slice (some a) ps.length cap]) Tryd.func39 rfl Tryd.ntmps39 rfl ?_
  refine JC.seq ?_
  -- region 0
  refine JC.region ?_
  refine JL.val rfl rfl rfl (.none rfl) (Ev.assign rfl) ?_
  refine JL.nil ?_
  refine JQ.thenN ?_
  refine JC.seq ?_
  -- region 1
  refine JC.region ?_
  refine JL.val rfl rfl rfl (.none rfl) (Ev.assign rfl) ?_
  refine JL.nil ?_
  refine JQ.thenN ?_
  refine JC.seq ?_
  refine JC.seq ?_
  -- region 2
  refine JC.region ?_
  refine JL.val rfl rfl rfl (.none rfl) (Ev.move rfl) ?_
  refine JL.val rfl rfl rfl (.none rfl) (Ev.lenS rfl Tryd.underlying85) ?_
  refine JL.val rfl rfl rfl (.none rfl) (Ev.move rfl) ?_
  refine JL.nil ?_
  refine JQ.thenN ?_
  refine JC.block ?_
  refine JC.loop (X := Nat)
    (fun k => [(0, .slice (some a) ps.length cap), (3, .int .i64 (catLen ps k : Int)), (9, .slice (some a) ps.length cap), (10, .int .i64 (ps.length : Int)), (11, .int .i64 (k : Int))])
    (fun k => [])
    (fun k => k ≤ ps.length)
    (fun k => ps.length - k) 0 ?_ ?_ ?_ ?_
  · exact Keeps.get (by repeat (first | exact Keeps.nil | refine Keeps.cons rfl ?_))
  · first | exact Sub.all | exact Sub.of_cnt (fun a => by (try dsimp only); simp only [cntA]; omega) | repeat (first | exact Sub.nil | refine Sub.cons (by first | exact .here | exact .there .here | exact .there (.there .here) | exact .there (.there (.there .here)) | exact .there (.there (.there (.there .here)))) ?_ | exact Sub.all)
  · exact Nat.zero_le _
  rintro k hkp
  refine JC.seq ?_
  -- region 3
  refine JC.region ?_
  refine JL.val rfl rfl rfl (.none rfl) (Ev.bin rfl rfl lss_int) ?_
  refine JL.nil ?_
  refine JQ.thenN ?_
  refine JC.seq ?_
  refine JC.cond rfl (fun hc1 => ?_) (fun hc1 => ?_)
  · -- t12 True
    replace hc1 := of_decide_eq_true hc1
    have hkn : k < ps.length := by omega
    obtain ⟨p, hp⟩ : ∃ p, ps[k]? = some p := ⟨ps[k], List.getElem?_eq_getElem hkn⟩
    have hpv : (ps.map Part.v)[k]? = some (.slice p.o p.l.length p.cap) := by rw [List.getElem?_map, hp]; rfl
    have hcs := catLen_succ ps hp
    have hcl := catLen_le ps (k + 1)
    refine JC.skip ?_
    refine JQ.thenN ?_
    refine JC.seq ?_
    refine JC.block ?_
    refine JC.seq ?_
    -- region 4
    refine JC.region ?_
    refine JL.val rfl rfl rfl (.none rfl) (Ev.idxS1 rfl rfl Tryd.underlying85 Tryd.sizeOf71 (k := k) rfl (by omega)) ?_
    refine JL.val rfl rfl rfl (.none rfl) (Ev.load1 rfl Tryd.underlying71 rfl (Rd.old (hm k _ hpv))) ?_
    refine JL.val rfl rfl rfl (.none rfl) (Ev.assign rfl) ?_
    refine JL.nil ?_
    refine JQ.thenN ?_
    refine JC.seq ?_
    -- region 5
    refine JC.region ?_
    refine JL.val rfl rfl rfl (.none rfl) (Ev.move rfl) ?_
    refine JL.val rfl rfl rfl (.none rfl) (Ev.move rfl) ?_
    refine JL.val rfl rfl rfl (.none rfl) (Ev.lenS rfl Tryd.underlying71) ?_
    refine JL.val rfl rfl rfl (.none rfl) (Ev.bin rfl rfl (add_i64 (by omega))) ?_
    refine JL.val rfl rfl rfl (.none rfl) (Ev.assign rfl) ?_
    refine JL.re (d := 3) (v' := .int .i64 (catLen ps (k + 1) : Int)) rfl (congrArg (Value.int .i64) (by omega)) ?_
    refine JL.nil ?_
    refine JQ.thenN ?_
    refine JC.seq ?_
    -- region 6
    refine JC.region ?_
    refine JL.val rfl rfl rfl (.none rfl) (Ev.move rfl) ?_
    refine JL.val rfl rfl rfl (.none rfl) (Ev.bin rfl rfl lss_int) ?_
    refine JL.nil ?_
    refine JQ.thenN ?_
    refine JC.knowF rfl ?_ ?_
    · exact decide_eq_false (by omega)
    refine JC.skip ?_
    refine JQ.blockN ?_
    refine JQ.thenN ?_
    -- region 8
    refine JC.region ?_
    refine JL.val rfl rfl rfl (.none rfl) (Ev.bin rfl rfl (add_i64 (by omega))) ?_
    refine JL.val rfl rfl rfl (.none rfl) (Ev.move rfl) ?_
    refine JL.nil ?_
    refine JQ.loopN (k + 1) ?_ ?_ ?_ ?_
    · exact Keeps.get (by repeat (first | exact Keeps.nil | refine Keeps.cons rfl ?_))
    · exact Sub.nil
    · omega
    · omega
  · -- t12 False
    replace hc1 := of_decide_eq_false hc1
    obtain rfl : k = ps.length := by omega
    refine JC.exit ?_
    refine JQ.thenE ?_
    refine JQ.thenE ?_
    refine JQ.blockE ?_
    refine JQ.thenN ?_
    refine JC.seq ?_
    -- region 9
    refine JC.region ?_
    refine JL.val rfl rfl rfl (.none rfl) (Ev.move rfl) ?_
    refine JL.callN rfl (.none rfl) rfl Tryd.call49 (fun w1 hw1 => grow_any (catLen ps ps.length) w1 hl) ?_
    rintro _ _ ⟨r0, rfl, rfl, hr0⟩
    refine JL.val rfl rfl rfl (.none rfl) (Ev.assign rfl) ?_
    refine JL.nil ?_
    refine JQ.thenN ?_
    refine JC.seq ?_
    refine JC.seq ?_
    -- region 10
    refine JC.region ?_
    refine JL.val rfl rfl rfl (.none rfl) (Ev.move rfl) ?_
    refine JL.val rfl rfl rfl (.none rfl) (Ev.lenS rfl Tryd.underlying85) ?_
    refine JL.val rfl rfl rfl (.none rfl) (Ev.move rfl) ?_
    refine JL.nil ?_
    refine JQ.thenN ?_
    refine JC.block ?_
    refine JC.loop (X := Nat × Option Row)
      (fun ⟨k, r⟩ => [(6, Row.v (catLen ps k) r), (25, .slice (some a) ps.length cap), (26, .int .i64 (ps.length : Int)), (27, .int .i64 (k : Int))])
      (fun ⟨k, r⟩ => Row.b 5 r)
      (fun ⟨k, r⟩ => k ≤ ps.length ∧ Row.ok 1 (catLen ps k) (((ps.take k).flatMap (·.l)).map u8) r)
      (fun ⟨k, r⟩ => ps.length - k) (0, r0) ?_ ?_ ?_ ?_
    · exact Keeps.get (by repeat (first | exact Keeps.nil | refine Keeps.cons rfl ?_))
    · first | exact Sub.all | exact sub_app_nil
    · exact ⟨Nat.zero_le _, hr0⟩
    rintro ⟨k, r⟩ ⟨hkp, hr⟩
    refine JC.seq ?_
    -- region 11
    refine JC.region ?_
    refine JL.val rfl rfl rfl (.none rfl) (Ev.bin rfl rfl lss_int) ?_
    refine JL.nil ?_
    refine JQ.thenN ?_
    refine JC.seq ?_
    refine JC.cond rfl (fun hc2 => ?_) (fun hc2 => ?_)
    · -- t28 True
      replace hc2 := of_decide_eq_true hc2
      have hkn : k < ps.length := by omega
      obtain ⟨p, hp⟩ : ∃ p, ps[k]? = some p := ⟨ps[k], List.getElem?_eq_getElem hkn⟩
      have hpv : (ps.map Part.v)[k]? = some (.slice p.o p.l.length p.cap) := by rw [List.getElem?_map, hp]; rfl
      have hcs := catLen_succ ps hp
      have hcl := catLen_le ps (k + 1)
      have hbp := hbs p (List.mem_of_getElem? hp)
      refine JC.skip ?_
      refine JQ.thenN ?_
      refine JC.seq ?_
      refine JC.block ?_
      refine JC.seq ?_
      -- region 12
      refine JC.region ?_
      refine JL.val rfl rfl rfl (.none rfl) (Ev.idxS1 rfl rfl Tryd.underlying85 Tryd.sizeOf71 (k := k) rfl (by omega)) ?_
      refine JL.val rfl rfl rfl (.none rfl) (Ev.load1 rfl Tryd.underlying71 rfl (Rd.old (hm k _ hpv))) ?_
      refine JL.val rfl rfl rfl (.none rfl) (Ev.assign rfl) ?_
      refine JL.nil ?_
      refine JQ.thenN ?_
      -- region 13
      refine JC.region ?_
      refine JL.val rfl rfl rfl (.none rfl) (Ev.move rfl) ?_
      refine JL.val rfl rfl rfl (.none rfl) (Ev.move rfl) ?_
      refine JL.gen rfl rfl rfl (.none rfl) (Eg.append (r := r) (n := (catLen ps k)) (m := p.l.length) (xs := (((ps.take k).flatMap (·.l)).map u8)) (news := (p.l.map u8)) (z := (.int .u8 0)) (s := 1) (bytes := 1) rfl rfl rfl (by repeat (first | exact .last | exact .here | apply Cut.past | apply Cut.there)) Tryd.underlying71 (by kernel_rfl) rfl (by decide) (by decide) hr (by simp) (fun ad had => Rds.old (hbp.mem ad had)) (fun h => by have := hbp.le; have := hbp.empty h; omega) (u8s_one _) (by omega)) ?_
      rintro _ _ ⟨r3, rfl, rfl, hr3, hn1⟩
      refine JL.val rfl rfl rfl (.none rfl) (Ev.assign rfl) ?_
      refine JL.nil ?_
      refine JQ.blockN ?_
      refine JQ.thenN ?_
      -- region 14
      refine JC.region ?_
      refine JL.val rfl rfl rfl (.none rfl) (Ev.bin rfl rfl (add_i64 (by omega))) ?_
      refine JL.val rfl rfl rfl (.none rfl) (Ev.move rfl) ?_
      refine JL.nil ?_
      refine JQ.re (d := 6) (v' := Row.v (catLen ps (k + 1)) r3) rfl (by rw [hcs]) ?_
      refine JQ.loopN (k + 1, r3) ?_ ?_ ?_ ?_
      · exact Keeps.get (by repeat (first | exact Keeps.nil | refine Keeps.cons rfl ?_))
      · first | exact Sub.all | exact sub_nil_app
      · exact ⟨by omega, by rw [hcs, List.take_add_one, hp]; simpa using hr3⟩
      · show ps.length - (k + 1) < ps.length - k; omega
    · -- t28 False
      replace hc2 := of_decide_eq_false hc2
      obtain rfl : k = ps.length := by omega
      refine JC.exit ?_
      refine JQ.thenE ?_
      refine JQ.thenE ?_
      refine JQ.blockE ?_
      refine JQ.thenN ?_
      refine JC.seq ?_
      -- region 15
      refine JC.region ?_
      refine JL.val rfl rfl rfl (.none rfl) (Ev.move rfl) ?_
      refine JL.val rfl rfl rfl (.none rfl) (Ev.assign rfl) ?_
      refine JL.nil ?_
      refine JQ.thenN ?_
      refine JC.ret ?_
      refine JQ.end1 (H' := (Row.b 5 r)) (.inl rfl) rfl (.tmp rfl) ?_ ?_
      · exact Sub.all
      · exact ⟨r, rfl, rfl, by rw [List.take_of_length_le (Nat.le_refl _)] at hr; exact hr⟩

theorem node_any (a b : List UInt8) (ha : a.length = 32) (hb : b.length = 32) (w : World) (hk : KMem 1 w) (hf : FMem 0 w) :
    Calls Tryd.prog 23 #[.agg (arr8 a), .agg (arr8 b)] w (Ret w (fun v _ => v = .agg (arr8 (sha (1 :: (a ++ b)))))) := by
  refine enter (vs := [.agg (arr8 a), .agg (arr8 b)]) Tryd.func23 rfl Tryd.ntmps23 rfl ?_
  refine JC.seq ?_
  -- region 0
  refine JC.region ?_
  refine JL.new rfl rfl rfl (.none rfl) (En.boxA rfl) (fun b2 hb2 => ?_)
  refine JL.new rfl rfl rfl (.none rfl) (En.boxA rfl) (fun b3 hb3 => ?_)
  refine JL.new rfl rfl rfl (.none rfl) (En.allocZ (cs := arr8 (List.replicate 32 0)) Tryd.zeroValue22 rfl) (fun b4 hb4 => ?_)
  refine JL.nil ?_
  refine JQ.thenN ?_
  refine JC.seq ?_
  -- region 1
  refine JC.regionA (by kernel_rfl) ?_
  refine JA.take 1 rfl rfl rfl rfl (by kernel_rfl) (by kernel_rfl) (by kernel_rfl) (fun _ _ _ h => h) (fun _ _ => rfl) (.none rfl) (fun _ => (Ev.sliceA rfl Tryd.underlying22 Tryd.sizeOf5)) ?_
  refine JA.take 2 rfl rfl rfl rfl (by kernel_rfl) (by kernel_rfl) (by kernel_rfl) (fun _ _ _ h => h) (fun _ _ => rfl) (.none rfl) (fun _ => (Ev.sliceA rfl Tryd.underlying22 Tryd.sizeOf5)) ?_
  refine JA.branch [0] (by kernel_rfl) rfl ?_
  refine JAll.cons rfl ?_ JAll.nil
  refine JO.new rfl rfl rfl (.none rfl) (En.bsN (e := 5) rfl (fun _ => by kernel_rfl)) (fun b5 hb5 => ?_)
  refine JA.branch [3] (by kernel_rfl) rfl ?_
  refine JAll.cons rfl ?_ JAll.nil
  refine JO.new rfl rfl rfl (.none rfl) (En.bsN (e := 71) rfl (fun _ => by kernel_rfl)) (fun b8 hb8 => ?_)
  refine JA.branch [4] (by kernel_rfl) rfl ?_
  refine JAll.cons rfl ?_ JAll.nil
  refine JO.callN rfl (.none rfl) rfl Tryd.call39 (fun w1 hw1 => concat_any ⟨b8, 0, none⟩ 3 [⟨some ⟨b5, 0, none⟩, 1, [1]⟩, ⟨some ⟨b2, 0, none⟩, a.length, a⟩, ⟨some ⟨b3, 0, none⟩, b.length, b⟩] w1 (by have h := Mem.own (o := 0) (l := [.slice (some ⟨b5, 0, none⟩) 1 1, .slice (some ⟨b2, 0, none⟩) 32 32, .slice (some ⟨b3, 0, none⟩) 32 32]) hw1 (.head _) (fun j v hj => by simpa using hj); simpa [Part.v, ha, hb] using h) (by intro p hp; simp only [List.mem_cons, List.not_mem_nil, or_false] at hp; rcases hp with rfl | rfl | rfl; exact bs_of_block (b := b5) (l := [1]) hw1 (by first | exact .head _ | exact .tail _ (.head _) | exact .tail _ (.tail _ (.head _)) | exact .tail _ (.tail _ (.tail _ (.head _))) | exact .tail _ (.tail _ (.tail _ (.tail _ (.head _)))) | exact List.mem_append_right _ (.head _)) (by decide); exact bs_of_block (b := b2) (l := a) hw1 (by first | exact .head _ | exact .tail _ (.head _) | exact .tail _ (.tail _ (.head _)) | exact .tail _ (.tail _ (.tail _ (.head _))) | exact .tail _ (.tail _ (.tail _ (.tail _ (.head _)))) | exact List.mem_append_right _ (.head _)) (by omega); exact bs_of_block (b := b3) (l := b) hw1 (by first | exact .head _ | exact .tail _ (.head _) | exact .tail _ (.tail _ (.head _)) | exact .tail _ (.tail _ (.tail _ (.head _))) | exact .tail _ (.tail _ (.tail _ (.tail _ (.head _)))) | exact List.mem_append_right _ (.head _)) (by omega)) (by simp [catLen, ha, hb]) (by simp)) ?_
  rintro _ _ ⟨r1, rfl, rfl, hr1⟩
  obtain ⟨r1, rfl⟩ : ∃ r : Row, r1 = some r := by cases r1 with | none => exact absurd hr1.1 (by simp [catLen, ha, hb]) | some r => exact ⟨r, rfl⟩
  refine JA.re (d := 9) (v' := .slice (some ⟨r1.g, 0, none⟩) (1 :: (a ++ b)).length r1.cap) rfl (congrArg (fun n => Value.slice (some ⟨r1.g, 0, none⟩) n r1.cap) (by simp [catLen, ha, hb])) ?_
  refine JA.branch [5] (by kernel_rfl) rfl ?_
  refine JAll.cons rfl ?_ JAll.nil
  refine JO.callV rfl (.none rfl) rfl Tryd.call38 (fun w1 hw1 => sum_any (some ⟨r1.g, 0, none⟩) r1.cap (1 :: (a ++ b)) w1 (bs_of_row hw1 (by first | exact .head _ | exact .tail _ (.head _) | exact .tail _ (.tail _ (.head _)) | exact .tail _ (.tail _ (.tail _ (.head _))) | exact .tail _ (.tail _ (.tail _ (.tail _ (.head _)))) | exact List.mem_append_right _ (.head _)) hr1 (by simp [catLen, ha, hb]) (by simp)) (by simp [ha, hb]) (hk.old hw1) (hf.old hw1)) ?_
  refine JA.branch [6] (by kernel_rfl) rfl ?_
  refine JAll.cons rfl ?_ JAll.nil
  refine JO.sto rfl rfl (.none rfl) (Es.storeA rfl rfl Tryd.sizeOf22 (by repeat (first | exact .here | apply Upd.there | apply Upd.left)) (by first | rw [arr8_size, sha_length] | rfl) (by first | rfl | exact dig_size _ | (rw [arr8_size]; first | exact sha_length _ | exact shaO_length _ | assumption)) (arr8_one _)) ?_
  refine JA.done (by kernel_rfl) ?_
  refine JQ.thenN ?_
  refine JC.ret ?_
  refine JQ.end1 (H' := []) (.inl rfl) rfl (.agg rfl (by repeat (first | exact List.Mem.head _ | refine List.Mem.tail _ ?_ | refine List.mem_append_right _ ?_ | assumption)) Tryd.underlying22 rfl Tryd.sizeOf22 (by first | rw [arr8_size, sha_length] | rfl)) ?_ ?_
  · first | exact Sub.all | exact Sub.of_cnt (fun a => by (try dsimp only); simp only [cntA]; omega) | repeat (first | exact Sub.nil | refine Sub.cons (by first | exact .here | exact .there .here | exact .there (.there .here) | exact .there (.there (.there .here)) | exact .there (.there (.there (.there .here)))) ?_ | exact Sub.all)
  · exact rfl

end Go.Proofs.YtebinlinhmohbaaDoor
