/-
  The number drawn, in the program: the tries one by one, until one is small enough.
-/
import Derived.Test.YtjjoenbighmfoaaDoorDraw1Uq
namespace Go.Proofs.YtjjoenbighmfoaaDoor
open Go Go.RowKit
set_option maxRecDepth 100000

theorem tries_any (s : List UInt8) (i : UInt32) (w : World) :
    Calls Tryd.prog 42 #[.agg (arr8 s), u32 i] w (Ret w (fun v H => ∃ bs bi, v = .func (.func 54) #[] #[.pointer (some ⟨bs, 0, none⟩), .pointer (some ⟨bi, 0, none⟩)] ∧ H = [(bi, .cells #[u32 i] 41 (0, 0)), (bs, .cells (arr8 s) 65 (0, 0))])) := by
  refine enter (vs := [.agg (arr8 s), u32 i]) Tryd.func42 rfl Tryd.ntmps42 rfl ?_
  refine JC.seq ?_
  -- region 0
  refine JC.region ?_
  refine JL.new rfl rfl rfl (.none rfl) (En.boxA rfl) (fun b2 hb2 => ?_)
  refine JL.new rfl rfl rfl (.none rfl) (En.box1 rfl rfl) (fun b3 hb3 => ?_)
  refine JL.val rfl rfl rfl (.none rfl) (Ev.assign rfl) ?_
  refine JL.nil ?_
  refine JQ.thenN ?_
  refine JC.seq ?_
  -- region 1
  refine JC.region ?_
  refine JL.val rfl rfl rfl (.none rfl) (Ev.makeFunc rfl) ?_
  refine JL.val rfl rfl rfl (.none rfl) (Ev.assign rfl) ?_
  refine JL.nil ?_
  refine JQ.thenN ?_
  refine JC.ret ?_
  refine JQ.end1 (H' := [(b3, .cells #[u32 i] 41 (0, 0)), (b2, .cells (arr8 s) 65 (0, 0))]) (.inl rfl) rfl (.tmp rfl) ?_ ?_
  · first | exact Sub.all | exact Sub.of_cnt (fun a => by (try dsimp only); simp only [cntA]; omega) | repeat (first | exact Sub.nil | refine Sub.cons (by first | exact .here | exact .there .here | exact .there (.there .here) | exact .there (.there (.there .here)) | exact .there (.there (.there (.there .here)))) ?_ | exact Sub.all)
  · exact ⟨b2, b3, rfl, rfl⟩

theorem triesI_any (s : List UInt8) (hs : s.length = 32) (i : UInt32) (bs bi : Nat) (X : Type) (A : X → Blocks) (Inv : Nat → X → Prop) (Z : Blocks → Prop) (l : Nat) (x0 : X) (w0 w : World) (hi : Inv 0 x0) (hw : Hp w0 ([(bi, Obj.cells #[u32 i] 41 (0, 0)), (bs, Obj.cells (arr8 s) 65 (0, 0))] ++ A x0) w) (hy : ∀ k x vs O w1, k < 16 → Inv k x → (fun k vs _ => vs = [u64 (tryD s i k)]) k vs O → Hp w0 (O ++ A x) w1 → YieldOk Tryd.prog l vs.toArray w1 (fun e w' => (∃ x', Inv (k + 1) x' ∧ e = .returned (.bool true) ∧ Hp w0 (O ++ A x') w') ∨ (∃ B, Z B ∧ e = .returned (.bool false) ∧ Hp w0 (O ++ B) w'))) (hk : KMem 1 w0) (hf : FMem 0 w0) :
    Calls Tryd.prog 54 #[.func (.yield l) #[] #[], .pointer (some ⟨bs, 0, none⟩), .pointer (some ⟨bi, 0, none⟩)] w (Ret w0 (fun _ H' => (∃ x O, Inv 16 x ∧ H' = O ++ A x) ∨ (∃ B O, Z B ∧ H' = O ++ B))) := by
  refine enterAt (vs := [.func (.yield l) #[] #[], .pointer (some ⟨bs, 0, none⟩), .pointer (some ⟨bi, 0, none⟩)]) Tryd.func54 rfl Tryd.ntmps54 rfl hw ?_
  refine JC.seq ?_
  -- region 0
  refine JC.regionA (by kernel_rfl) ?_
  refine JA.take 0 rfl rfl rfl rfl (by kernel_rfl) (by kernel_rfl) (by kernel_rfl) (fun _ _ _ h => h) (fun _ _ => rfl) (.none rfl) (fun _ => (Ev.cast (v' := .slice (some ⟨bs, 0, none⟩) s.length 32) (by rw [hs]) (Ev.sliceA rfl Tryd.underlying65 Tryd.sizeOf5))) ?_
  refine JA.branch [1] (by kernel_rfl) rfl ?_
  refine JAll.cons rfl ?_ JAll.nil
  refine JO.val rfl rfl rfl (.none rfl) (Ev.load1 rfl Tryd.underlying41 rfl (Rd.own (by repeat (first | exact List.Mem.head _ | refine List.Mem.tail _ ?_ | refine List.mem_append_right _ ?_ | assumption)) rfl)) ?_
  refine JA.take 2 rfl rfl rfl rfl (by kernel_rfl) (by kernel_rfl) (by kernel_rfl) (fun _ _ _ h => h) (fun _ _ => rfl) (.none rfl) (fun _ => (Ev.conv rfl (conv_u32_u64 Tryd.underlying41 Tryd.underlying51))) ?_
  refine JA.branch [3] (by kernel_rfl) rfl ?_
  refine JAll.cons rfl ?_ JAll.nil
  refine JO.callN rfl (.none rfl) rfl Tryd.call55 (fun w1 hw1 => put4_any (some ⟨bs, 0, none⟩) 32 s w1 (by have := bs_of_block (l := s) hw1 (List.Mem.tail _ (List.Mem.head _)) (by omega); rwa [hs] at this) (by omega) i.toUInt64 (by have := i.toNat_lt; rw [UInt32.toNat_toUInt64]; omega)) ?_
  rintro _ _ ⟨r0, rfl, rfl, hr0⟩
  refine JA.take 4 rfl rfl rfl rfl (by kernel_rfl) (by kernel_rfl) (by kernel_rfl) (fun _ _ _ h => h) (fun _ _ => rfl) (.none rfl) (fun _ => (Ev.move rfl)) ?_
  refine JA.take 5 rfl rfl rfl rfl (by kernel_rfl) (by kernel_rfl) (by kernel_rfl) (fun _ _ _ h => h) (fun _ _ => rfl) (.none rfl) (fun _ => (Ev.ex0 rfl)) ?_
  refine JA.take 6 rfl rfl rfl rfl (by kernel_rfl) (by kernel_rfl) (by kernel_rfl) (fun _ _ _ h => h) (fun _ _ => rfl) (.none rfl) (fun _ => (Ev.ex1 rfl)) ?_
  refine JA.take 7 rfl rfl rfl rfl (by kernel_rfl) (by kernel_rfl) (by kernel_rfl) (fun _ _ _ h => h) (fun _ _ => rfl) (.none rfl) (fun _ => (Ev.assign rfl)) ?_
  refine JA.take 8 rfl rfl rfl rfl (by kernel_rfl) (by kernel_rfl) (by kernel_rfl) (fun _ _ _ h => h) (fun _ _ => rfl) (.none rfl) (fun _ => (Ev.assign rfl)) ?_
  refine JA.done (by kernel_rfl) ?_
  refine JQ.thenN ?_
  refine JC.seq ?_
  -- region 1
  refine JC.region ?_
  refine JL.val rfl rfl rfl (.none rfl) (Ev.move rfl) ?_
  refine JL.nil ?_
  refine JQ.thenN ?_
  refine JC.block ?_
  obtain ⟨oh, ch, eh, hh0, hCh⟩ := Row.vw (e := 5) hr0
  refine JC.re (d := 4) (v' := .slice oh (s ++ be i.toUInt64 4).length ch) rfl (eh.trans (by simp [be_length, hs])) ?_
  refine JC.loop (X := Nat × X)
    (fun ⟨k, x⟩ => [(0, .func (.yield l) #[] #[]), (4, .slice oh (s ++ be i.toUInt64 4).length ch), (21, u64 (UInt64.ofNat k))])
    (fun ⟨k, x⟩ => Row.b 5 r0 ++ (bi, .cells #[u32 i] 41 (0, 0)) :: (bs, .cells (arr8 s) 65 (0, 0)) :: A x)
    (fun ⟨k, x⟩ => k ≤ 16 ∧ Inv k x)
    (fun ⟨k, x⟩ => 16 - k) (0, x0) ?_ ?_ ?_ ?_
  · exact Keeps.get (by repeat (first | exact Keeps.nil | refine Keeps.cons rfl ?_))
  · first | exact Sub.all | exact Sub.of_cnt (fun a => by (try dsimp only); simp only [cntA]; omega) | repeat (first | exact Sub.nil | refine Sub.cons (by first | exact .here | exact .there .here | exact .there (.there .here) | exact .there (.there (.there .here)) | exact .there (.there (.there (.there .here)))) ?_ | exact Sub.all)
  · exact ⟨by omega, hi⟩
  rintro ⟨k, x⟩ ⟨hkk, hix⟩
  refine JC.seq ?_
  -- region 2
  refine JC.region ?_
  refine JL.val rfl rfl rfl (.none rfl) (Ev.bin rfl rfl lss_int) ?_
  refine JL.nil ?_
  refine JQ.thenN ?_
  refine JC.seq ?_
  refine JC.cond rfl (fun hc1 => ?_) (fun hc1 => ?_)
  · -- t22 True
    replace hc1 := of_decide_eq_true hc1
    have hk16 : k < 16 := by have := congrArg Int.toNat (show (16 : Int) = 16 from rfl); rw [UInt64.toNat_ofNat'] at hc1; have : k % 2 ^ 64 = k := Nat.mod_eq_of_lt (by omega); rw [this] at hc1; have e16 : ((16 : UInt64).toNat : Int) = 16 := rfl; omega
    refine JC.skip ?_
    refine JQ.thenN ?_
    refine JC.seq ?_
    refine JC.block ?_
    refine JC.seq ?_
    -- region 3
    refine JC.region ?_
    refine JL.val rfl rfl rfl (.none rfl) (Ev.move rfl) ?_
    refine JL.val rfl rfl rfl (.none rfl) (Ev.assign rfl) ?_
    refine JL.nil ?_
    refine JQ.thenN ?_
    refine JC.seq ?_
    -- region 4
    refine JC.region ?_
    refine JL.val rfl rfl rfl (.none rfl) (Ev.move rfl) ?_
    refine JL.val rfl rfl rfl (.none rfl) (Ev.move rfl) ?_
    refine JL.callN rfl (.none rfl) rfl Tryd.call55 (fun w1 hw1 => put4_any oh ch (s ++ be i.toUInt64 4) w1 ((hCh w1 hw1 (fun p hp => by simp [hp])).bs (by simp [be_length, hs])) (by simp [be_length]; omega) (UInt64.ofNat k) (by rw [UInt64.toNat_ofNat']; omega)) ?_
    rintro _ _ ⟨r2, rfl, rfl, hr2⟩
    refine JL.val rfl rfl rfl (.none rfl) (Ev.move rfl) ?_
    refine JL.val rfl rfl rfl (.none rfl) (Ev.ex0 rfl) ?_
    refine JL.val rfl rfl rfl (.none rfl) (Ev.ex1 rfl) ?_
    refine JL.val rfl rfl rfl (.none rfl) (Ev.assign rfl) ?_
    refine JL.val rfl rfl rfl (.none rfl) (Ev.assign rfl) ?_
    refine JL.nil ?_
    refine JQ.thenN ?_
    refine JC.seq ?_
    -- region 5
    refine JC.region ?_
    obtain ⟨ox, cx, ex, hx0, hC⟩ := Row.vw (e := 5) hr2
    refine JL.re (d := 7) (v' := .slice ox (s ++ be i.toUInt64 4 ++ be (UInt64.ofNat k) 4).length cx) rfl (ex.trans (by simp [be_length, hs])) ?_
    refine JL.val rfl rfl rfl (.none rfl) (Ev.move rfl) ?_
    refine JL.callV rfl (.none rfl) rfl Tryd.call56 (fun w1 hw1 => Sum_any ox cx (s ++ be i.toUInt64 4 ++ be (UInt64.ofNat k) 4) w1 ((hC w1 hw1 (fun p hp => by simp [hp])).bs (by simp [be_length, hs])) (by simp [be_length]; omega) (hk.old hw1) (hf.old hw1)) ?_
    refine JL.val rfl rfl rfl (.none rfl) (Ev.move rfl) ?_
    refine JL.val rfl rfl rfl (.none rfl) (Ev.ex0 rfl) ?_
    refine JL.val rfl rfl rfl (.none rfl) (Ev.ex1 rfl) ?_
    refine JL.new rfl rfl rfl (.none rfl) (En.allocZ (cs := arr8 (List.replicate 32 0)) Tryd.zeroValue40 rfl) (fun b9 hb9 => ?_)
    refine JL.sto rfl rfl (.none rfl) (Es.storeA rfl rfl Tryd.sizeOf40 (by repeat (first | exact .here | apply Upd.there | apply Upd.left)) (by rw [arr8_size, shaO_length]) (by first | rfl | exact dig_size _ | (rw [arr8_size]; first | exact sha_length _ | exact shaO_length _ | assumption)) (arr8_one _)) ?_
    refine JL.reH (o' := .cells (arr8 (sha (s ++ be i.toUInt64 4 ++ be (UInt64.ofNat k) 4))) 40 (0, 0)) .here (congrArg (fun c => Obj.cells (arr8 c) 40 (0, 0)) (shaO_small (by simp [be_length]; omega))) ?_
    refine JL.val rfl rfl rfl (.none rfl) (Ev.assign rfl) ?_
    refine JL.nil ?_
    refine JQ.thenN ?_
    refine JC.seq ?_
    -- region 6
    refine JC.region ?_
    refine JL.val rfl rfl rfl (.none rfl) (Ev.sliceA rfl Tryd.underlying40 Tryd.sizeOf5) ?_
    refine JL.re (d := 36) (v' := .slice (some ⟨b9, 0, none⟩) (sha (s ++ be i.toUInt64 4 ++ be (UInt64.ofNat k) 4)).length 32) rfl (by rw [sha_length]) ?_
    refine JL.callV rfl (.none rfl) rfl Tryd.call57 (fun w1 hw1 => take_any ⟨b9, 0, none⟩ 32 (sha (s ++ be i.toUInt64 4 ++ be (UInt64.ofNat k) 4)) w1 (by have := bs_of_block hw1 (List.Mem.head _) (by rw [sha_length]; decide); rwa [sha_length] at this) (by rw [sha_length]; decide) 0 8 (by decide) (by decide) (by rw [sha_length]; decide)) ?_
    refine JL.val rfl rfl rfl (.none rfl) (Ev.move rfl) ?_
    refine JL.re (d := 35) (v' := .tuple #[u64 (tryD s i k), .int .i64 8, .int .i64 0]) rfl rfl ?_
    refine JL.val rfl rfl rfl (.none rfl) (Ev.ex0 rfl) ?_
    refine JL.re (d := 38) (v' := u64 (tryD s i k)) rfl rfl ?_
    refine JL.val rfl rfl rfl (.none rfl) (Ev.ex1 rfl) ?_
    refine JL.val rfl rfl rfl (.none rfl) (Ev.ex2 rfl) ?_
    refine JL.val rfl rfl rfl (.none rfl) (Ev.assign rfl) ?_
    refine JL.val rfl rfl rfl (.none rfl) (Ev.assign rfl) ?_
    refine JL.val rfl rfl rfl (.none rfl) (Ev.assign rfl) ?_
    refine JL.nil ?_
    refine JQ.thenN ?_
    refine JC.seq ?_
    -- region 7
    refine JC.region ?_
    refine JL.val rfl rfl rfl (.none rfl) (Ev.move rfl) ?_
    refine JL.val rfl rfl rfl (.none rfl) (Ev.move rfl) ?_
    refine JL.yieldG rfl rfl (.none rfl) rfl rfl (fun w1 hw1 => hy k x _ ((b9, Obj.cells (arr8 (sha (s ++ be i.toUInt64 4 ++ be (UInt64.ofNat k) 4))) 40 (0, 0)) :: (Row.b 5 r2 ++ (Row.b 5 r0 ++ [(bi, Obj.cells #[u32 i] 41 (0, 0)), (bs, Obj.cells (arr8 s) 65 (0, 0))]))) w1 hk16 hix rfl (by simpa using hw1)) ?_ ?_
    · -- yield true
      rintro x2 hi2
      refine JL.val rfl rfl rfl (.none rfl) (Ev.not rfl) ?_
      refine JL.nil ?_
      refine JQ.thenN ?_
      refine JC.condF rfl ?_
      refine JC.skip ?_
      refine JQ.blockN ?_
      refine JQ.thenN ?_
      -- region 8
      refine JC.region ?_
      refine JL.val rfl rfl rfl (.none rfl) (Ev.bin rfl rfl (add_u64 (y := 1))) ?_
      refine JL.val rfl rfl rfl (.none rfl) (Ev.move rfl) ?_
      refine JL.nil ?_
      refine JQ.re (d := 21) (v' := u64 (UInt64.ofNat (k + 1))) rfl (congrArg u64 (UInt64.ofNat_add k 1).symm) ?_
      refine JQ.loopN (k + 1, x2) ?_ ?_ ?_ ?_
      · exact Keeps.get (by repeat (first | exact Keeps.nil | refine Keeps.cons rfl ?_))
      · first | exact Sub.all | exact Sub.of_cnt (fun a => by (try dsimp only); simp only [cntA]; omega) | repeat (first | exact Sub.nil | refine Sub.cons (by first | exact .here | exact .there .here | exact .there (.there .here) | exact .there (.there (.there .here)) | exact .there (.there (.there (.there .here)))) ?_ | exact Sub.all)
      · exact ⟨by omega, hi2⟩
      · show 16 - (k + 1) < 16 - k; omega
    · -- yield false
      rintro B hz
      refine JL.val rfl rfl rfl (.none rfl) (Ev.not rfl) ?_
      refine JL.nil ?_
      refine JQ.thenN ?_
      refine JC.condT rfl ?_
      refine JC.ret ?_
      refine JQ.blockR ?_
      refine JQ.thenR ?_
      refine JQ.thenR ?_
      refine JQ.blockR ?_
      refine JQ.end0 (H' := (((b9, Obj.cells (arr8 (sha (s ++ be i.toUInt64 4 ++ be (UInt64.ofNat k) 4))) 40 (0, 0)) :: (Row.b 5 r2 ++ (Row.b 5 r0 ++ [(bi, Obj.cells #[u32 i] 41 (0, 0)), (bs, Obj.cells (arr8 s) 65 (0, 0))]))) ++ B)) (.inl rfl) rfl  ?_ ?_
      · first | exact Sub.all | exact Sub.of_cnt (fun a => by (try dsimp only); simp only [cntA]; omega) | repeat (first | exact Sub.nil | refine Sub.cons (by first | exact .here | exact .there .here | exact .there (.there .here) | exact .there (.there (.there .here)) | exact .there (.there (.there (.there .here)))) ?_ | exact Sub.all)
      · exact .inr ⟨B, _, hz, rfl⟩
  · -- t22 False
    replace hc1 := of_decide_eq_false hc1
    obtain rfl : k = 16 := by rw [UInt64.toNat_ofNat'] at hc1; have : k % 2 ^ 64 = k := Nat.mod_eq_of_lt (by omega); rw [this] at hc1; have e16 : ((16 : UInt64).toNat : Int) = 16 := rfl; omega
    refine JC.exit ?_
    refine JQ.thenE ?_
    refine JQ.thenE ?_
    refine JQ.blockE ?_
    refine JQ.end0 (H' := ((Row.b 5 r0 ++ (bi, .cells #[u32 i] 41 (0, 0)) :: (bs, .cells (arr8 s) 65 (0, 0)) :: []) ++ A x)) (.inr rfl) rfl  ?_ ?_
    · first | exact Sub.all | exact Sub.of_cnt (fun a => by (try dsimp only); simp only [cntA]; omega) | repeat (first | exact Sub.nil | refine Sub.cons (by first | exact .here | exact .there .here | exact .there (.there .here) | exact .there (.there (.there .here)) | exact .there (.there (.there (.there .here)))) ?_ | exact Sub.all)
    · exact .inl ⟨x, _, hix, rfl⟩

def numV (s : List UInt8) (i : UInt32) (m : UInt64) : UInt64 := if m.toNat < 1 ∨ 4294967296 < m.toNat then 0 else drawnV s i m
def numE (s : List UInt8) (i : UInt32) (m : UInt64) : Int := if m.toNat < 1 ∨ 4294967296 < m.toNat then 2 else drawnE s i m
theorem draw_any (s : List UInt8) (hs : s.length = 32) (i : UInt32) (m : UInt64) (h1 : 1 ≤ m.toNat) (h2 : m.toNat ≤ 4294967296) (w : World) (hk : KMem 1 w) (hf : FMem 0 w) :
    Calls Tryd.prog 37 #[.agg (arr8 s), u32 i, u64 m] w (Ret w (fun v _ => v = .tuple #[u64 (drawnV s i m), .int .i64 (drawnE s i m)])) := by
  have hm0 : m ≠ 0 := fun h => by rw [h] at h1; exact absurd h1 (by decide)
  have hrp := rest_prog h1 h2
  refine enterM (vs := [.agg (arr8 s), u32 i, u64 m]) Tryd.func37 rfl Tryd.ntmps37 rfl ?_
  refine JC.seq ?_
  -- region 0
  refine JC.region ?_
  refine JL.new rfl rfl rfl (.none rfl) (En.boxA rfl) (fun b3 hb3 => ?_)
  refine JL.new rfl rfl rfl (.none rfl) (En.box1 rfl rfl) (fun b5 hb5 => ?_)
  refine JL.new rfl rfl rfl (.none rfl) (En.allocZ (cs := #[u64 0]) Tryd.zeroValue51 rfl) (fun b6 hb6 => ?_)
  refine JL.new rfl rfl rfl (.none rfl) (En.allocZ (cs := #[.int .i64 0]) Tryd.zeroValue32 rfl) (fun b7 hb7 => ?_)
  refine JL.nil ?_
  refine JQ.thenN ?_
  refine JC.scope ?_
  refine JC.seq ?_
  -- region 1
  refine JC.region ?_
  refine JL.val rfl rfl rfl (.none rfl) (Ev.load1 rfl Tryd.underlying51 rfl (Rd.own (by repeat (first | exact List.Mem.head _ | refine List.Mem.tail _ ?_ | refine List.mem_append_right _ ?_ | assumption)) rfl)) ?_
  refine JL.val rfl rfl rfl (.none rfl) (Ev.negU64 rfl) ?_
  refine JL.val rfl rfl rfl (.none rfl) (Ev.load1 rfl Tryd.underlying51 rfl (Rd.own (by repeat (first | exact List.Mem.head _ | refine List.Mem.tail _ ?_ | refine List.mem_append_right _ ?_ | assumption)) rfl)) ?_
  refine JL.val rfl rfl rfl (.none rfl) (Ev.bin rfl rfl (rem_u64 hm0)) ?_
  refine JL.new rfl rfl rfl (.none rfl) (En.allocZ (cs := #[u64 0]) Tryd.zeroValue51 rfl) (fun b8 hb8 => ?_)
  refine JL.sto rfl rfl (.none rfl) (Es.store1 rfl rfl Tryd.sizeOf51 rfl rfl (by repeat (first | exact .here | apply Upd.there | apply Upd.left)) (by simp)) ?_
  refine JL.nil ?_
  refine JQ.thenN ?_
  refine JC.seq ?_
  refine JC.label ?_
  refine JQ.thenN ?_
  refine JC.seq ?_
  refine JC.seq ?_
  -- region 2
  refine JC.region ?_
  refine JL.val rfl rfl rfl (.none rfl) (Ev.loadB rfl (by repeat (first | exact List.Mem.head _ | refine List.Mem.tail _ ?_ | refine List.mem_append_right _ ?_ | assumption)) Tryd.underlying65 rfl Tryd.sizeOf65 (by rw [arr8_size, hs])) ?_
  refine JL.val rfl rfl rfl (.none rfl) (Ev.move rfl) ?_
  refine JL.callN rfl (.none rfl) rfl Tryd.call42 (fun w1 hw1 => tries_any s i w1) ?_
  rintro _ _ ⟨bs, bi, rfl, rfl⟩
  refine JL.nil ?_
  refine JQ.thenN ?_
  refine JC.block ?_
  refine JC.rangeG (ps := [17]) (X := UInt64 × Int) (16) (fun ⟨rv, re⟩ E => (b8, Obj.cells #[u64 ((0 - m) % m)] 51 (0, 0)) :: (b7, Obj.cells #[.int .i64 re] 32 (0, 0)) :: (b6, Obj.cells #[u64 rv] 51 (0, 0)) :: (b5, Obj.cells #[u64 m] 51 (0, 0)) :: (b3, Obj.cells (arr8 s) 65 (0, 0)) :: E) (fun k ⟨rv, re⟩ => rv = 0 ∧ re = 0 ∧ ∀ j, j < k → ¬ small m (tryD s i j)) (fun c ⟨rv, re⟩ => c = Code.ret ∧ ∃ k, k < 16 ∧ (∀ j, j < k → ¬ small m (tryD s i j)) ∧ small m (tryD s i k) ∧ rv = tryD s i k % m ∧ re = 0) ((fun k vs _ => vs = [u64 (tryD s i k)])) ([(bi, Obj.cells #[u32 i] 41 (0, 0)), (bs, Obj.cells (arr8 s) 65 (0, 0))]) (0, 0) (fun k ⟨rv, re⟩ vs => [(9, (vs.headD undef)), (3, .pointer (some ⟨b3, 0, none⟩)), (5, .pointer (some ⟨b5, 0, none⟩)), (6, .pointer (some ⟨b6, 0, none⟩)), (7, .pointer (some ⟨b7, 0, none⟩)), (8, .pointer (some ⟨b8, 0, none⟩)), (17, (vs.headD undef))]) (fun _ _ => rfl) rfl Tryd.call54 ?_ ?_ rfl (fun _ _ _ h => by rw [h]; rfl) (fun X A Inv Z l x0 w1 hi hw hy => triesI_any s hs i bs bi X A Inv Z l x0 w w1 hi hw hy hk hf) ?_ ?_ ?_ ?_
  · first | exact Sub.all | exact Sub.of_cnt (fun a => by (try dsimp only); simp only [cntA]; omega) | repeat (first | exact Sub.nil | refine Sub.cons (by first | exact .here | exact .there .here | exact .there (.there .here) | exact .there (.there (.there .here)) | exact .there (.there (.there (.there .here)))) ?_ | exact Sub.all)
  · exact ⟨rfl, rfl, fun j hj => by omega⟩
  · rintro lr k ⟨rv, re⟩ vs O E hkN ⟨rfl, rfl, hrej⟩ rfl hO
    -- region 3
    refine JC.region ?_
    refine JL.val rfl rfl rfl (.none rfl) (Ev.assign rfl) ?_
    refine JL.nil ?_
    refine JQ.asg ?_
    exact Keeps.get (by repeat (first | exact Keeps.nil | refine Keeps.cons rfl ?_))
  · rintro lr k ⟨rv, re⟩ vs O E hkN ⟨rfl, rfl, hrej⟩ rfl hO
    change JC _ [(9, u64 (tryD s i k)), (3, .pointer (some ⟨b3, 0, none⟩)), (5, .pointer (some ⟨b5, 0, none⟩)), (6, .pointer (some ⟨b6, 0, none⟩)), (7, .pointer (some ⟨b7, 0, none⟩)), (8, .pointer (some ⟨b8, 0, none⟩)), (17, u64 (tryD s i k))] _ _ _
    refine JC.block ?_
    refine JC.seq ?_
    refine JC.seq ?_
    -- region 4
    refine JC.region ?_
    refine JL.val rfl rfl rfl (.none rfl) (Ev.load1 rfl Tryd.underlying51 rfl (Rd.own (by repeat (first | exact List.Mem.head _ | refine List.Mem.tail _ ?_ | refine List.mem_append_right _ ?_ | assumption)) rfl)) ?_
    refine JL.val rfl rfl rfl (.none rfl) (Ev.bin rfl rfl gtr_int) ?_
    refine JL.val rfl rfl rfl (.none rfl) (Ev.move rfl) ?_
    refine JL.split (d := 20) rfl (fun hg1 => ?_) (fun hg1 => ?_)
    · -- guard 20 true
      have hr0 : 0 < ((0 - m) % m).toNat := by have := of_decide_eq_true hg1; exact Int.ofNat_lt.1 this
      have hrn := neg_toNat hr0
      refine JL.val rfl rfl rfl (.yes rfl rfl rfl) (Ev.move rfl) ?_
      refine JL.val rfl rfl rfl (.yes rfl rfl rfl) (Ev.load1 rfl Tryd.underlying51 rfl (Rd.own (by repeat (first | exact List.Mem.head _ | refine List.Mem.tail _ ?_ | refine List.mem_append_right _ ?_ | assumption)) rfl)) ?_
      refine JL.val rfl rfl rfl (.yes rfl rfl rfl) (Ev.negU64 rfl) ?_
      refine JL.val rfl rfl rfl (.yes rfl rfl rfl) (Ev.bin rfl rfl geq_int) ?_
      refine JL.val rfl rfl rfl (.none rfl) (Ev.pickT rfl rfl) ?_
      refine JL.nil ?_
      refine JQ.thenN ?_
      refine JC.cond rfl (fun hc1 => ?_) (fun hc1 => ?_)
      · -- t25 True
        replace hc1 := of_decide_eq_true hc1
        have hns : ¬ small m (tryD s i k) := by unfold small; rw [← hrp]; omega
        refine JC.exit ?_
        refine JQ.thenE ?_
        refine JQ.blockE ?_
        refine JQ.bodG (0, 0) ?_ ?_
        · exact ⟨rfl, rfl, all_succ hrej hns⟩
        · first | exact Sub.all | exact Sub.of_cnt (fun a => by (try dsimp only); simp only [cntA]; omega) | repeat (first | exact Sub.nil | refine Sub.cons (by first | exact .here | exact .there .here | exact .there (.there .here) | exact .there (.there (.there .here)) | exact .there (.there (.there (.there .here)))) ?_ | exact Sub.all)
      · -- t25 False
        replace hc1 := of_decide_eq_false hc1
        have hsm : small m (tryD s i k) := by unfold small; rw [← hrp]; omega
        refine JC.skip ?_
        refine JQ.thenN ?_
        refine JC.seq ?_
        -- region 5
        refine JC.region ?_
        refine JL.val rfl rfl rfl (.none rfl) (Ev.move rfl) ?_
        refine JL.val rfl rfl rfl (.none rfl) (Ev.load1 rfl Tryd.underlying51 rfl (Rd.own (by repeat (first | exact List.Mem.head _ | refine List.Mem.tail _ ?_ | refine List.mem_append_right _ ?_ | assumption)) rfl)) ?_
        refine JL.val rfl rfl rfl (.none rfl) (Ev.bin rfl rfl (rem_u64 hm0)) ?_
        refine JL.sto rfl rfl (.none rfl) (Es.store1 rfl rfl Tryd.sizeOf51 rfl rfl (by repeat (first | exact .here | apply Upd.there | apply Upd.left)) (by simp)) ?_
        refine JL.sto rfl rfl (.none rfl) (Es.store1 rfl rfl Tryd.sizeOf32 rfl rfl (by repeat (first | exact .here | apply Upd.there | apply Upd.left)) (by simp)) ?_
        refine JL.nil ?_
        refine JQ.thenN ?_
        refine JC.ret ?_
        refine JQ.blockR ?_
        refine JQ.bodS .ret (tryD s i k % m, 0) rfl ?_ ?_
        · exact ⟨rfl, k, hkN, hrej, hsm, rfl, rfl⟩
        · first | exact Sub.all | exact Sub.of_cnt (fun a => by (try dsimp only); simp only [cntA]; omega) | repeat (first | exact Sub.nil | refine Sub.cons (by first | exact .here | exact .there .here | exact .there (.there .here) | exact .there (.there (.there .here)) | exact .there (.there (.there (.there .here)))) ?_ | exact Sub.all)
    · -- guard 20 false
      have hr0 : ¬ 0 < ((0 - m) % m).toNat := by have := of_decide_eq_false hg1; exact fun h => this (Int.ofNat_lt.2 h)
      have hsm : small m (tryD s i k) := by unfold small; rw [← hrp]; have := (tryD s i k).toNat_lt; omega
      refine JL.skip rfl rfl (.noT rfl rfl rfl) ?_
      refine JL.skip rfl rfl (.noT rfl rfl rfl) ?_
      refine JL.skip rfl rfl (.noT rfl rfl rfl) ?_
      refine JL.skip rfl rfl (.noT rfl rfl rfl) ?_
      refine JL.val rfl rfl rfl (.none rfl) (Ev.pickF rfl rfl) ?_
      refine JL.nil ?_
      refine JQ.thenN ?_
      refine JC.condF rfl ?_
      refine JC.skip ?_
      refine JQ.thenN ?_
      refine JC.seq ?_
      -- region 5
      refine JC.region ?_
      refine JL.val rfl rfl rfl (.none rfl) (Ev.move rfl) ?_
      refine JL.val rfl rfl rfl (.none rfl) (Ev.load1 rfl Tryd.underlying51 rfl (Rd.own (by repeat (first | exact List.Mem.head _ | refine List.Mem.tail _ ?_ | refine List.mem_append_right _ ?_ | assumption)) rfl)) ?_
      refine JL.val rfl rfl rfl (.none rfl) (Ev.bin rfl rfl (rem_u64 hm0)) ?_
      refine JL.sto rfl rfl (.none rfl) (Es.store1 rfl rfl Tryd.sizeOf51 rfl rfl (by repeat (first | exact .here | apply Upd.there | apply Upd.left)) (by simp)) ?_
      refine JL.sto rfl rfl (.none rfl) (Es.store1 rfl rfl Tryd.sizeOf32 rfl rfl (by repeat (first | exact .here | apply Upd.there | apply Upd.left)) (by simp)) ?_
      refine JL.nil ?_
      refine JQ.thenN ?_
      refine JC.ret ?_
      refine JQ.blockR ?_
      refine JQ.bodS .ret (tryD s i k % m, 0) rfl ?_ ?_
      · exact ⟨rfl, k, hkN, hrej, hsm, rfl, rfl⟩
      · first | exact Sub.all | exact Sub.of_cnt (fun a => by (try dsimp only); simp only [cntA]; omega) | repeat (first | exact Sub.nil | refine Sub.cons (by first | exact .here | exact .there .here | exact .there (.there .here) | exact .there (.there (.there .here)) | exact .there (.there (.there (.there .here)))) ?_ | exact Sub.all)
  · rintro ⟨rv, re⟩ D E ⟨rfl, rfl, hrej⟩
    refine JQ.blockN ?_
    refine JQ.thenN ?_
    refine JC.seq ?_
    -- region 6
    refine JC.region ?_
    refine JL.sto rfl rfl (.none rfl) (Es.store1 rfl rfl Tryd.sizeOf51 rfl rfl (by repeat (first | exact .here | apply Upd.there | apply Upd.left)) (by simp)) ?_
    refine JL.sto rfl rfl (.none rfl) (Es.store1 rfl rfl Tryd.sizeOf32 rfl rfl (by repeat (first | exact .here | apply Upd.there | apply Upd.left)) (by simp)) ?_
    refine JL.nil ?_
    refine JQ.thenN ?_
    refine JC.ret ?_
    refine JQ.scR ?_
    refine JQ.endMs (H' := []) (.inl rfl) (by repeat (first | exact List.Mem.head _ | refine List.Mem.tail _ ?_ | refine List.mem_append_right _ ?_ | assumption)) ⟨_, (by repeat (first | exact .here | apply Upd.there | apply Upd.left)), by first | exact Sub.all | exact Sub.of_cnt (fun a => by (try dsimp only); simp only [cntA]; omega) | repeat (first | exact Sub.nil | refine Sub.cons (by first | exact .here | exact .there .here | exact .there (.there .here) | exact .there (.there (.there .here)) | exact .there (.there (.there (.there .here)))) ?_ | exact Sub.all), (res2 rfl (.one rfl (by repeat (first | exact List.Mem.head _ | refine List.Mem.tail _ ?_ | refine List.mem_append_right _ ?_ | assumption)) Tryd.underlying51 rfl) (.one rfl (by repeat (first | exact List.Mem.head _ | refine List.Mem.tail _ ?_ | refine List.mem_append_right _ ?_ | assumption)) Tryd.underlying32 rfl))⟩ ?_
    · have hd := drawn_none hrej; simp [drawnV, drawnE, hd, u64]
  · rintro c ⟨rv, re⟩ D E ⟨rfl, k, hk16, hrej, hsm, rfl, rfl⟩
    refine JC.ret ?_
    refine JQ.blockR ?_
    refine JQ.thenR ?_
    refine JQ.scR ?_
    refine JQ.endMs (H' := []) (.inl rfl) (by repeat (first | exact List.Mem.head _ | refine List.Mem.tail _ ?_ | refine List.mem_append_right _ ?_ | assumption)) ⟨_, (by repeat (first | exact .here | apply Upd.there | apply Upd.left)), by first | exact Sub.all | exact Sub.of_cnt (fun a => by (try dsimp only); simp only [cntA]; omega) | repeat (first | exact Sub.nil | refine Sub.cons (by first | exact .here | exact .there .here | exact .there (.there .here) | exact .there (.there (.there .here)) | exact .there (.there (.there (.there .here)))) ?_ | exact Sub.all), (res2 rfl (.one rfl (by repeat (first | exact List.Mem.head _ | refine List.Mem.tail _ ?_ | refine List.mem_append_right _ ?_ | assumption)) Tryd.underlying51 rfl) (.one rfl (by repeat (first | exact List.Mem.head _ | refine List.Mem.tail _ ?_ | refine List.mem_append_right _ ?_ | assumption)) Tryd.underlying32 rfl))⟩ ?_
    · have hd := drawn_some hk16 hrej hsm; simp [drawnV, drawnE, hd, u64]

end Go.Proofs.YtjjoenbighmfoaaDoor
