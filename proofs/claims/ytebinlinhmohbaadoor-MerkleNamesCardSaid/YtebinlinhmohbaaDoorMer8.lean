/-
  The law of names of the chapter of trees.
-/
import Derived.Test.YtebinlinhmohbaaDoorMer6
import Derived.Test.YtebinlinhmohbaaDoorPair
namespace Go.Proofs.YtebinlinhmohbaaDoor
open Go Go.RowKit
set_option maxRecDepth 100000

def bigZ : List Dig := List.replicate 1025 zeroD
theorem bigZ_len : bigZ.length = 1025 := List.length_replicate
theorem Dl.big {w0 w1 : World} {H : Blocks} {b : Nat} {e : TypeId} (hw : Hp w0 H w1) (hm : (b, Obj.cells (fl bigZ).toArray e (0, 0)) ∈ H) : Dl w1 (some ⟨b, 0, none⟩) 1025 bigZ :=
  ⟨Nat.le_of_eq bigZ_len, by decide, fun h => (by cases h), fun a ha => by
    cases ha
    exact Mem.own hw hm fun j v hj => by simpa using hj⟩
theorem nm1 : plV 4 5 = 1 := by decide +kernel
theorem nm2 : plV 0 5 = 3 := by decide +kernel
theorem nm3 : plV 1023 1024 = 10 := by decide +kernel
theorem nm4 : stepsR 0 3 = 2 := by decide +kernel

theorem lawNames_any (w : World) (hk : KMem 1 w) (hf : FMem 0 w) :
    Calls Tryd.prog 7 #[] w (Ret w (fun v _ => v = .bool true)) := by
  refine enter (vs := []) Tryd.func7 rfl Tryd.ntmps7 rfl ?_
  refine JC.seq ?_
  -- region 0
  refine JC.region ?_
  refine JL.val rfl rfl rfl (.none rfl) (Ev.assign rfl) ?_
  refine JL.nil ?_
  refine JQ.thenN ?_
  refine JC.seq ?_
  -- region 1
  refine JC.region ?_
  refine JL.callV rfl (.none rfl) rfl Tryd.call12 (fun w1 hw1 => PathLen_any 4 5 (by constructor <;> decide) (by constructor <;> decide) w1) ?_
  refine JL.val rfl rfl rfl (.none rfl) (Ev.move rfl) ?_
  refine JL.val rfl rfl rfl (.none rfl) (Ev.ex0 rfl) ?_
  refine JL.val rfl rfl rfl (.none rfl) (Ev.ex1 rfl) ?_
  refine JL.val rfl rfl rfl (.none rfl) (Ev.assign rfl) ?_
  refine JL.val rfl rfl rfl (.none rfl) (Ev.assign rfl) ?_
  refine JL.nil ?_
  refine JQ.thenN ?_
  refine JC.seq ?_
  -- region 2
  refine JC.region ?_
  refine JL.callV rfl (.none rfl) rfl Tryd.call12 (fun w1 hw1 => PathLen_any 0 5 (by constructor <;> decide) (by constructor <;> decide) w1) ?_
  refine JL.val rfl rfl rfl (.none rfl) (Ev.move rfl) ?_
  refine JL.val rfl rfl rfl (.none rfl) (Ev.ex0 rfl) ?_
  refine JL.val rfl rfl rfl (.none rfl) (Ev.ex1 rfl) ?_
  refine JL.val rfl rfl rfl (.none rfl) (Ev.assign rfl) ?_
  refine JL.val rfl rfl rfl (.none rfl) (Ev.assign rfl) ?_
  refine JL.nil ?_
  refine JQ.thenN ?_
  refine JC.seq ?_
  -- region 3
  refine JC.region ?_
  refine JL.callV rfl (.none rfl) rfl Tryd.call17 (fun w1 hw1 => Root_any none 0 [] w1 cs_nil (Nat.zero_le _) (hk.old hw1) (hf.old hw1)) ?_
  refine JL.val rfl rfl rfl (.none rfl) (Ev.move rfl) ?_
  refine JL.val rfl rfl rfl (.none rfl) (Ev.ex0 rfl) ?_
  refine JL.val rfl rfl rfl (.none rfl) (Ev.ex1 rfl) ?_
  refine JL.new rfl rfl rfl (.none rfl) (En.allocZ (cs := arr8 (List.replicate 32 0)) Tryd.zeroValue22 rfl) (fun b5 hb5 => ?_)
  refine JL.sto rfl rfl (.none rfl) (Es.storeA rfl rfl Tryd.sizeOf22 (by repeat (first | exact .here | apply Upd.there | apply Upd.left)) (by first | rfl | exact dig_size _ | (rw [arr8_size]; first | exact sha_length _ | exact shaO_length _ | assumption)) (by first | rfl | exact dig_size _ | (rw [arr8_size]; first | exact sha_length _ | exact shaO_length _ | assumption)) (by first | exact arr8_one _ | exact fun u hu => arr8_one (List.replicate 32 0) u hu | (simp; done) | (simp; exact ⟨rfl, rfl⟩))) ?_
  refine JL.val rfl rfl rfl (.none rfl) (Ev.assign rfl) ?_
  refine JL.nil ?_
  refine JQ.thenN ?_
  refine JC.seq ?_
  -- region 4
  refine JC.region ?_
  refine JL.callV rfl (.none rfl) rfl Tryd.call25 (fun w1 hw1 => Sum_any none 0 [] w1 bs_nil (Nat.zero_le _) (hk.old hw1) (hf.old hw1)) ?_
  refine JL.val rfl rfl rfl (.none rfl) (Ev.move rfl) ?_
  refine JL.val rfl rfl rfl (.none rfl) (Ev.ex0 rfl) ?_
  refine JL.val rfl rfl rfl (.none rfl) (Ev.ex1 rfl) ?_
  refine JL.new rfl rfl rfl (.none rfl) (En.allocZ (cs := arr8 (List.replicate 32 0)) Tryd.zeroValue22 rfl) (fun b7 hb7 => ?_)
  refine JL.sto rfl rfl (.none rfl) (Es.storeA rfl rfl Tryd.sizeOf22 (by repeat (first | exact .here | apply Upd.there | apply Upd.left)) (by first | rfl | exact dig_size _ | (rw [arr8_size]; first | exact sha_length _ | exact shaO_length _ | assumption)) (by first | rfl | exact dig_size _ | (rw [arr8_size]; first | exact sha_length _ | exact shaO_length _ | assumption)) (by first | exact arr8_one _ | exact fun u hu => arr8_one (List.replicate 32 0) u hu | (simp; done) | (simp; exact ⟨rfl, rfl⟩))) ?_
  refine JL.val rfl rfl rfl (.none rfl) (Ev.assign rfl) ?_
  refine JL.nil ?_
  refine JQ.thenN ?_
  refine JC.seq ?_
  -- region 5
  refine JC.region ?_
  refine JL.callN rfl (.none rfl) rfl Tryd.call19 (fun w1 hw1 => Path_any none 0 [] 0 (by constructor <;> decide) w1 cs_nil (Nat.zero_le _) (hk.old hw1) (hf.old hw1)) ?_
  rintro _ _ ⟨r5, rfl, rfl, hr5⟩
  refine JL.val rfl rfl rfl (.none rfl) (Ev.move rfl) ?_
  refine JL.val rfl rfl rfl (.none rfl) (Ev.ex0 rfl) ?_
  refine JL.val rfl rfl rfl (.none rfl) (Ev.ex1 rfl) ?_
  refine JL.val rfl rfl rfl (.none rfl) (Ev.assign rfl) ?_
  refine JL.val rfl rfl rfl (.none rfl) (Ev.assign rfl) ?_
  refine JL.nil ?_
  refine JQ.thenN ?_
  refine JC.seq ?_
  -- region 6
  refine JC.region ?_
  refine JL.new rfl rfl rfl (.none rfl) (En.makeD (n := 1025) rfl rfl Tryd.underlying23 (by kernel_rfl) (by decide)) (fun b45 hb45 => ?_)
  refine JL.re (d := 45) (v' := .slice (some ⟨b45, 0, none⟩) bigZ.length 1025) rfl (by rw [bigZ_len]) ?_
  refine JL.callV rfl (.none rfl) rfl Tryd.call17 (fun w1 hw1 => Root_any (some ⟨b45, 0, none⟩) 1025 bigZ w1 (Dl.big hw1 (by repeat (first | exact List.Mem.head _ | refine List.Mem.tail _ ?_ | refine List.mem_append_right _ ?_))) (by rw [bigZ_len]; decide) (hk.old hw1) (hf.old hw1)) ?_
  refine JL.val rfl rfl rfl (.none rfl) (Ev.move rfl) ?_
  refine JL.val rfl rfl rfl (.none rfl) (Ev.ex0 rfl) ?_
  refine JL.val rfl rfl rfl (.none rfl) (Ev.ex1 rfl) ?_
  refine JL.new rfl rfl rfl (.none rfl) (En.allocZ (cs := arr8 (List.replicate 32 0)) Tryd.zeroValue22 rfl) (fun b11 hb11 => ?_)
  refine JL.sto rfl rfl (.none rfl) (Es.storeA rfl rfl Tryd.sizeOf22 (by repeat (first | exact .here | apply Upd.there | apply Upd.left)) (by first | rfl | exact dig_size _ | (rw [arr8_size]; first | exact sha_length _ | exact shaO_length _ | assumption)) (by first | rfl | exact dig_size _ | (rw [arr8_size]; first | exact sha_length _ | exact shaO_length _ | assumption)) (by first | exact arr8_one _ | exact fun u hu => arr8_one (List.replicate 32 0) u hu | (simp; done) | (simp; exact ⟨rfl, rfl⟩))) ?_
  refine JL.val rfl rfl rfl (.none rfl) (Ev.assign rfl) ?_
  refine JL.nil ?_
  refine JQ.thenN ?_
  refine JC.seq ?_
  -- region 7
  refine JC.region ?_
  refine JL.new rfl rfl rfl (.none rfl) (En.makeD (n := 1025) rfl rfl Tryd.underlying23 (by kernel_rfl) (by decide)) (fun b50 hb50 => ?_)
  refine JL.re (d := 50) (v' := .slice (some ⟨b50, 0, none⟩) bigZ.length 1025) rfl (by rw [bigZ_len]) ?_
  refine JL.callN rfl (.none rfl) rfl Tryd.call19 (fun w1 hw1 => Path_any (some ⟨b50, 0, none⟩) 1025 bigZ (-1) (by constructor <;> decide) w1 (Dl.big hw1 (by repeat (first | exact List.Mem.head _ | refine List.Mem.tail _ ?_ | refine List.mem_append_right _ ?_))) (by rw [bigZ_len]; decide) (hk.old hw1) (hf.old hw1)) ?_
  rintro _ _ ⟨r7, rfl, rfl, hr7⟩
  refine JL.val rfl rfl rfl (.none rfl) (Ev.move rfl) ?_
  refine JL.val rfl rfl rfl (.none rfl) (Ev.ex0 rfl) ?_
  refine JL.val rfl rfl rfl (.none rfl) (Ev.ex1 rfl) ?_
  refine JL.val rfl rfl rfl (.none rfl) (Ev.assign rfl) ?_
  refine JL.val rfl rfl rfl (.none rfl) (Ev.assign rfl) ?_
  refine JL.nil ?_
  refine JQ.thenN ?_
  refine JC.seq ?_
  -- region 8
  refine JC.region ?_
  refine JL.callV rfl (.none rfl) rfl Tryd.call26 (fun w1 hw1 => one_any 1 w1) ?_
  refine JL.callN rfl (.none rfl) rfl Tryd.call27 (fun w1 hw1 => three_any w1) ?_
  rintro _ _ ⟨bt1, rfl, rfl⟩
  refine JL.val rfl rfl rfl (.none rfl) (Ev.cast (v' := .slice (some ⟨bt1, 0, none⟩) [oneD 1].length 3) (by rw [sub3_0]; rfl) (Ev.sliceHi rfl rfl Tryd.underlying23 Tryd.sizeOf22 (h := 1) rfl (show 1 ≤ 3 by decide))) ?_
  refine JL.callV rfl (.none rfl) rfl Tryd.call14 (fun w1 hw1 => Follow_any (oneD 1) 0 3 (by constructor <;> decide) (by constructor <;> decide) (some ⟨bt1, 0, none⟩) 3 [oneD 1] w1 (Dl.take (oa := some ⟨bt1, 0, none⟩) (cap := 3) (ds := [oneD 1, oneD 2, oneD 3]) (k := 1) (cs_block (xs := fl ([oneD 1, oneD 2, oneD 3])) hw1 (by repeat (first | exact List.Mem.head _ | refine List.Mem.tail _ ?_ | refine List.mem_append_right _ ?_)) (by decide)) (by decide)) (by decide) (hk.old hw1) (hf.old hw1)) ?_
  refine JL.val rfl rfl rfl (.none rfl) (Ev.move rfl) ?_
  refine JL.val rfl rfl rfl (.none rfl) (Ev.ex0 rfl) ?_
  refine JL.val rfl rfl rfl (.none rfl) (Ev.ex1 rfl) ?_
  refine JL.new rfl rfl rfl (.none rfl) (En.allocZ (cs := arr8 (List.replicate 32 0)) Tryd.zeroValue22 rfl) (fun b15 hb15 => ?_)
  refine JL.sto rfl rfl (.none rfl) (Es.storeA rfl rfl Tryd.sizeOf22 (by repeat (first | exact .here | apply Upd.there | apply Upd.left)) (by first | rfl | exact dig_size _ | (rw [arr8_size]; first | exact sha_length _ | exact shaO_length _ | assumption)) (by first | rfl | exact dig_size _ | (rw [arr8_size]; first | exact sha_length _ | exact shaO_length _ | assumption)) (by first | exact arr8_one _ | exact fun u hu => arr8_one (List.replicate 32 0) u hu | (simp; done) | (simp; exact ⟨rfl, rfl⟩))) ?_
  refine JL.val rfl rfl rfl (.none rfl) (Ev.assign rfl) ?_
  refine JL.nil ?_
  refine JQ.thenN ?_
  refine JC.seq ?_
  -- region 9
  refine JC.region ?_
  refine JL.callV rfl (.none rfl) rfl Tryd.call26 (fun w1 hw1 => one_any 1 w1) ?_
  refine JL.callV rfl (.none rfl) rfl Tryd.call14 (fun w1 hw1 => Follow_any (oneD 1) 3 3 (by constructor <;> decide) (by constructor <;> decide) none 0 [] w1 cs_nil (Nat.zero_le _) (hk.old hw1) (hf.old hw1)) ?_
  refine JL.val rfl rfl rfl (.none rfl) (Ev.move rfl) ?_
  refine JL.val rfl rfl rfl (.none rfl) (Ev.ex0 rfl) ?_
  refine JL.val rfl rfl rfl (.none rfl) (Ev.ex1 rfl) ?_
  refine JL.new rfl rfl rfl (.none rfl) (En.allocZ (cs := arr8 (List.replicate 32 0)) Tryd.zeroValue22 rfl) (fun b17 hb17 => ?_)
  refine JL.sto rfl rfl (.none rfl) (Es.storeA rfl rfl Tryd.sizeOf22 (by repeat (first | exact .here | apply Upd.there | apply Upd.left)) (by first | rfl | exact dig_size _ | (rw [arr8_size]; first | exact sha_length _ | exact shaO_length _ | assumption)) (by first | rfl | exact dig_size _ | (rw [arr8_size]; first | exact sha_length _ | exact shaO_length _ | assumption)) (by first | exact arr8_one _ | exact fun u hu => arr8_one (List.replicate 32 0) u hu | (simp; done) | (simp; exact ⟨rfl, rfl⟩))) ?_
  refine JL.val rfl rfl rfl (.none rfl) (Ev.assign rfl) ?_
  refine JL.nil ?_
  refine JQ.thenN ?_
  refine JC.seq ?_
  -- region 10
  refine JC.region ?_
  refine JL.callV rfl (.none rfl) rfl Tryd.call12 (fun w1 hw1 => PathLen_any 0 1025 (by constructor <;> decide) (by constructor <;> decide) w1) ?_
  refine JL.val rfl rfl rfl (.none rfl) (Ev.move rfl) ?_
  refine JL.val rfl rfl rfl (.none rfl) (Ev.ex0 rfl) ?_
  refine JL.val rfl rfl rfl (.none rfl) (Ev.ex1 rfl) ?_
  refine JL.val rfl rfl rfl (.none rfl) (Ev.assign rfl) ?_
  refine JL.val rfl rfl rfl (.none rfl) (Ev.assign rfl) ?_
  refine JL.nil ?_
  refine JQ.thenN ?_
  refine JC.seq ?_
  -- region 11
  refine JC.region ?_
  refine JL.callV rfl (.none rfl) rfl Tryd.call12 (fun w1 hw1 => PathLen_any 1023 1024 (by constructor <;> decide) (by constructor <;> decide) w1) ?_
  refine JL.val rfl rfl rfl (.none rfl) (Ev.move rfl) ?_
  refine JL.val rfl rfl rfl (.none rfl) (Ev.ex0 rfl) ?_
  refine JL.val rfl rfl rfl (.none rfl) (Ev.ex1 rfl) ?_
  refine JL.val rfl rfl rfl (.none rfl) (Ev.assign rfl) ?_
  refine JL.val rfl rfl rfl (.none rfl) (Ev.assign rfl) ?_
  refine JL.nil ?_
  refine JQ.thenN ?_
  refine JC.seq ?_
  -- region 12
  refine JC.region ?_
  refine JL.re (d := 2) (v' := .int .i64 0) rfl (congrArg (Value.int .i64) (by decide +kernel)) ?_
  refine JL.re (d := 1) (v' := .int .i64 1) rfl (congrArg (Value.int .i64) (by rw [nm1]; rfl)) ?_
  refine JL.re (d := 4) (v' := .int .i64 0) rfl (congrArg (Value.int .i64) (by decide +kernel)) ?_
  refine JL.re (d := 3) (v' := .int .i64 3) rfl (congrArg (Value.int .i64) (by rw [nm2]; rfl)) ?_
  refine JL.re (d := 6) (v' := .int .i64 0) rfl (congrArg (Value.int .i64) (by decide)) ?_
  refine JL.re (d := 8) (v' := .int .i64 0) rfl (congrArg (Value.int .i64) (if_neg (by decide))) ?_
  refine JL.re (d := 22) (v' := .int .i64 0) rfl (congrArg (Value.int .i64) (by decide +kernel)) ?_
  refine JL.re (d := 21) (v' := .int .i64 10) rfl (congrArg (Value.int .i64) (by rw [nm3]; rfl)) ?_
  refine JL.val rfl rfl rfl (.none rfl) (Ev.move rfl) ?_
  refine JL.val rfl rfl rfl (.none rfl) (Ev.bin rfl rfl eql_int) ?_
  refine JL.val rfl rfl rfl (.none rfl) (Ev.move rfl) ?_
  refine JL.know (d := 76) (b := true) rfl ?_ ?_
  · rfl
  refine JL.val rfl rfl rfl (.yes rfl rfl rfl) (Ev.move rfl) ?_
  refine JL.val rfl rfl rfl (.yes rfl rfl rfl) (Ev.bin rfl rfl eql_int) ?_
  refine JL.val rfl rfl rfl (.none rfl) (Ev.pickT rfl rfl) ?_
  refine JL.val rfl rfl rfl (.none rfl) (Ev.move rfl) ?_
  refine JL.know (d := 80) (b := true) rfl ?_ ?_
  · rfl
  refine JL.val rfl rfl rfl (.yes rfl rfl rfl) (Ev.move rfl) ?_
  refine JL.val rfl rfl rfl (.yes rfl rfl rfl) (Ev.bin rfl rfl eql_int) ?_
  refine JL.val rfl rfl rfl (.none rfl) (Ev.pickT rfl rfl) ?_
  refine JL.val rfl rfl rfl (.none rfl) (Ev.move rfl) ?_
  refine JL.know (d := 84) (b := true) rfl ?_ ?_
  · rfl
  refine JL.val rfl rfl rfl (.yes rfl rfl rfl) (Ev.move rfl) ?_
  refine JL.val rfl rfl rfl (.yes rfl rfl rfl) (Ev.bin rfl rfl eql_int) ?_
  refine JL.val rfl rfl rfl (.none rfl) (Ev.pickT rfl rfl) ?_
  refine JL.val rfl rfl rfl (.none rfl) (Ev.move rfl) ?_
  refine JL.know (d := 88) (b := true) rfl ?_ ?_
  · rfl
  refine JL.val rfl rfl rfl (.yes rfl rfl rfl) (Ev.move rfl) ?_
  refine JL.val rfl rfl rfl (.yes rfl rfl rfl) (Ev.bin rfl rfl eql_int) ?_
  refine JL.val rfl rfl rfl (.none rfl) (Ev.pickT rfl rfl) ?_
  refine JL.val rfl rfl rfl (.none rfl) (Ev.move rfl) ?_
  refine JL.know (d := 92) (b := true) rfl ?_ ?_
  · rfl
  refine JL.val rfl rfl rfl (.yes rfl rfl rfl) (Ev.move rfl) ?_
  refine JL.val rfl rfl rfl (.yes rfl rfl rfl) (Ev.bin rfl rfl eql_int) ?_
  refine JL.val rfl rfl rfl (.none rfl) (Ev.pickT rfl rfl) ?_
  refine JL.val rfl rfl rfl (.none rfl) (Ev.move rfl) ?_
  refine JL.know (d := 96) (b := true) rfl ?_ ?_
  · rfl
  refine JL.val rfl rfl rfl (.yes rfl rfl rfl) (Ev.loadB rfl (by repeat (first | exact List.Mem.head _ | refine List.Mem.tail _ ?_ | refine List.mem_append_right _ ?_ | assumption)) Tryd.underlying22 rfl Tryd.sizeOf22 (by first | rfl | exact dig_size _ | (rw [arr8_size]; first | exact sha_length _ | exact shaO_length _ | assumption))) ?_
  refine JL.val rfl rfl rfl (.yes rfl rfl rfl) (Ev.loadB rfl (by repeat (first | exact List.Mem.head _ | refine List.Mem.tail _ ?_ | refine List.mem_append_right _ ?_ | assumption)) Tryd.underlying22 rfl Tryd.sizeOf22 (by first | rfl | exact dig_size _ | (rw [arr8_size]; first | exact sha_length _ | exact shaO_length _ | assumption))) ?_
  refine JL.val rfl rfl rfl (.yes rfl rfl rfl) (Ev.bin rfl rfl (eql_arr8 (n := 32) Tryd.underlying22 Tryd.underlying5 (by kernel_rfl) (by kernel_rfl) (by first | rfl | exact dig_len _ | assumption | exact sha_length _ | exact shaO_length _) (by first | rfl | exact dig_len _ | assumption | exact sha_length _ | exact shaO_length _))) ?_
  refine JL.val rfl rfl rfl (.none rfl) (Ev.pickT rfl rfl) ?_
  refine JL.val rfl rfl rfl (.none rfl) (Ev.move rfl) ?_
  refine JL.know (d := 101) (b := true) rfl ?_ ?_
  · exact decide_eq_true (shaO_small (by decide)).symm
  refine JL.val rfl rfl rfl (.yes rfl rfl rfl) (Ev.move rfl) ?_
  refine JL.val rfl rfl rfl (.yes rfl rfl rfl) (Ev.bin rfl rfl eql_int) ?_
  refine JL.val rfl rfl rfl (.none rfl) (Ev.pickT rfl rfl) ?_
  refine JL.val rfl rfl rfl (.none rfl) (Ev.move rfl) ?_
  refine JL.know (d := 105) (b := true) rfl ?_ ?_
  · rfl
  refine JL.val rfl rfl rfl (.yes rfl rfl rfl) (Ev.move rfl) ?_
  refine JL.val rfl rfl rfl (.yes rfl rfl rfl) (Ev.bin rfl rfl eql_int) ?_
  refine JL.val rfl rfl rfl (.none rfl) (Ev.pickT rfl rfl) ?_
  refine JL.val rfl rfl rfl (.none rfl) (Ev.assign rfl) ?_
  refine JL.nil ?_
  refine JQ.thenN ?_
  refine JC.seq ?_
  -- region 13
  refine JC.region ?_
  refine JL.re (d := 10) (v' := .int .i64 2) rfl (congrArg (Value.int .i64) (pathE_bad (by decide) (by decide))) ?_
  refine JL.re (d := 12) (v' := .int .i64 4) rfl (congrArg (Value.int .i64) (rootE_gr (by rw [bigZ_len]; decide))) ?_
  refine JL.re (d := 14) (v' := .int .i64 4) rfl (congrArg (Value.int .i64) (pathE_gr (by rw [bigZ_len]; decide))) ?_
  refine JL.re (d := 16) (v' := .int .i64 280) rfl (congrArg (Value.int .i64) (foE_ne (i := 0) (n := 3) (by decide) (by rw [nm4]; decide))) ?_
  refine JL.re (d := 18) (v' := .int .i64 2) rfl (congrArg (Value.int .i64) (foE_bad (by decide))) ?_
  refine JL.re (d := 20) (v' := .int .i64 2) rfl (congrArg (Value.int .i64) (by decide +kernel)) ?_
  refine JL.val rfl rfl rfl (.none rfl) (Ev.move rfl) ?_
  refine JL.callV rfl (.yes rfl rfl rfl) rfl Tryd.call22 (fun w1 hw1 => alive_any w1 (hk.old hw1) (hf.old hw1)) ?_
  refine JL.val rfl rfl rfl (.none rfl) (Ev.pickT rfl rfl) ?_
  refine JL.val rfl rfl rfl (.none rfl) (Ev.move rfl) ?_
  refine JL.know (d := 112) (b := true) rfl ?_ ?_
  · rfl
  refine JL.val rfl rfl rfl (.yes rfl rfl rfl) (Ev.move rfl) ?_
  refine JL.val rfl rfl rfl (.none rfl) (Ev.pickT rfl rfl) ?_
  refine JL.val rfl rfl rfl (.none rfl) (Ev.move rfl) ?_
  refine JL.know (d := 115) (b := true) rfl ?_ ?_
  · rfl
  refine JL.val rfl rfl rfl (.yes rfl rfl rfl) (Ev.move rfl) ?_
  refine JL.val rfl rfl rfl (.yes rfl rfl rfl) (Ev.bin rfl rfl eql_int) ?_
  refine JL.val rfl rfl rfl (.none rfl) (Ev.pickT rfl rfl) ?_
  refine JL.val rfl rfl rfl (.none rfl) (Ev.move rfl) ?_
  refine JL.know (d := 119) (b := true) rfl ?_ ?_
  · rfl
  refine JL.val rfl rfl rfl (.yes rfl rfl rfl) (Ev.move rfl) ?_
  refine JL.val rfl rfl rfl (.yes rfl rfl rfl) (Ev.bin rfl rfl eql_int) ?_
  refine JL.val rfl rfl rfl (.none rfl) (Ev.pickT rfl rfl) ?_
  refine JL.val rfl rfl rfl (.none rfl) (Ev.move rfl) ?_
  refine JL.know (d := 123) (b := true) rfl ?_ ?_
  · rfl
  refine JL.val rfl rfl rfl (.yes rfl rfl rfl) (Ev.move rfl) ?_
  refine JL.val rfl rfl rfl (.yes rfl rfl rfl) (Ev.bin rfl rfl eql_int) ?_
  refine JL.val rfl rfl rfl (.none rfl) (Ev.pickT rfl rfl) ?_
  refine JL.val rfl rfl rfl (.none rfl) (Ev.move rfl) ?_
  refine JL.know (d := 127) (b := true) rfl ?_ ?_
  · rfl
  refine JL.val rfl rfl rfl (.yes rfl rfl rfl) (Ev.move rfl) ?_
  refine JL.val rfl rfl rfl (.yes rfl rfl rfl) (Ev.bin rfl rfl eql_int) ?_
  refine JL.val rfl rfl rfl (.none rfl) (Ev.pickT rfl rfl) ?_
  refine JL.val rfl rfl rfl (.none rfl) (Ev.move rfl) ?_
  refine JL.know (d := 131) (b := true) rfl ?_ ?_
  · rfl
  refine JL.val rfl rfl rfl (.yes rfl rfl rfl) (Ev.move rfl) ?_
  refine JL.val rfl rfl rfl (.yes rfl rfl rfl) (Ev.bin rfl rfl eql_int) ?_
  refine JL.val rfl rfl rfl (.none rfl) (Ev.pickT rfl rfl) ?_
  refine JL.val rfl rfl rfl (.none rfl) (Ev.move rfl) ?_
  refine JL.know (d := 135) (b := true) rfl ?_ ?_
  · rfl
  refine JL.val rfl rfl rfl (.yes rfl rfl rfl) (Ev.move rfl) ?_
  refine JL.val rfl rfl rfl (.yes rfl rfl rfl) (Ev.bin rfl rfl eql_int) ?_
  refine JL.val rfl rfl rfl (.none rfl) (Ev.pickT rfl rfl) ?_
  refine JL.val rfl rfl rfl (.none rfl) (Ev.assign rfl) ?_
  refine JL.nil ?_
  refine JQ.thenN ?_
  refine JC.ret ?_
  refine JQ.end1 (H' := []) (.inl rfl) rfl (.tmp rfl) ?_ ?_
  · first | exact Sub.all | exact Sub.of_cnt (fun a => by (try dsimp only); simp only [cntA]; omega) | repeat (first | exact Sub.nil | refine Sub.cons (by first | exact .here | exact .there .here | exact .there (.there .here) | exact .there (.there (.there .here)) | exact .there (.there (.there (.there .here)))) ?_ | exact Sub.all)
  · first | rfl | exact congrArg Value.bool (decide_eq_true rfl)

end Go.Proofs.YtebinlinhmohbaaDoor
