/-
  Leaves and nodes: a byte ahead of an input, or of two digests; in the program and in the reference.
-/
import Derived.Test.YtebinlinhmohbaaDoorRef3
namespace Go.Proofs.YtebinlinhmohbaaDoor
open Go Go.RowKit
set_option maxRecDepth 100000

theorem bs_of_row {w0 w : World} {H : Blocks} {e : TypeId} {n : Nat} {r : Row} {l : List UInt8} {xs : List Value} (hw : Hp w0 H w) (hm : (r.g, Obj.cells r.cs e (0, 0)) ∈ H) (hr : Row.ok 1 n xs (some r)) (hn : n = l.length) (hx : xs = l.map u8 := by first | rfl | simp) :
    Bs w (some ⟨r.g, 0, none⟩) r.cap l := by
  subst hx
  subst hn
  exact ⟨hr.2.1, hr.2.2.1, fun h => (by cases h), fun a ha => by cases ha; exact mem_of_row hw hm hr⟩
theorem lim_succ (l : List UInt8) : (if 8192 < (0 :: l).length then (4 : Int) else 0) = if 8191 < l.length then 4 else 0 := by
  by_cases h : 8191 < l.length
  · rw [if_pos h, if_pos (by simp; omega)]
  · rw [if_neg h, if_neg (by simp; omega)]

theorem rNode_any (a b : List UInt8) (ha : a.length = 32) (hb : b.length = 32) (w : World) :
    Calls Tryd.prog 42 #[.agg (arr8 a), .agg (arr8 b)] w (Ret w (fun v _ => v = .agg (arr8 (sha (1 :: (a ++ b)))))) := by
  refine enter (vs := [.agg (arr8 a), .agg (arr8 b)]) Tryd.func42 rfl Tryd.ntmps42 rfl ?_
  refine JC.seq ?_
  -- region 0
  refine JC.region ?_
  refine JL.new rfl rfl rfl (.none rfl) (En.boxA rfl) (fun b2 hb2 => ?_)
  refine JL.new rfl rfl rfl (.none rfl) (En.boxA rfl) (fun b3 hb3 => ?_)
  refine JL.new rfl rfl rfl (.none rfl) (En.allocZ (cs := arr8 (List.replicate 32 0)) Tryd.zeroValue22 rfl) (fun b4 hb4 => ?_)
  refine JL.nil ?_
  refine JQ.thenN ?_
  refine JC.seq ?_
  -- region 1
  refine JC.region ?_
  refine JL.new rfl rfl rfl (.none rfl) (En.bsN (e := 5) rfl (fun _ => by kernel_rfl)) (fun b6 hb6 => ?_)
  refine JL.val rfl rfl rfl (.none rfl) (Ev.sliceA rfl Tryd.underlying22 Tryd.sizeOf5) ?_
  refine JL.gen rfl rfl rfl (.none rfl) (Eg.append (r := (some ⟨b6, 1, #[u8 1]⟩)) (n := 1) (m := 32) (xs := [u8 1]) (news := (a.map u8)) (z := (.int .u8 0)) (s := 1) (bytes := 1) rfl rfl rfl (by repeat (first | exact .last | exact .here | apply Cut.past | apply Cut.there)) Tryd.underlying71 (by kernel_rfl) rfl (by decide) (by decide) ⟨rfl, by simp, by simp [maxLen], rfl, rfl⟩ (by simp [ha]) (fun ad had => by cases had; exact Rds.all (.tail _ (.tail _ (.tail _ (.head _))))) (fun h => by cases h) (u8s_one _) (by omega)) ?_
  rintro _ _ ⟨r1, rfl, rfl, hr1, hn1⟩
  obtain ⟨r1, rfl⟩ : ∃ r : Row, r1 = some r := by cases r1 with | none => exact absurd (hn1.1 rfl).1 (by simp) | some r => exact ⟨r, rfl⟩
  refine JL.val rfl rfl rfl (.none rfl) (Ev.assign rfl) ?_
  refine JL.nil ?_
  refine JQ.thenN ?_
  refine JC.seq ?_
  -- region 2
  refine JC.region ?_
  refine JL.val rfl rfl rfl (.none rfl) (Ev.move rfl) ?_
  refine JL.val rfl rfl rfl (.none rfl) (Ev.sliceA rfl Tryd.underlying22 Tryd.sizeOf5) ?_
  refine JL.gen rfl rfl rfl (.none rfl) (Eg.append (r := (some r1)) (n := (1 + 32)) (m := 32) (xs := ([u8 1] ++ a.map u8)) (news := (b.map u8)) (z := (.int .u8 0)) (s := 1) (bytes := 1) rfl rfl rfl (by repeat (first | exact .last | exact .here | apply Cut.past | apply Cut.there)) Tryd.underlying71 (by kernel_rfl) rfl (by decide) (by decide) hr1 (by simp [hb]) (fun ad had => by cases had; exact Rds.all (by first | exact .tail _ (.head _) | exact .tail _ (.tail _ (.head _)) | exact .tail _ (.tail _ (.tail _ (.head _))) | exact .tail _ (.tail _ (.tail _ (.tail _ (.head _))))  | exact .head _)) (fun h => by cases h) (u8s_one _) (by omega)) ?_
  rintro _ _ ⟨r2, rfl, rfl, hr2, hn1⟩
  obtain ⟨r2, rfl⟩ : ∃ r : Row, r2 = some r := by cases r2 with | none => exact absurd (hn1.1 rfl).1 (by simp) | some r => exact ⟨r, rfl⟩
  refine JL.re (d := 11) (v' := .slice (some ⟨r2.g, 0, none⟩) ((1 :: (a ++ b))).length r2.cap) rfl (congrArg (fun n => Value.slice (some ⟨r2.g, 0, none⟩) n r2.cap) (by simp; try omega)) ?_
  refine JL.callV rfl (.none rfl) rfl Tryd.call45 (fun w1 hw1 => of_any (some ⟨r2.g, 0, none⟩) r2.cap (1 :: (a ++ b)) w1 (bs_of_row hw1 (by first | exact .tail _ (.head _) | exact .tail _ (.tail _ (.head _)) | exact .tail _ (.tail _ (.tail _ (.head _))) | exact .tail _ (.tail _ (.tail _ (.tail _ (.head _))))  | exact .head _) (hr2) (by simp; omega)) (by simp; omega)) ?_
  refine JL.sto rfl rfl (.none rfl) (Es.storeA rfl rfl Tryd.sizeOf22 (by repeat (first | exact .here | apply Upd.there | apply Upd.left)) (by first | rw [arr8_size, sha_length] | rfl) (by first | rfl | exact dig_size _ | (rw [arr8_size]; first | exact sha_length _ | exact shaO_length _ | assumption)) (arr8_one _)) ?_
  refine JL.nil ?_
  refine JQ.thenN ?_
  refine JC.ret ?_
  refine JQ.end1 (H' := []) (.inl rfl) rfl (.agg rfl (by repeat (first | exact List.Mem.head _ | refine List.Mem.tail _ ?_ | refine List.mem_append_right _ ?_ | assumption)) Tryd.underlying22 rfl Tryd.sizeOf22 (by first | rw [arr8_size, sha_length] | rfl)) ?_ ?_
  · first | exact Sub.all | exact Sub.of_cnt (fun a => by (try dsimp only); simp only [cntA]; omega) | repeat (first | exact Sub.nil | refine Sub.cons (by first | exact .here | exact .there .here | exact .there (.there .here) | exact .there (.there (.there .here)) | exact .there (.there (.there (.there .here)))) ?_ | exact Sub.all)
  · exact rfl

end Go.Proofs.YtebinlinhmohbaaDoor
