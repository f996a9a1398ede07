/-
  A common prefix of whole blocks shares its states: walked.
-/
import Derived.Test.YteehmomhaaohhaaDoorLaw4
namespace Go.Proofs.YteehmomhaaohhaaDoor
open Go Go.RowKit
set_option maxRecDepth 100000

def front (l : List UInt8) : List UInt8 := l.take (64 * (l.length / 64))
theorem front_length (l : List UInt8) : (front l).length = 64 * (l.length / 64) := by simp [front]; omega
theorem front_le (l : List UInt8) : (front l).length ≤ l.length := by rw [front_length]; omega
theorem Bs.front {w : World} {oa : Option Addr} {cap : Nat} {l : List UInt8} (h : Bs w oa cap l) : Bs w oa cap (front l) :=
  ⟨Nat.le_trans (front_le l) h.le, h.top, h.empty, fun a ha => (h.mem a ha).take _⟩
theorem Bs.drop {w : World} {a : Addr} {cap : Nat} {l : List UInt8} (h : Bs w (some a) cap l) (o : Nat) (ho : o ≤ l.length) : Bs w (some (a.add o)) (cap - o) (l.drop o) := by
  have := h.cut o (l.length - o) (by omega)
  rwa [List.take_of_length_le (by simp)] at this
theorem add_zero' (a : Addr) : a.add 0 = a := by
  unfold Addr.add
  split
  · rfl
  · rename_i h
    exact absurd rfl h
theorem sub3_hi {oa : Option Addr} {h m : Nat} : sub3 oa 0 h m 1 = .slice oa h m := by
  cases oa <;> simp [sub3, add_zero']
theorem pad_take (l : List UInt8) (b : List UInt8) : (pad (l ++ b)).take l.length = l := by simp [pad, List.append_assoc]
theorem foldB_congr (p q : List UInt8) (s : St) : ∀ k, p.take (64 * k) = q.take (64 * k) → foldB p s k = foldB q s k
  | 0, _ => rfl
  | k + 1, h => by
    have h1 : p.take (64 * k) = q.take (64 * k) := by
      have := congrArg (List.take (64 * k)) h
      rwa [List.take_take, List.take_take, Nat.min_eq_left (by omega)] at this
    have h2 : (p.drop (64 * k)).take 64 = (q.drop (64 * k)).take 64 := by
      have := congrArg (List.drop (64 * k)) h
      rwa [List.drop_take, List.drop_take, show 64 * (k + 1) - 64 * k = 64 by omega] at this
    show comp (foldB p s k) _ = comp (foldB q s k) _
    rw [foldB_congr p q s k h1, h2]
theorem foldB_add (p : List UInt8) (s : St) (a : Nat) : ∀ b, foldB p s (a + b) = foldB (p.drop (64 * a)) (foldB p s a) b
  | 0 => rfl
  | b + 1 => by
    show comp (foldB p s (a + b)) _ = comp (foldB (p.drop (64 * a)) (foldB p s a) b) _
    rw [foldB_add p s a b, List.drop_drop, show 64 * a + 64 * b = 64 * (a + b) by omega]
    rfl
theorem resume_eq (lf lb : List UInt8) : foldB ((pad (front lf ++ lb)).drop (front lf).length) (foldB (front lf) st0 ((front lf).length / 64)) (((pad (front lf ++ lb)).drop (front lf).length).length / 64) =
    foldB (pad (front lf ++ lb)) st0 ((pad (front lf ++ lb)).length / 64) := by
  have h1 := front_length lf
  have h2 := pad_length (front lf ++ lb)
  rw [List.length_append] at h2
  have e1 : (front lf).length / 64 = lf.length / 64 := by omega
  have e2 : foldB (front lf) st0 (lf.length / 64) = foldB (pad (front lf ++ lb)) st0 (lf.length / 64) := by
    apply foldB_congr
    rw [← h1, pad_take, List.take_of_length_le (Nat.le_refl _)]
  rw [List.length_drop, e1, e2, h1, ← foldB_add]
  congr 1
  omega

theorem lawResumes_any (oa ob : Option Addr) (capa capb : Nat) (lf lb : List UInt8) (w : World) (ha : Bs w oa capa lf) (hb : Bs w ob capb lb) (hk : KMem 0 w) (hf : FMem 1 w) :
    Calls Tryd.prog 9 #[.slice oa lf.length capa, .slice ob lb.length capb] w (Ret w (fun v _ => v = .bool true)) := by
  refine enter (vs := [.slice oa lf.length capa, .slice ob lb.length capb]) Tryd.func9 rfl Tryd.ntmps9 rfl ?_
  refine JC.seq ?_
  -- region 0
  refine JC.region ?_
  refine JL.val rfl rfl rfl (.none rfl) (Ev.assign rfl) ?_
  refine JL.nil ?_
  refine JQ.thenN ?_
  refine JC.seq ?_
  -- region 1
  refine JC.region ?_
  refine JL.callV rfl (.none rfl) rfl Tryd.call19 (fun w1 hw1 => alive_any w1 (hk.old hw1) (hf.old hw1)) ?_
  refine JL.val rfl rfl rfl (.none rfl) (Ev.assign rfl) ?_
  refine JL.nil ?_
  refine JQ.thenN ?_
  refine JC.seq ?_
  refine JC.seq ?_
  -- region 2
  refine JC.region ?_
  refine JL.val rfl rfl rfl (.none rfl) (Ev.move rfl) ?_
  refine JL.val rfl rfl rfl (.none rfl) (Ev.lenS rfl Tryd.underlying22) ?_
  refine JL.val rfl rfl rfl (.none rfl) (Ev.bin rfl rfl gtr_int) ?_
  refine JL.val rfl rfl rfl (.none rfl) (Ev.move rfl) ?_
  refine JL.split (d := 19) rfl (fun hg1 => ?_) (fun hg1 => ?_)
  · -- guard 19 true
    refine JL.skip rfl rfl (.noF rfl rfl rfl) ?_
    refine JL.skip rfl rfl (.noF rfl rfl rfl) ?_
    refine JL.skip rfl rfl (.noF rfl rfl rfl) ?_
    refine JL.val rfl rfl rfl (.none rfl) (Ev.pickT rfl rfl) ?_
    refine JL.val rfl rfl rfl (.none rfl) (Ev.move rfl) ?_
    refine JL.skip rfl rfl (.noF rfl rfl rfl) ?_
    refine JL.skip rfl rfl (.noF rfl rfl rfl) ?_
    refine JL.val rfl rfl rfl (.none rfl) (Ev.pickT rfl rfl) ?_
    refine JL.nil ?_
    refine JQ.thenN ?_
    refine JC.condT rfl ?_
    refine JC.seq ?_
    -- region 3
    refine JC.region ?_
    refine JL.val rfl rfl rfl (.none rfl) (Ev.move rfl) ?_
    refine JL.val rfl rfl rfl (.none rfl) (Ev.assign rfl) ?_
    refine JL.nil ?_
    refine JQ.thenN ?_
    refine JC.ret ?_
    refine JQ.thenR ?_
    refine JQ.end1 (H' := []) (.inl rfl) rfl (.tmp rfl) ?_ ?_
    · repeat (first | exact Sub.nil | refine Sub.cons (by first | exact .here | exact .there .here | exact .there (.there .here) | exact .there (.there (.there .here)) | exact .there (.there (.there (.there .here)))) ?_ | exact Sub.all)
    · first | exact rfl | exact congrArg Value.bool (decide_eq_true (by rw [resume_eq]))
  · -- guard 19 false
    have hlf : lf.length ≤ 3840 := by have := of_decide_eq_false hg1; omega
    refine JL.val rfl rfl rfl (.yes rfl rfl rfl) (Ev.move rfl) ?_
    refine JL.val rfl rfl rfl (.yes rfl rfl rfl) (Ev.lenS rfl Tryd.underlying22) ?_
    refine JL.val rfl rfl rfl (.yes rfl rfl rfl) (Ev.bin rfl rfl gtr_int) ?_
    refine JL.val rfl rfl rfl (.none rfl) (Ev.pickF rfl rfl) ?_
    refine JL.val rfl rfl rfl (.none rfl) (Ev.move rfl) ?_
    refine JL.split (d := 24) rfl (fun hg2 => ?_) (fun hg2 => ?_)
    · -- guard 24 true
      refine JL.skip rfl rfl (.noF rfl rfl rfl) ?_
      refine JL.skip rfl rfl (.noF rfl rfl rfl) ?_
      refine JL.val rfl rfl rfl (.none rfl) (Ev.pickT rfl rfl) ?_
      refine JL.nil ?_
      refine JQ.thenN ?_
      refine JC.condT rfl ?_
      refine JC.seq ?_
      -- region 3
      refine JC.region ?_
      refine JL.val rfl rfl rfl (.none rfl) (Ev.move rfl) ?_
      refine JL.val rfl rfl rfl (.none rfl) (Ev.assign rfl) ?_
      refine JL.nil ?_
      refine JQ.thenN ?_
      refine JC.ret ?_
      refine JQ.thenR ?_
      refine JQ.end1 (H' := []) (.inl rfl) rfl (.tmp rfl) ?_ ?_
      · repeat (first | exact Sub.nil | refine Sub.cons (by first | exact .here | exact .there .here | exact .there (.there .here) | exact .there (.there (.there .here)) | exact .there (.there (.there (.there .here)))) ?_ | exact Sub.all)
      · first | exact rfl | exact congrArg Value.bool (decide_eq_true (by rw [resume_eq]))
    · -- guard 24 false
      have hlb : lb.length ≤ 4000 := by have := of_decide_eq_false hg2; omega
      have hfl := front_le lf
      have hal : (front lf ++ lb).length ≤ 8192 := by simp; omega
      have hpl := pad_length (front lf ++ lb)
      have hz : zeros (front lf ++ lb).length < 64 := by unfold zeros; omega
      have hall : (front lf ++ lb).length = (front lf).length + lb.length := List.length_append
      have hfr := ha.front
      refine JL.val rfl rfl rfl (.yes rfl rfl rfl) (Ev.move rfl) ?_
      refine JL.val rfl rfl rfl (.yes rfl rfl rfl) (Ev.not rfl) ?_
      refine JL.val rfl rfl rfl (.none rfl) (Ev.pickF rfl rfl) ?_
      refine JL.nil ?_
      refine JQ.thenN ?_
      refine JC.knowF rfl ?_ ?_
      · rfl
      refine JC.skip ?_
      refine JQ.thenN ?_
      refine JC.seq ?_
      -- region 4
      refine JC.region ?_
      refine JL.val rfl rfl rfl (.none rfl) (Ev.move rfl) ?_
      refine JL.val rfl rfl rfl (.none rfl) (Ev.move rfl) ?_
      refine JL.val rfl rfl rfl (.none rfl) (Ev.lenS rfl Tryd.underlying22) ?_
      refine JL.val rfl rfl rfl (.none rfl) (Ev.bin rfl rfl (quo_i64 (by omega))) ?_
      refine JL.val rfl rfl rfl (.none rfl) (Ev.bin rfl rfl (mul_i64 (by omega))) ?_
      refine JL.re (d := 33) (v' := .int .i64 ((front lf).length : Int)) rfl (congrArg (Value.int .i64) (by rw [front_length]; omega)) ?_
      refine JL.val rfl rfl rfl (.none rfl) (Ev.sliceHi rfl rfl Tryd.underlying22 Tryd.sizeOf5 (h := (front lf).length) rfl (by have := ha.le; omega)) ?_
      refine JL.re (d := 34) (v' := .slice oa (front lf).length capa) rfl sub3_hi ?_
      refine JL.val rfl rfl rfl (.none rfl) (Ev.assign rfl) ?_
      refine JL.nil ?_
      refine JQ.thenN ?_
      refine JC.seq ?_
      -- region 5
      refine JC.region ?_
      refine JL.new rfl rfl rfl (.none rfl) (En.bsN (e := 5) rfl (fun _ => by kernel_rfl)) (fun b35 hb35 => ?_)
      refine JL.val rfl rfl rfl (.none rfl) (Ev.move rfl) ?_
      refine JL.gen rfl rfl rfl (.none rfl) (Eg.append (r := (some ⟨b35, 0, #[]⟩)) (n := 0) (m := (front lf).length) (xs := []) (news := ((front lf).map u8)) (z := (.int .u8 0)) (s := 1) (bytes := 1) rfl rfl rfl (by first | exact .last | exact .here | exact .there .last | exact .there .here | exact .there (.there .last) | exact .there (.there .here) | exact .there (.there (.there .last)) | exact .there (.there (.there .here))) Tryd.underlying22 (by kernel_rfl) rfl (by decide) (by decide) ⟨rfl, by simp, by simp, rfl, rfl⟩ (by simp) (fun a ha => Rds.old (hfr.mem a ha)) (fun h => by have := hfr.le; have := hfr.empty h; omega) (u8s_one _) (by have := front_le lf; omega)) ?_
      rintro _ _ ⟨r1, rfl, rfl, hr1, hn1⟩
      obtain ⟨r1, rfl⟩ : ∃ r : Row, r1 = some r := by cases r1 with | none => exact absurd (hn1.1 rfl).1 (by simp) | some r => exact ⟨r, rfl⟩
      refine JL.val rfl rfl rfl (.none rfl) (Ev.move rfl) ?_
      refine JL.gen rfl rfl rfl (.none rfl) (Eg.append (r := (some r1)) (n := (0 + (front lf).length)) (m := lb.length) (xs := ([] ++ (front lf).map u8)) (news := (lb.map u8)) (z := (.int .u8 0)) (s := 1) (bytes := 1) rfl rfl rfl (by first | exact .last | exact .here | exact .there .last | exact .there .here | exact .there (.there .last) | exact .there (.there .here) | exact .there (.there (.there .last)) | exact .there (.there (.there .here))) Tryd.underlying22 (by kernel_rfl) rfl (by decide) (by decide) hr1 (by simp) (fun a ha => Rds.old (hb.mem a ha)) (fun h => by have := hb.le; have := hb.empty h; omega) (u8s_one _) (by have := front_le lf; omega)) ?_
      rintro _ _ ⟨r2, rfl, rfl, hr2, hn1⟩
      obtain ⟨r2, rfl⟩ : ∃ r : Row, r2 = some r := by cases r2 with | none => exact absurd (hn1.1 rfl).1 (by simp) | some r => exact ⟨r, rfl⟩
      refine JL.re (d := 39) (v' := .slice (some ⟨r2.g, 0, none⟩) (front lf ++ lb).length r2.cap) rfl (congrArg (fun n => Value.slice (some ⟨r2.g, 0, none⟩) n r2.cap) (by simp)) ?_
      refine JL.val rfl rfl rfl (.none rfl) (Ev.assign rfl) ?_
      refine JL.nil ?_
      refine JQ.thenN ?_
      refine JC.seq ?_
      -- region 6
      refine JC.region ?_
      refine JL.val rfl rfl rfl (.none rfl) (Ev.move rfl) ?_
      refine JL.callN rfl (.none rfl) rfl Tryd.call13 (fun w1 hw1 => padS_any (some ⟨r2.g, 0, none⟩) r2.cap (front lf ++ lb) w1 (bs_of_row hw1 (by first | exact .head _ | exact .tail _ (.head _) | exact .tail _ (.tail _ (.head _)) | exact .tail _ (.tail _ (.tail _ (.head _))) | exact .tail _ (.tail _ (.tail _ (.tail _ (.head _)))) | exact List.mem_append_right _ (.head _)) hr2 (by simp)) hal) ?_
      rintro _ _ ⟨r3, rfl, rfl, hr3⟩
      refine JL.val rfl rfl rfl (.none rfl) (Ev.move rfl) ?_
      refine JL.val rfl rfl rfl (.none rfl) (Ev.extract rfl rfl) ?_
      refine JL.val rfl rfl rfl (.none rfl) (Ev.extract rfl rfl) ?_
      refine JL.val rfl rfl rfl (.none rfl) (Ev.assign rfl) ?_
      refine JL.val rfl rfl rfl (.none rfl) (Ev.assign rfl) ?_
      refine JL.nil ?_
      refine JQ.thenN ?_
      refine JC.seq ?_
      refine JC.seq ?_
      -- region 7
      refine JC.regionQ (by kernel_rfl) (by kernel_rfl) ?_
      refine JW.val rfl rfl (.none rfl) (Ev.move rfl) ?_
      refine JW.val rfl rfl (.none rfl) (Ev.bin rfl rfl neq_int) ?_
      refine JW.val rfl rfl (.none rfl) (Ev.move rfl) ?_
      refine JW.know (d := 47) (b := false) rfl ?_ ?_
      · simp
      refine JW.val rfl rfl (.yes rfl rfl rfl) (Ev.move rfl) ?_
      refine JW.val rfl rfl (.yes rfl rfl rfl) (Ev.lenS rfl Tryd.underlying22) ?_
      refine JW.val rfl rfl (.yes rfl rfl rfl) (Ev.move rfl) ?_
      refine JW.val rfl rfl (.yes rfl rfl rfl) (Ev.lenS rfl Tryd.underlying22) ?_
      refine JW.val rfl rfl (.yes rfl rfl rfl) (Ev.bin rfl rfl lss_int) ?_
      refine JW.val rfl rfl (.none rfl) (Ev.pickF rfl rfl) ?_
      refine JW.val rfl rfl (.none rfl) (Ev.move rfl) ?_
      refine JW.know (d := 54) (b := false) rfl ?_ ?_
      · exact decide_eq_false (by omega)
      refine JW.val rfl rfl (.yes rfl rfl rfl) (Ev.move rfl) ?_
      refine JW.val rfl rfl (.yes rfl rfl rfl) (Ev.move rfl) ?_
      refine JW.val rfl rfl (.yes rfl rfl rfl) (Ev.lenS rfl Tryd.underlying22) ?_
      refine JW.val rfl rfl (.yes rfl rfl rfl) (Ev.sliceHi rfl rfl Tryd.underlying22 Tryd.sizeOf5 (h := (front lf).length) rfl (by have := hr3.2.1; omega)) ?_
      refine JW.re (d := 58) rfl sub3_zero ?_
      refine JW.val rfl rfl (.yes rfl rfl rfl) (Ev.str rfl Tryd.underlying22 Tryd.underlying9 Tryd.underlying5 rfl (fun h => by cases h) (fun ad had => by cases had; exact fun w2 hw2 => by have h9 := (mem_of_row hw2 (by first | exact .head _ | exact .tail _ (.head _) | exact .tail _ (.tail _ (.head _)) | exact .tail _ (.tail _ (.tail _ (.head _))) | exact .tail _ (.tail _ (.tail _ (.tail _ (.head _)))) | exact List.mem_append_right _ (.head _)) hr3).take (front lf).length; rw [pad_take] at h9; exact h9)) ?_
      refine JW.val rfl rfl (.yes rfl rfl rfl) (Ev.move rfl) ?_
      refine JW.val rfl rfl (.yes rfl rfl rfl) (Ev.str rfl Tryd.underlying22 Tryd.underlying9 Tryd.underlying5 rfl (fun h => by have := hfr.le; have := hfr.empty h; omega) (fun a ha => Rds.old (hfr.mem a ha))) ?_
      refine JW.val rfl rfl (.yes rfl rfl rfl) (Ev.bin rfl rfl neq_string) ?_
      refine JW.val rfl rfl (.none rfl) (Ev.pickF rfl rfl) ?_
      refine JW.nilQ ?_
      refine JQ.thenN ?_
      refine JC.knowF rfl ?_ ?_
      · exact bytes_nbeq _
      refine JC.skip ?_
      refine JQ.thenN ?_
      refine JC.seq ?_
      -- region 9
      refine JC.region ?_
      refine JL.callV rfl (.none rfl) rfl Tryd.call22 (fun w1 hw1 => first_any w1) ?_
      refine JL.val rfl rfl rfl (.none rfl) (Ev.move rfl) ?_
      refine JL.callV rfl (.none rfl) rfl Tryd.call21 (fun w1 hw1 => folded_any st0 oa capa (front lf) w1 (hfr.old hw1) (by omega) (hk.old hw1)) ?_
      refine JL.val rfl rfl rfl (.none rfl) (Ev.move rfl) ?_
      refine JL.val rfl rfl rfl (.none rfl) (Ev.extract rfl rfl) ?_
      refine JL.val rfl rfl rfl (.none rfl) (Ev.extract rfl rfl) ?_
      refine JL.new rfl rfl rfl (.none rfl) (En.alloc Tryd.zeroValue24) (fun b9 hb9 => ?_)
      refine JL.sto rfl rfl (.none rfl) (Es.storeA rfl rfl Tryd.sizeOf24 (by first | exact .here | exact .there .here | exact .there (.there .here) | exact .there (.there (.there .here)) | exact .there (.there (.there (.there .here))) | exact .there (.there (.there (.there (.there .here))))) rfl rfl (arr32_one _)) ?_
      refine JL.val rfl rfl rfl (.none rfl) (Ev.assign rfl) ?_
      refine JL.nil ?_
      refine JQ.thenN ?_
      refine JC.seq ?_
      -- region 10
      refine JC.cut (X := Nat) (fun b11 => [(5, .bool true), (7, .slice (some ⟨r3.g, 0, none⟩) (pad (front lf ++ lb)).length r3.cap), (9, .pointer (some ⟨b9, 0, none⟩)), (10, .bool true), (11, .pointer (some ⟨b11, 0, none⟩)), (12, .bool true)]) (fun b11 => [(b11, .cells (arr32 (foldB ((pad (front lf ++ lb)).drop (front lf).length) (foldB (front lf) st0 ((front lf).length / 64)) (((pad (front lf ++ lb)).drop (front lf).length).length / 64)).l) 24 (0, 0)), (b9, .cells (arr32 (foldB (front lf) st0 ((front lf).length / 64)).l) 24 (0, 0)), (r3.g, .cells r3.cs 5 (0, 0))]) ?_ ?_
      · refine JC.regionA (by kernel_rfl) ?_
        refine JA.take 1 rfl rfl rfl rfl (by kernel_rfl) (by kernel_rfl) (by kernel_rfl) (fun _ _ _ h => absurd h.1 (by simp)) (fun _ _ => rfl) (.none rfl) (fun _ => (Ev.move rfl)) ?_
        refine JA.take 2 rfl rfl rfl rfl (by kernel_rfl) (by kernel_rfl) (by kernel_rfl) (fun _ _ _ h => absurd h.1 (by simp)) (fun _ _ => rfl) (.none rfl) (fun _ => (Ev.move rfl)) ?_
        refine JA.branch [0, 3, 9] (by kernel_rfl) rfl ?_
        refine JAll.cons rfl ?_ ?_
        · -- 0
          refine JO.val rfl rfl rfl (.none rfl) (Ev.loadB rfl (by first | exact .head _ | exact .tail _ (.head _) | exact .tail _ (.tail _ (.head _)) | exact .tail _ (.tail _ (.tail _ (.head _))) | exact .tail _ (.tail _ (.tail _ (.tail _ (.head _)))) | exact .tail _ (.tail _ (.tail _ (.tail _ (.tail _ (.head _)))))) Tryd.underlying24 rfl Tryd.sizeOf24 rfl) ?_
          refine JA.branch [3, 9] (by kernel_rfl) rfl ?_
          refine JAll.cons rfl ?_ ?_
          · -- 3
            refine JO.val rfl rfl rfl (.none rfl) (Ev.lenS rfl Tryd.underlying22) ?_
            refine JA.take 4 rfl rfl rfl rfl (by kernel_rfl) (by kernel_rfl) (by kernel_rfl) (fun _ _ _ h => absurd h.1 (by simp)) (fun _ _ => rfl) (.none rfl) (fun _ => (Ev.cast (v' := .slice (some ((⟨r3.g, 0, none⟩ : Addr).add (front lf).length)) ((pad (front lf ++ lb)).drop (front lf).length).length (r3.cap - (front lf).length)) ((sub3_some (by have := hr3.2.1; omega)).trans (by rw [List.length_drop])) (Ev.sliceLo rfl rfl Tryd.underlying22 Tryd.sizeOf5 (l := (front lf).length) rfl (by omega)))) ?_
            refine JA.branch [5, 9] (by kernel_rfl) rfl ?_
            refine JAll.cons rfl ?_ ?_
            · -- 5
              refine JO.callV rfl (.none rfl) rfl Tryd.call21 (fun w1 hw1 => folded_any (foldB (front lf) st0 ((front lf).length / 64)) (some ((⟨r3.g, 0, none⟩ : Addr).add (front lf).length)) (r3.cap - (front lf).length) ((pad (front lf ++ lb)).drop (front lf).length) w1 ((bs_of_row hw1 (by first | exact .head _ | exact .tail _ (.head _) | exact .tail _ (.tail _ (.head _)) | exact .tail _ (.tail _ (.tail _ (.head _))) | exact .tail _ (.tail _ (.tail _ (.tail _ (.head _)))) | exact List.mem_append_right _ (.head _)) hr3 rfl).drop (front lf).length (by omega)) (by rw [List.length_drop]; omega) (hk.old hw1)) ?_
              refine JA.take 6 rfl rfl rfl rfl (by kernel_rfl) (by kernel_rfl) (by kernel_rfl) (fun _ _ _ h => absurd h.1 (by simp)) (fun _ _ => rfl) (.none rfl) (fun _ => (Ev.move rfl)) ?_
              refine JA.take 7 rfl rfl rfl rfl (by kernel_rfl) (by kernel_rfl) (by kernel_rfl) (fun _ _ _ h => absurd h.1 (by simp)) (fun _ _ => rfl) (.none rfl) (fun _ => (Ev.extract rfl rfl)) ?_
              refine JA.take 8 rfl rfl rfl rfl (by kernel_rfl) (by kernel_rfl) (by kernel_rfl) (fun _ _ _ h => absurd h.1 (by simp)) (fun _ _ => rfl) (.none rfl) (fun _ => (Ev.extract rfl rfl)) ?_
              refine JA.branch [9] (by kernel_rfl) rfl ?_
              refine JAll.cons rfl ?_ JAll.nil
              refine JO.new rfl rfl rfl (.none rfl) (En.alloc Tryd.zeroValue24) (fun b11 hb11 => ?_)
              refine JA.branch [10] (by kernel_rfl) rfl ?_
              refine JAll.cons rfl ?_ JAll.nil
              refine JO.sto rfl rfl (.none rfl) (Es.storeA rfl rfl Tryd.sizeOf24 (by first | exact .here | exact .there .here | exact .there (.there .here) | exact .there (.there (.there .here)) | exact .there (.there (.there (.there .here))) | exact .there (.there (.there (.there (.there .here))))) rfl rfl (arr32_one _)) ?_
              refine JA.take 11 rfl rfl rfl rfl (by kernel_rfl) (by kernel_rfl) (by kernel_rfl) (fun _ _ _ h => absurd h.1 (by simp)) (fun _ _ => rfl) (.none rfl) (fun _ => (Ev.assign rfl)) ?_
              refine JA.done (by kernel_rfl) ?_
              refine JQ.cutN b11 ?_ ?_
              · exact Keeps.get (by repeat (first | exact Keeps.nil | refine Keeps.cons rfl ?_))
              · repeat (first | exact Sub.nil | refine Sub.cons (by first | exact .here | exact .there .here | exact .there (.there .here) | exact .there (.there (.there .here)) | exact .there (.there (.there (.there .here)))) ?_ | exact Sub.all)
            refine JAll.cons rfl ?_ JAll.nil
            refine JO.new rfl rfl rfl (.none rfl) (En.alloc Tryd.zeroValue24) (fun b11 hb11 => ?_)
            refine JA.branch [5] (by kernel_rfl) rfl ?_
            refine JAll.cons rfl ?_ JAll.nil
            refine JO.callV rfl (.none rfl) rfl Tryd.call21 (fun w1 hw1 => folded_any (foldB (front lf) st0 ((front lf).length / 64)) (some ((⟨r3.g, 0, none⟩ : Addr).add (front lf).length)) (r3.cap - (front lf).length) ((pad (front lf ++ lb)).drop (front lf).length) w1 ((bs_of_row hw1 (by first | exact .head _ | exact .tail _ (.head _) | exact .tail _ (.tail _ (.head _)) | exact .tail _ (.tail _ (.tail _ (.head _))) | exact .tail _ (.tail _ (.tail _ (.tail _ (.head _)))) | exact List.mem_append_right _ (.head _)) hr3 rfl).drop (front lf).length (by omega)) (by rw [List.length_drop]; omega) (hk.old hw1)) ?_
            refine JA.take 6 rfl rfl rfl rfl (by kernel_rfl) (by kernel_rfl) (by kernel_rfl) (fun _ _ _ h => absurd h.1 (by simp)) (fun _ _ => rfl) (.none rfl) (fun _ => (Ev.move rfl)) ?_
            refine JA.take 7 rfl rfl rfl rfl (by kernel_rfl) (by kernel_rfl) (by kernel_rfl) (fun _ _ _ h => absurd h.1 (by simp)) (fun _ _ => rfl) (.none rfl) (fun _ => (Ev.extract rfl rfl)) ?_
            refine JA.take 8 rfl rfl rfl rfl (by kernel_rfl) (by kernel_rfl) (by kernel_rfl) (fun _ _ _ h => absurd h.1 (by simp)) (fun _ _ => rfl) (.none rfl) (fun _ => (Ev.extract rfl rfl)) ?_
            refine JA.branch [10] (by kernel_rfl) rfl ?_
            refine JAll.cons rfl ?_ JAll.nil
            refine JO.sto rfl rfl (.none rfl) (Es.storeA rfl rfl Tryd.sizeOf24 (by first | exact .here | exact .there .here | exact .there (.there .here) | exact .there (.there (.there .here)) | exact .there (.there (.there (.there .here))) | exact .there (.there (.there (.there (.there .here))))) rfl rfl (arr32_one _)) ?_
            refine JA.take 11 rfl rfl rfl rfl (by kernel_rfl) (by kernel_rfl) (by kernel_rfl) (fun _ _ _ h => absurd h.1 (by simp)) (fun _ _ => rfl) (.none rfl) (fun _ => (Ev.assign rfl)) ?_
            refine JA.done (by kernel_rfl) ?_
            refine JQ.cutN b11 ?_ ?_
            · exact Keeps.get (by repeat (first | exact Keeps.nil | refine Keeps.cons rfl ?_))
            · repeat (first | exact Sub.nil | refine Sub.cons (by first | exact .here | exact .there .here | exact .there (.there .here) | exact .there (.there (.there .here)) | exact .there (.there (.there (.there .here)))) ?_ | exact Sub.all)
          refine JAll.cons rfl ?_ JAll.nil
          refine JO.new rfl rfl rfl (.none rfl) (En.alloc Tryd.zeroValue24) (fun b11 hb11 => ?_)
          refine JA.branch [3] (by kernel_rfl) rfl ?_
          refine JAll.cons rfl ?_ JAll.nil
          refine JO.val rfl rfl rfl (.none rfl) (Ev.lenS rfl Tryd.underlying22) ?_
          refine JA.take 4 rfl rfl rfl rfl (by kernel_rfl) (by kernel_rfl) (by kernel_rfl) (fun _ _ _ h => absurd h.1 (by simp)) (fun _ _ => rfl) (.none rfl) (fun _ => (Ev.cast (v' := .slice (some ((⟨r3.g, 0, none⟩ : Addr).add (front lf).length)) ((pad (front lf ++ lb)).drop (front lf).length).length (r3.cap - (front lf).length)) ((sub3_some (by have := hr3.2.1; omega)).trans (by rw [List.length_drop])) (Ev.sliceLo rfl rfl Tryd.underlying22 Tryd.sizeOf5 (l := (front lf).length) rfl (by omega)))) ?_
          refine JA.branch [5] (by kernel_rfl) rfl ?_
          refine JAll.cons rfl ?_ JAll.nil
          refine JO.callV rfl (.none rfl) rfl Tryd.call21 (fun w1 hw1 => folded_any (foldB (front lf) st0 ((front lf).length / 64)) (some ((⟨r3.g, 0, none⟩ : Addr).add (front lf).length)) (r3.cap - (front lf).length) ((pad (front lf ++ lb)).drop (front lf).length) w1 ((bs_of_row hw1 (by first | exact .head _ | exact .tail _ (.head _) | exact .tail _ (.tail _ (.head _)) | exact .tail _ (.tail _ (.tail _ (.head _))) | exact .tail _ (.tail _ (.tail _ (.tail _ (.head _)))) | exact List.mem_append_right _ (.head _)) hr3 rfl).drop (front lf).length (by omega)) (by rw [List.length_drop]; omega) (hk.old hw1)) ?_
          refine JA.take 6 rfl rfl rfl rfl (by kernel_rfl) (by kernel_rfl) (by kernel_rfl) (fun _ _ _ h => absurd h.1 (by simp)) (fun _ _ => rfl) (.none rfl) (fun _ => (Ev.move rfl)) ?_
          refine JA.take 7 rfl rfl rfl rfl (by kernel_rfl) (by kernel_rfl) (by kernel_rfl) (fun _ _ _ h => absurd h.1 (by simp)) (fun _ _ => rfl) (.none rfl) (fun _ => (Ev.extract rfl rfl)) ?_
          refine JA.take 8 rfl rfl rfl rfl (by kernel_rfl) (by kernel_rfl) (by kernel_rfl) (fun _ _ _ h => absurd h.1 (by simp)) (fun _ _ => rfl) (.none rfl) (fun _ => (Ev.extract rfl rfl)) ?_
          refine JA.branch [10] (by kernel_rfl) rfl ?_
          refine JAll.cons rfl ?_ JAll.nil
          refine JO.sto rfl rfl (.none rfl) (Es.storeA rfl rfl Tryd.sizeOf24 (by first | exact .here | exact .there .here | exact .there (.there .here) | exact .there (.there (.there .here)) | exact .there (.there (.there (.there .here))) | exact .there (.there (.there (.there (.there .here))))) rfl rfl (arr32_one _)) ?_
          refine JA.take 11 rfl rfl rfl rfl (by kernel_rfl) (by kernel_rfl) (by kernel_rfl) (fun _ _ _ h => absurd h.1 (by simp)) (fun _ _ => rfl) (.none rfl) (fun _ => (Ev.assign rfl)) ?_
          refine JA.done (by kernel_rfl) ?_
          refine JQ.cutN b11 ?_ ?_
          · exact Keeps.get (by repeat (first | exact Keeps.nil | refine Keeps.cons rfl ?_))
          · repeat (first | exact Sub.nil | refine Sub.cons (by first | exact .here | exact .there .here | exact .there (.there .here) | exact .there (.there (.there .here)) | exact .there (.there (.there (.there .here)))) ?_ | exact Sub.all)
        refine JAll.cons rfl ?_ ?_
        · -- 3
          refine JO.val rfl rfl rfl (.none rfl) (Ev.lenS rfl Tryd.underlying22) ?_
          refine JA.take 4 rfl rfl rfl rfl (by kernel_rfl) (by kernel_rfl) (by kernel_rfl) (fun _ _ _ h => absurd h.1 (by simp)) (fun _ _ => rfl) (.none rfl) (fun _ => (Ev.cast (v' := .slice (some ((⟨r3.g, 0, none⟩ : Addr).add (front lf).length)) ((pad (front lf ++ lb)).drop (front lf).length).length (r3.cap - (front lf).length)) ((sub3_some (by have := hr3.2.1; omega)).trans (by rw [List.length_drop])) (Ev.sliceLo rfl rfl Tryd.underlying22 Tryd.sizeOf5 (l := (front lf).length) rfl (by omega)))) ?_
          refine JA.branch [0, 9] (by kernel_rfl) rfl ?_
          refine JAll.cons rfl ?_ ?_
          · -- 0
            refine JO.val rfl rfl rfl (.none rfl) (Ev.loadB rfl (by first | exact .head _ | exact .tail _ (.head _) | exact .tail _ (.tail _ (.head _)) | exact .tail _ (.tail _ (.tail _ (.head _))) | exact .tail _ (.tail _ (.tail _ (.tail _ (.head _)))) | exact .tail _ (.tail _ (.tail _ (.tail _ (.tail _ (.head _)))))) Tryd.underlying24 rfl Tryd.sizeOf24 rfl) ?_
            refine JA.branch [5, 9] (by kernel_rfl) rfl ?_
            refine JAll.cons rfl ?_ ?_
            · -- 5
              refine JO.callV rfl (.none rfl) rfl Tryd.call21 (fun w1 hw1 => folded_any (foldB (front lf) st0 ((front lf).length / 64)) (some ((⟨r3.g, 0, none⟩ : Addr).add (front lf).length)) (r3.cap - (front lf).length) ((pad (front lf ++ lb)).drop (front lf).length) w1 ((bs_of_row hw1 (by first | exact .head _ | exact .tail _ (.head _) | exact .tail _ (.tail _ (.head _)) | exact .tail _ (.tail _ (.tail _ (.head _))) | exact .tail _ (.tail _ (.tail _ (.tail _ (.head _)))) | exact List.mem_append_right _ (.head _)) hr3 rfl).drop (front lf).length (by omega)) (by rw [List.length_drop]; omega) (hk.old hw1)) ?_
              refine JA.take 6 rfl rfl rfl rfl (by kernel_rfl) (by kernel_rfl) (by kernel_rfl) (fun _ _ _ h => absurd h.1 (by simp)) (fun _ _ => rfl) (.none rfl) (fun _ => (Ev.move rfl)) ?_
              refine JA.take 7 rfl rfl rfl rfl (by kernel_rfl) (by kernel_rfl) (by kernel_rfl) (fun _ _ _ h => absurd h.1 (by simp)) (fun _ _ => rfl) (.none rfl) (fun _ => (Ev.extract rfl rfl)) ?_
              refine JA.take 8 rfl rfl rfl rfl (by kernel_rfl) (by kernel_rfl) (by kernel_rfl) (fun _ _ _ h => absurd h.1 (by simp)) (fun _ _ => rfl) (.none rfl) (fun _ => (Ev.extract rfl rfl)) ?_
              refine JA.branch [9] (by kernel_rfl) rfl ?_
              refine JAll.cons rfl ?_ JAll.nil
              refine JO.new rfl rfl rfl (.none rfl) (En.alloc Tryd.zeroValue24) (fun b11 hb11 => ?_)
              refine JA.branch [10] (by kernel_rfl) rfl ?_
              refine JAll.cons rfl ?_ JAll.nil
              refine JO.sto rfl rfl (.none rfl) (Es.storeA rfl rfl Tryd.sizeOf24 (by first | exact .here | exact .there .here | exact .there (.there .here) | exact .there (.there (.there .here)) | exact .there (.there (.there (.there .here))) | exact .there (.there (.there (.there (.there .here))))) rfl rfl (arr32_one _)) ?_
              refine JA.take 11 rfl rfl rfl rfl (by kernel_rfl) (by kernel_rfl) (by kernel_rfl) (fun _ _ _ h => absurd h.1 (by simp)) (fun _ _ => rfl) (.none rfl) (fun _ => (Ev.assign rfl)) ?_
              refine JA.done (by kernel_rfl) ?_
              refine JQ.cutN b11 ?_ ?_
              · exact Keeps.get (by repeat (first | exact Keeps.nil | refine Keeps.cons rfl ?_))
              · repeat (first | exact Sub.nil | refine Sub.cons (by first | exact .here | exact .there .here | exact .there (.there .here) | exact .there (.there (.there .here)) | exact .there (.there (.there (.there .here)))) ?_ | exact Sub.all)
            refine JAll.cons rfl ?_ JAll.nil
            refine JO.new rfl rfl rfl (.none rfl) (En.alloc Tryd.zeroValue24) (fun b11 hb11 => ?_)
            refine JA.branch [5] (by kernel_rfl) rfl ?_
            refine JAll.cons rfl ?_ JAll.nil
            refine JO.callV rfl (.none rfl) rfl Tryd.call21 (fun w1 hw1 => folded_any (foldB (front lf) st0 ((front lf).length / 64)) (some ((⟨r3.g, 0, none⟩ : Addr).add (front lf).length)) (r3.cap - (front lf).length) ((pad (front lf ++ lb)).drop (front lf).length) w1 ((bs_of_row hw1 (by first | exact .head _ | exact .tail _ (.head _) | exact .tail _ (.tail _ (.head _)) | exact .tail _ (.tail _ (.tail _ (.head _))) | exact .tail _ (.tail _ (.tail _ (.tail _ (.head _)))) | exact List.mem_append_right _ (.head _)) hr3 rfl).drop (front lf).length (by omega)) (by rw [List.length_drop]; omega) (hk.old hw1)) ?_
            refine JA.take 6 rfl rfl rfl rfl (by kernel_rfl) (by kernel_rfl) (by kernel_rfl) (fun _ _ _ h => absurd h.1 (by simp)) (fun _ _ => rfl) (.none rfl) (fun _ => (Ev.move rfl)) ?_
            refine JA.take 7 rfl rfl rfl rfl (by kernel_rfl) (by kernel_rfl) (by kernel_rfl) (fun _ _ _ h => absurd h.1 (by simp)) (fun _ _ => rfl) (.none rfl) (fun _ => (Ev.extract rfl rfl)) ?_
            refine JA.take 8 rfl rfl rfl rfl (by kernel_rfl) (by kernel_rfl) (by kernel_rfl) (fun _ _ _ h => absurd h.1 (by simp)) (fun _ _ => rfl) (.none rfl) (fun _ => (Ev.extract rfl rfl)) ?_
            refine JA.branch [10] (by kernel_rfl) rfl ?_
            refine JAll.cons rfl ?_ JAll.nil
            refine JO.sto rfl rfl (.none rfl) (Es.storeA rfl rfl Tryd.sizeOf24 (by first | exact .here | exact .there .here | exact .there (.there .here) | exact .there (.there (.there .here)) | exact .there (.there (.there (.there .here))) | exact .there (.there (.there (.there (.there .here))))) rfl rfl (arr32_one _)) ?_
            refine JA.take 11 rfl rfl rfl rfl (by kernel_rfl) (by kernel_rfl) (by kernel_rfl) (fun _ _ _ h => absurd h.1 (by simp)) (fun _ _ => rfl) (.none rfl) (fun _ => (Ev.assign rfl)) ?_
            refine JA.done (by kernel_rfl) ?_
            refine JQ.cutN b11 ?_ ?_
            · exact Keeps.get (by repeat (first | exact Keeps.nil | refine Keeps.cons rfl ?_))
            · repeat (first | exact Sub.nil | refine Sub.cons (by first | exact .here | exact .there .here | exact .there (.there .here) | exact .there (.there (.there .here)) | exact .there (.there (.there (.there .here)))) ?_ | exact Sub.all)
          refine JAll.cons rfl ?_ JAll.nil
          refine JO.new rfl rfl rfl (.none rfl) (En.alloc Tryd.zeroValue24) (fun b11 hb11 => ?_)
          refine JA.branch [0] (by kernel_rfl) rfl ?_
          refine JAll.cons rfl ?_ JAll.nil
          refine JO.val rfl rfl rfl (.none rfl) (Ev.loadB rfl (by first | exact .head _ | exact .tail _ (.head _) | exact .tail _ (.tail _ (.head _)) | exact .tail _ (.tail _ (.tail _ (.head _))) | exact .tail _ (.tail _ (.tail _ (.tail _ (.head _)))) | exact .tail _ (.tail _ (.tail _ (.tail _ (.tail _ (.head _)))))) Tryd.underlying24 rfl Tryd.sizeOf24 rfl) ?_
          refine JA.branch [5] (by kernel_rfl) rfl ?_
          refine JAll.cons rfl ?_ JAll.nil
          refine JO.callV rfl (.none rfl) rfl Tryd.call21 (fun w1 hw1 => folded_any (foldB (front lf) st0 ((front lf).length / 64)) (some ((⟨r3.g, 0, none⟩ : Addr).add (front lf).length)) (r3.cap - (front lf).length) ((pad (front lf ++ lb)).drop (front lf).length) w1 ((bs_of_row hw1 (by first | exact .head _ | exact .tail _ (.head _) | exact .tail _ (.tail _ (.head _)) | exact .tail _ (.tail _ (.tail _ (.head _))) | exact .tail _ (.tail _ (.tail _ (.tail _ (.head _)))) | exact List.mem_append_right _ (.head _)) hr3 rfl).drop (front lf).length (by omega)) (by rw [List.length_drop]; omega) (hk.old hw1)) ?_
          refine JA.take 6 rfl rfl rfl rfl (by kernel_rfl) (by kernel_rfl) (by kernel_rfl) (fun _ _ _ h => absurd h.1 (by simp)) (fun _ _ => rfl) (.none rfl) (fun _ => (Ev.move rfl)) ?_
          refine JA.take 7 rfl rfl rfl rfl (by kernel_rfl) (by kernel_rfl) (by kernel_rfl) (fun _ _ _ h => absurd h.1 (by simp)) (fun _ _ => rfl) (.none rfl) (fun _ => (Ev.extract rfl rfl)) ?_
          refine JA.take 8 rfl rfl rfl rfl (by kernel_rfl) (by kernel_rfl) (by kernel_rfl) (fun _ _ _ h => absurd h.1 (by simp)) (fun _ _ => rfl) (.none rfl) (fun _ => (Ev.extract rfl rfl)) ?_
          refine JA.branch [10] (by kernel_rfl) rfl ?_
          refine JAll.cons rfl ?_ JAll.nil
          refine JO.sto rfl rfl (.none rfl) (Es.storeA rfl rfl Tryd.sizeOf24 (by first | exact .here | exact .there .here | exact .there (.there .here) | exact .there (.there (.there .here)) | exact .there (.there (.there (.there .here))) | exact .there (.there (.there (.there (.there .here))))) rfl rfl (arr32_one _)) ?_
          refine JA.take 11 rfl rfl rfl rfl (by kernel_rfl) (by kernel_rfl) (by kernel_rfl) (fun _ _ _ h => absurd h.1 (by simp)) (fun _ _ => rfl) (.none rfl) (fun _ => (Ev.assign rfl)) ?_
          refine JA.done (by kernel_rfl) ?_
          refine JQ.cutN b11 ?_ ?_
          · exact Keeps.get (by repeat (first | exact Keeps.nil | refine Keeps.cons rfl ?_))
          · repeat (first | exact Sub.nil | refine Sub.cons (by first | exact .here | exact .there .here | exact .there (.there .here) | exact .there (.there (.there .here)) | exact .there (.there (.there (.there .here)))) ?_ | exact Sub.all)
        refine JAll.cons rfl ?_ JAll.nil
        refine JO.new rfl rfl rfl (.none rfl) (En.alloc Tryd.zeroValue24) (fun b11 hb11 => ?_)
        refine JA.branch [0, 3] (by kernel_rfl) rfl ?_
        refine JAll.cons rfl ?_ ?_
        · -- 0
          refine JO.val rfl rfl rfl (.none rfl) (Ev.loadB rfl (by first | exact .head _ | exact .tail _ (.head _) | exact .tail _ (.tail _ (.head _)) | exact .tail _ (.tail _ (.tail _ (.head _))) | exact .tail _ (.tail _ (.tail _ (.tail _ (.head _)))) | exact .tail _ (.tail _ (.tail _ (.tail _ (.tail _ (.head _)))))) Tryd.underlying24 rfl Tryd.sizeOf24 rfl) ?_
          refine JA.branch [3] (by kernel_rfl) rfl ?_
          refine JAll.cons rfl ?_ JAll.nil
          refine JO.val rfl rfl rfl (.none rfl) (Ev.lenS rfl Tryd.underlying22) ?_
          refine JA.take 4 rfl rfl rfl rfl (by kernel_rfl) (by kernel_rfl) (by kernel_rfl) (fun _ _ _ h => absurd h.1 (by simp)) (fun _ _ => rfl) (.none rfl) (fun _ => (Ev.cast (v' := .slice (some ((⟨r3.g, 0, none⟩ : Addr).add (front lf).length)) ((pad (front lf ++ lb)).drop (front lf).length).length (r3.cap - (front lf).length)) ((sub3_some (by have := hr3.2.1; omega)).trans (by rw [List.length_drop])) (Ev.sliceLo rfl rfl Tryd.underlying22 Tryd.sizeOf5 (l := (front lf).length) rfl (by omega)))) ?_
          refine JA.branch [5] (by kernel_rfl) rfl ?_
          refine JAll.cons rfl ?_ JAll.nil
          refine JO.callV rfl (.none rfl) rfl Tryd.call21 (fun w1 hw1 => folded_any (foldB (front lf) st0 ((front lf).length / 64)) (some ((⟨r3.g, 0, none⟩ : Addr).add (front lf).length)) (r3.cap - (front lf).length) ((pad (front lf ++ lb)).drop (front lf).length) w1 ((bs_of_row hw1 (by first | exact .head _ | exact .tail _ (.head _) | exact .tail _ (.tail _ (.head _)) | exact .tail _ (.tail _ (.tail _ (.head _))) | exact .tail _ (.tail _ (.tail _ (.tail _ (.head _)))) | exact List.mem_append_right _ (.head _)) hr3 rfl).drop (front lf).length (by omega)) (by rw [List.length_drop]; omega) (hk.old hw1)) ?_
          refine JA.take 6 rfl rfl rfl rfl (by kernel_rfl) (by kernel_rfl) (by kernel_rfl) (fun _ _ _ h => absurd h.1 (by simp)) (fun _ _ => rfl) (.none rfl) (fun _ => (Ev.move rfl)) ?_
          refine JA.take 7 rfl rfl rfl rfl (by kernel_rfl) (by kernel_rfl) (by kernel_rfl) (fun _ _ _ h => absurd h.1 (by simp)) (fun _ _ => rfl) (.none rfl) (fun _ => (Ev.extract rfl rfl)) ?_
          refine JA.take 8 rfl rfl rfl rfl (by kernel_rfl) (by kernel_rfl) (by kernel_rfl) (fun _ _ _ h => absurd h.1 (by simp)) (fun _ _ => rfl) (.none rfl) (fun _ => (Ev.extract rfl rfl)) ?_
          refine JA.branch [10] (by kernel_rfl) rfl ?_
          refine JAll.cons rfl ?_ JAll.nil
          refine JO.sto rfl rfl (.none rfl) (Es.storeA rfl rfl Tryd.sizeOf24 (by first | exact .here | exact .there .here | exact .there (.there .here) | exact .there (.there (.there .here)) | exact .there (.there (.there (.there .here))) | exact .there (.there (.there (.there (.there .here))))) rfl rfl (arr32_one _)) ?_
          refine JA.take 11 rfl rfl rfl rfl (by kernel_rfl) (by kernel_rfl) (by kernel_rfl) (fun _ _ _ h => absurd h.1 (by simp)) (fun _ _ => rfl) (.none rfl) (fun _ => (Ev.assign rfl)) ?_
          refine JA.done (by kernel_rfl) ?_
          refine JQ.cutN b11 ?_ ?_
          · exact Keeps.get (by repeat (first | exact Keeps.nil | refine Keeps.cons rfl ?_))
          · repeat (first | exact Sub.nil | refine Sub.cons (by first | exact .here | exact .there .here | exact .there (.there .here) | exact .there (.there (.there .here)) | exact .there (.there (.there (.there .here)))) ?_ | exact Sub.all)
        refine JAll.cons rfl ?_ JAll.nil
        refine JO.val rfl rfl rfl (.none rfl) (Ev.lenS rfl Tryd.underlying22) ?_
        refine JA.take 4 rfl rfl rfl rfl (by kernel_rfl) (by kernel_rfl) (by kernel_rfl) (fun _ _ _ h => absurd h.1 (by simp)) (fun _ _ => rfl) (.none rfl) (fun _ => (Ev.cast (v' := .slice (some ((⟨r3.g, 0, none⟩ : Addr).add (front lf).length)) ((pad (front lf ++ lb)).drop (front lf).length).length (r3.cap - (front lf).length)) ((sub3_some (by have := hr3.2.1; omega)).trans (by rw [List.length_drop])) (Ev.sliceLo rfl rfl Tryd.underlying22 Tryd.sizeOf5 (l := (front lf).length) rfl (by omega)))) ?_
        refine JA.branch [0] (by kernel_rfl) rfl ?_
        refine JAll.cons rfl ?_ JAll.nil
        refine JO.val rfl rfl rfl (.none rfl) (Ev.loadB rfl (by first | exact .head _ | exact .tail _ (.head _) | exact .tail _ (.tail _ (.head _)) | exact .tail _ (.tail _ (.tail _ (.head _))) | exact .tail _ (.tail _ (.tail _ (.tail _ (.head _)))) | exact .tail _ (.tail _ (.tail _ (.tail _ (.tail _ (.head _)))))) Tryd.underlying24 rfl Tryd.sizeOf24 rfl) ?_
        refine JA.branch [5] (by kernel_rfl) rfl ?_
        refine JAll.cons rfl ?_ JAll.nil
        refine JO.callV rfl (.none rfl) rfl Tryd.call21 (fun w1 hw1 => folded_any (foldB (front lf) st0 ((front lf).length / 64)) (some ((⟨r3.g, 0, none⟩ : Addr).add (front lf).length)) (r3.cap - (front lf).length) ((pad (front lf ++ lb)).drop (front lf).length) w1 ((bs_of_row hw1 (by first | exact .head _ | exact .tail _ (.head _) | exact .tail _ (.tail _ (.head _)) | exact .tail _ (.tail _ (.tail _ (.head _))) | exact .tail _ (.tail _ (.tail _ (.tail _ (.head _)))) | exact List.mem_append_right _ (.head _)) hr3 rfl).drop (front lf).length (by omega)) (by rw [List.length_drop]; omega) (hk.old hw1)) ?_
        refine JA.take 6 rfl rfl rfl rfl (by kernel_rfl) (by kernel_rfl) (by kernel_rfl) (fun _ _ _ h => absurd h.1 (by simp)) (fun _ _ => rfl) (.none rfl) (fun _ => (Ev.move rfl)) ?_
        refine JA.take 7 rfl rfl rfl rfl (by kernel_rfl) (by kernel_rfl) (by kernel_rfl) (fun _ _ _ h => absurd h.1 (by simp)) (fun _ _ => rfl) (.none rfl) (fun _ => (Ev.extract rfl rfl)) ?_
        refine JA.take 8 rfl rfl rfl rfl (by kernel_rfl) (by kernel_rfl) (by kernel_rfl) (fun _ _ _ h => absurd h.1 (by simp)) (fun _ _ => rfl) (.none rfl) (fun _ => (Ev.extract rfl rfl)) ?_
        refine JA.branch [10] (by kernel_rfl) rfl ?_
        refine JAll.cons rfl ?_ JAll.nil
        refine JO.sto rfl rfl (.none rfl) (Es.storeA rfl rfl Tryd.sizeOf24 (by first | exact .here | exact .there .here | exact .there (.there .here) | exact .there (.there (.there .here)) | exact .there (.there (.there (.there .here))) | exact .there (.there (.there (.there (.there .here))))) rfl rfl (arr32_one _)) ?_
        refine JA.take 11 rfl rfl rfl rfl (by kernel_rfl) (by kernel_rfl) (by kernel_rfl) (fun _ _ _ h => absurd h.1 (by simp)) (fun _ _ => rfl) (.none rfl) (fun _ => (Ev.assign rfl)) ?_
        refine JA.done (by kernel_rfl) ?_
        refine JQ.cutN b11 ?_ ?_
        · exact Keeps.get (by repeat (first | exact Keeps.nil | refine Keeps.cons rfl ?_))
        · repeat (first | exact Sub.nil | refine Sub.cons (by first | exact .here | exact .there .here | exact .there (.there .here) | exact .there (.there (.there .here)) | exact .there (.there (.there (.there .here)))) ?_ | exact Sub.all)
      rintro b11
      refine JQ.thenN ?_
      refine JC.seq ?_
      -- region 11
      refine JC.region ?_
      refine JL.callV rfl (.none rfl) rfl Tryd.call22 (fun w1 hw1 => first_any w1) ?_
      refine JL.val rfl rfl rfl (.none rfl) (Ev.move rfl) ?_
      refine JL.callV rfl (.none rfl) rfl Tryd.call21 (fun w1 hw1 => folded_any st0 (some ⟨r3.g, 0, none⟩) r3.cap (pad (front lf ++ lb)) w1 (bs_of_row hw1 (by first | exact .head _ | exact .tail _ (.head _) | exact .tail _ (.tail _ (.head _)) | exact .tail _ (.tail _ (.tail _ (.head _))) | exact .tail _ (.tail _ (.tail _ (.tail _ (.head _)))) | exact List.mem_append_right _ (.head _)) hr3 rfl) (by omega) (hk.old hw1)) ?_
      refine JL.val rfl rfl rfl (.none rfl) (Ev.move rfl) ?_
      refine JL.val rfl rfl rfl (.none rfl) (Ev.extract rfl rfl) ?_
      refine JL.val rfl rfl rfl (.none rfl) (Ev.extract rfl rfl) ?_
      refine JL.new rfl rfl rfl (.none rfl) (En.alloc Tryd.zeroValue24) (fun b13 hb13 => ?_)
      refine JL.sto rfl rfl (.none rfl) (Es.storeA rfl rfl Tryd.sizeOf24 (by first | exact .here | exact .there .here | exact .there (.there .here) | exact .there (.there (.there .here)) | exact .there (.there (.there (.there .here))) | exact .there (.there (.there (.there (.there .here))))) rfl rfl (arr32_one _)) ?_
      refine JL.val rfl rfl rfl (.none rfl) (Ev.assign rfl) ?_
      refine JL.nil ?_
      refine JQ.thenN ?_
      refine JC.seq ?_
      -- region 12
      refine JC.region ?_
      refine JL.val rfl rfl rfl (.none rfl) (Ev.move rfl) ?_
      refine JL.val rfl rfl rfl (.none rfl) (Ev.move rfl) ?_
      refine JL.know (d := 86) (b := true) rfl ?_ ?_
      · rfl
      refine JL.val rfl rfl rfl (.yes rfl rfl rfl) (Ev.move rfl) ?_
      refine JL.val rfl rfl rfl (.none rfl) (Ev.pickT rfl rfl) ?_
      refine JL.val rfl rfl rfl (.none rfl) (Ev.move rfl) ?_
      refine JL.know (d := 89) (b := true) rfl ?_ ?_
      · rfl
      refine JL.val rfl rfl rfl (.yes rfl rfl rfl) (Ev.move rfl) ?_
      refine JL.val rfl rfl rfl (.none rfl) (Ev.pickT rfl rfl) ?_
      refine JL.val rfl rfl rfl (.none rfl) (Ev.move rfl) ?_
      refine JL.know (d := 92) (b := true) rfl ?_ ?_
      · rfl
      refine JL.val rfl rfl rfl (.yes rfl rfl rfl) (Ev.move rfl) ?_
      refine JL.val rfl rfl rfl (.none rfl) (Ev.pickT rfl rfl) ?_
      refine JL.val rfl rfl rfl (.none rfl) (Ev.move rfl) ?_
      refine JL.know (d := 95) (b := true) rfl ?_ ?_
      · rfl
      refine JL.val rfl rfl rfl (.yes rfl rfl rfl) (Ev.loadB rfl (by first | exact .head _ | exact .tail _ (.head _) | exact .tail _ (.tail _ (.head _)) | exact .tail _ (.tail _ (.tail _ (.head _))) | exact .tail _ (.tail _ (.tail _ (.tail _ (.head _)))) | exact .tail _ (.tail _ (.tail _ (.tail _ (.tail _ (.head _)))))) Tryd.underlying24 rfl Tryd.sizeOf24 rfl) ?_
      refine JL.val rfl rfl rfl (.yes rfl rfl rfl) (Ev.loadB rfl (by first | exact .head _ | exact .tail _ (.head _) | exact .tail _ (.tail _ (.head _)) | exact .tail _ (.tail _ (.tail _ (.head _))) | exact .tail _ (.tail _ (.tail _ (.tail _ (.head _)))) | exact .tail _ (.tail _ (.tail _ (.tail _ (.tail _ (.head _)))))) Tryd.underlying24 rfl Tryd.sizeOf24 rfl) ?_
      refine JL.val rfl rfl rfl (.yes rfl rfl rfl) (Ev.bin rfl rfl (eql_arr32 (n := 8) Tryd.underlying24 Tryd.underlying23 (by kernel_rfl) (by kernel_rfl) rfl rfl)) ?_
      refine JL.val rfl rfl rfl (.none rfl) (Ev.pickT rfl rfl) ?_
      refine JL.val rfl rfl rfl (.none rfl) (Ev.assign rfl) ?_
      refine JL.nil ?_
      refine JQ.thenN ?_
      refine JC.ret ?_
      refine JQ.end1 (H' := []) (.inl rfl) rfl (.tmp rfl) ?_ ?_
      · repeat (first | exact Sub.nil | refine Sub.cons (by first | exact .here | exact .there .here | exact .there (.there .here) | exact .there (.there (.there .here)) | exact .there (.there (.there (.there .here)))) ?_ | exact Sub.all)
      · first | exact rfl | exact congrArg Value.bool (decide_eq_true (by rw [resume_eq]))

end Go.Proofs.YteehmomhaaohhaaDoor
