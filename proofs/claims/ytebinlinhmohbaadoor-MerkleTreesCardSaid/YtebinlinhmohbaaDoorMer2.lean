/-
  Levels of a tree one by one; the root and the path in the program.
-/
import Derived.Test.YtebinlinhmohbaaDoorMer1
namespace Go.Proofs.YtebinlinhmohbaaDoor
open Go Go.RowKit
set_option maxRecDepth 100000

def rootV (ds : List Dig) : Dig := if 1024 < ds.length then zeroD else rootR ds
def rootE (ds : List Dig) : Int := if 1024 < ds.length then 4 else 0
theorem rootV_gr {ds : List Dig} (h : 1024 < ds.length) : rootV ds = zeroD := if_pos h
theorem rootE_gr {ds : List Dig} (h : 1024 < ds.length) : rootE ds = 4 := if_pos h
theorem rootV_ok {ds : List Dig} (h : ¬ 1024 < ds.length) : rootV ds = rootR ds := if_neg h
theorem rootE_ok {ds : List Dig} (h : ¬ 1024 < ds.length) : rootE ds = 0 := if_neg h
def pathV (ds : List Dig) (i : Int) : List Dig := if 1024 < ds.length then [] else if i < 0 ∨ (ds.length : Int) ≤ i then [] else pathR ds i.toNat
def pathE (ds : List Dig) (i : Int) : Int := if 1024 < ds.length then 4 else if i < 0 ∨ (ds.length : Int) ≤ i then 2 else 0
theorem pathV_gr {ds : List Dig} {i : Int} (h : 1024 < ds.length) : pathV ds i = [] := if_pos h
theorem pathE_gr {ds : List Dig} {i : Int} (h : 1024 < ds.length) : pathE ds i = 4 := if_pos h
theorem pathV_bad {ds : List Dig} {i : Int} (h : ¬ 1024 < ds.length) (h1 : i < 0 ∨ (ds.length : Int) ≤ i) : pathV ds i = [] := by unfold pathV; rw [if_neg h, if_pos h1]
theorem pathE_bad {ds : List Dig} {i : Int} (h : ¬ 1024 < ds.length) (h1 : i < 0 ∨ (ds.length : Int) ≤ i) : pathE ds i = 2 := by unfold pathE; rw [if_neg h, if_pos h1]
theorem pathV_ok {ds : List Dig} {i : Int} (h : ¬ 1024 < ds.length) (h1 : ¬ (i < 0 ∨ (ds.length : Int) ≤ i)) : pathV ds i = pathR ds i.toNat := by unfold pathV; rw [if_neg h, if_neg h1]
theorem pathE_ok {ds : List Dig} {i : Int} (h : ¬ 1024 < ds.length) (h1 : ¬ (i < 0 ∨ (ds.length : Int) ≤ i)) : pathE ds i = 0 := by unfold pathE; rw [if_neg h, if_neg h1]
theorem stepsR_le : ∀ (m i n : Nat), n ≤ m → stepsR i n ≤ n
  | 0, i, n, h => by rw [stepsR_small (by omega)]; omega
  | m + 1, i, n, h => by
    rcases Nat.lt_or_ge n 2 with h1 | h1
    · rw [stepsR_small (by omega)]; omega
    · have hb := bel_lt h1
      have hp := bel_pos n
      rw [stepsR_split h1]
      split
      · have := stepsR_le m i (bel n) (by omega); omega
      · have := stepsR_le m (i - bel n) (n - bel n) (by omega); omega
theorem path_le' (ds : List Dig) (i : Nat) : (pathR ds i).length ≤ ds.length := by rw [path_length]; exact stepsR_le _ _ _ (Nat.le_refl _)

theorem levels_any (oa : Option Addr) (len cap : Nat) (w : World) :
    Calls Tryd.prog 33 #[.slice oa len cap] w (Ret w (fun v H => ∃ bl, v = .func (.func 43) #[] #[.pointer (some ⟨bl, 0, none⟩)] ∧ H = [(bl, .cells #[.slice oa len cap] 62 (0, 0))])) := by
  refine enter (vs := [.slice oa len cap]) Tryd.func33 rfl Tryd.ntmps33 rfl ?_
  refine JC.seq ?_
  refine JC.region ?_
  refine JL.new rfl rfl rfl (.none rfl) (En.box1 rfl rfl) (fun b1 hb1 => ?_)
  refine JL.asg ?_
  refine JL.nil ?_
  refine JQ.thenN ?_
  refine JC.seq ?_
  refine JC.region ?_
  refine JL.val rfl rfl rfl (.none rfl) (Ev.makeFunc rfl) ?_
  refine JL.asg ?_
  refine JL.nil ?_
  refine JQ.thenN ?_
  refine JC.ret ?_
  refine JQ.end1 (H' := [(b1, .cells #[.slice oa len cap] 62 (0, 0))]) (.inl rfl) rfl (.tmp rfl) ?_ ?_
  · exact Sub.k
  · exact ⟨b1, rfl, rfl⟩

theorem levelsI_any (oa : Option Addr) (cap : Nat) (ds : List Dig) (bl : Nat) (hmx : ds.length ≤ 1100000) (X : Type) (A : X → Blocks) (Inv : Nat → X → Prop) (Z : Blocks → Prop) (l : Nat) (x0 : X) (w0 w : World) (hi : Inv 0 x0) (hw : Hp w0 ([(bl, Obj.cells #[.slice oa ds.length cap] 62 (0, 0))] ++ A x0) w) (hy : ∀ k x vs O w1, k < lg ds.length → Inv k x → (fun k vs O => ∃ ob cb, vs = [.slice ob (lv ds k).length cb] ∧ Lv w0 22 ob cb (lv ds k) O) k vs O → Hp w0 (O ++ A x) w1 → YieldOk Tryd.prog l vs.toArray w1 (fun e w' => (∃ x', Inv (k + 1) x' ∧ e = .returned (.bool true) ∧ Hp w0 (O ++ A x') w') ∨ (∃ B, Z B ∧ e = .returned (.bool false) ∧ Hp w0 (O ++ B) w'))) (hd : Dl w0 oa cap ds) (hk : KMem 1 w0) (hf : FMem 0 w0) :
    Calls Tryd.prog 43 #[.func (.yield l) #[] #[], .pointer (some ⟨bl, 0, none⟩)] w (Ret w0 (fun _ H' => (∃ x O, Inv (lg ds.length) x ∧ H' = O ++ A x) ∨ (∃ B O, Z B ∧ H' = O ++ B))) := by
  refine enterAt (vs := [.func (.yield l) #[] #[], .pointer (some ⟨bl, 0, none⟩)]) Tryd.func43 rfl Tryd.ntmps43 rfl hw ?_
  refine JC.block ?_
  refine JC.loop (X := Nat × X × Option Addr × Nat × Blocks)
    (fun ⟨k, x, ob, cb, RB⟩ => [(0, .func (.yield l) #[] #[]), (1, .pointer (some ⟨bl, 0, none⟩))])
    (fun ⟨k, x, ob, cb, RB⟩ => (bl, Obj.cells #[.slice ob (lv ds k).length cb] 62 (0, 0)) :: (RB ++ A x))
    (fun ⟨k, x, ob, cb, RB⟩ => k ≤ lg ds.length ∧ Inv k x ∧ Lv w0 22 ob cb (lv ds k) RB)
    (fun ⟨k, x, ob, cb, RB⟩ => lg ds.length - k) (0, x0, oa, cap, []) ?_ ?_ ?_ ?_
  · exact Keeps.k
  · exact Sub.k
  · exact ⟨Nat.zero_le _, hi, .inl hd⟩
  rintro ⟨k, x, ob, cb, RB⟩ ⟨hkk, hix, hlv⟩
  refine JC.seq ?_
  refine JC.seq ?_
  refine JC.region ?_
  refine JL.val rfl rfl rfl (.none rfl) (Ev.load1 rfl Tryd.underlying62 rfl (Rd.own memK rfl)) ?_
  refine JL.val rfl rfl rfl (.none rfl) (Ev.lenS rfl Tryd.underlying62) ?_
  refine JL.val rfl rfl rfl (.none rfl) (Ev.bin rfl rfl gtr_int) ?_
  refine JL.mv ?_
  refine JL.split (d := 6) rfl (fun hg1 => ?_) (fun hg1 => ?_)
  · -- guard 6 true
    have hg1 := of_decide_eq_true hg1
    have hkl : k < lg ds.length := lg_of (by rw [← lv_length]; omega) hkk
    refine JL.val rfl rfl rfl (.yes rfl rfl rfl) (Ev.move rfl) ?_
    refine JL.val rfl rfl rfl (.yes rfl rfl rfl) (Ev.load1 rfl Tryd.underlying62 rfl (Rd.own memK rfl)) ?_
    refine JL.yieldG rfl rfl (.yes rfl rfl rfl) rfl rfl (fun w1 hw1 => hy k x _ ((bl, Obj.cells #[.slice ob (lv ds k).length cb] 62 (0, 0)) :: RB) w1 hkl hix ⟨ob, cb, rfl, hlv.mono (fun p hp => List.mem_cons_of_mem _ hp)⟩ (by simpa using hw1)) ?_ ?_
    · -- yield true
      rintro x2 hi2
      refine JL.val rfl rfl rfl (.none rfl) (Ev.pickT rfl rfl) ?_
      refine JL.nil ?_
      refine JQ.thenN ?_
      refine JC.condT rfl ?_
      refine JC.skip ?_
      refine JQ.thenN ?_
      refine JC.block ?_
      refine JC.region ?_
      refine JL.val rfl rfl rfl (.none rfl) (Ev.load1 rfl Tryd.underlying62 rfl (Rd.own memK rfl)) ?_
      obtain ⟨a, rfl⟩ := hlv.get_some (by omega)
      refine JL.callN rfl (.none rfl) rfl Tryd.call34 (fun w1 hw1 => up_any a cb (lv ds k) w1 (hlv.cs hw1 (fun p hp => by simp [hp])) (by omega) (Nat.le_trans (lv_le ds k) hmx) (hk.old hw1) (hf.old hw1)) ?_
      rintro _ _ ⟨r, rfl, rfl, hr⟩
      refine JL.sto rfl rfl (.none rfl) (Es.store0 rfl rfl Tryd.sizeOf62 rfl rfl Upd.k) ?_
      refine JL.nil ?_
      refine JQ.blockN ?_
      refine JQ.loopN (k + 1, x2, some ⟨r.g, 0, none⟩, r.cap, Row.b 22 (some r)) ?_ ?_ ?_ ?_
      · exact Keeps.k
      · (first | exact Sub.of_cnt (fun a => by (try dsimp only); simp only [cntA]; omega) | exact Sub.of_cnt (fun a => by (try dsimp only); simp only [lv_succ, cntA]; omega))
      · exact ⟨by omega, hi2, .row hr⟩
      · show lg ds.length - (k + 1) < lg ds.length - k; omega
    · -- yield false
      rintro B hz
      refine JL.val rfl rfl rfl (.none rfl) (Ev.pickT rfl rfl) ?_
      refine JL.nil ?_
      refine JQ.thenN ?_
      refine JC.condF rfl ?_
      refine JC.exit ?_
      refine JQ.thenE ?_
      refine JQ.thenE ?_
      refine JQ.blockE ?_
      refine JQ.end0 (H' := (((bl, Obj.cells #[.slice ob (lv ds k).length cb] 62 (0, 0)) :: RB) ++ B)) (.inr rfl) rfl  ?_ ?_
      · exact Sub.k
      · exact .inr ⟨B, _, hz, rfl⟩
  · -- guard 6 false
    have hg1 := of_decide_eq_false hg1
    obtain rfl : k = lg ds.length := lg_eq (by rw [← lv_length]; omega) hkk
    refine JL.skip rfl rfl (.noT rfl rfl rfl) ?_
    refine JL.skip rfl rfl (.noT rfl rfl rfl) ?_
    refine JL.skip rfl rfl (.noT rfl rfl rfl) ?_
    refine JL.val rfl rfl rfl (.none rfl) (Ev.pickF rfl rfl) ?_
    refine JL.nil ?_
    refine JQ.thenN ?_
    refine JC.condF rfl ?_
    refine JC.exit ?_
    refine JQ.thenE ?_
    refine JQ.thenE ?_
    refine JQ.blockE ?_
    refine JQ.end0 (H' := (((bl, Obj.cells #[.slice ob (lv ds (lg ds.length)).length cb] 62 (0, 0)) :: RB) ++ A x)) (.inr rfl) rfl  ?_ ?_
    · exact Sub.k
    · exact .inl ⟨x, _, hix, rfl⟩

theorem Root_any (oa : Option Addr) (cap : Nat) (ds : List Dig) (w : World) (hd : Dl w oa cap ds) (hmx : ds.length ≤ 4398046510976) (hk : KMem 1 w) (hf : FMem 0 w) :
    Calls Tryd.prog 17 #[.slice oa ds.length cap] w (Ret w (fun v _ => v = .tuple #[.agg (arr8 (rootV ds).1), .int .i64 (rootE ds)])) := by
  refine enterM (vs := [.slice oa ds.length cap]) Tryd.func17 rfl Tryd.ntmps17 rfl ?_
  refine JC.seq ?_
  refine JC.region ?_
  refine JL.new rfl rfl rfl (.none rfl) (En.allocZ (cs := arr8 (List.replicate 32 0)) Tryd.zeroValue22 rfl) (fun b2 hb2 => ?_)
  refine JL.asg ?_
  refine JL.nil ?_
  refine JQ.thenN ?_
  refine JC.seq ?_
  refine JC.seq ?_
  refine JC.region ?_
  refine JL.mv ?_
  refine JL.val rfl rfl rfl (.none rfl) (Ev.lenS rfl Tryd.underlying23) ?_
  refine JL.val rfl rfl rfl (.none rfl) (Ev.bin rfl rfl gtr_int) ?_
  refine JL.nil ?_
  refine JQ.thenN ?_
  refine JC.cond rfl (fun hc1 => ?_) (fun hc1 => ?_)
  · -- t8 True
    replace hc1 := of_decide_eq_true hc1
    have hgr : 1024 < ds.length := by omega
    refine JC.seq ?_
    refine JC.region ?_
    refine JL.val rfl rfl rfl (.none rfl) (Ev.bu0 Tryd.underlying22 Tryd.sizeOf5 Tryd.zeroValue22) ?_
    refine JL.sto rfl rfl (.none rfl) (Es.sA Tryd.sizeOf22) ?_
    refine JL.asg ?_
    refine JL.nil ?_
    refine JQ.thenN ?_
    refine JC.ret ?_
    refine JQ.thenR ?_
    refine JQ.endM0s (H' := []) (.inl rfl) (by exact Sub.k) (res2 rfl (.agg rfl memK Tryd.underlying22 rfl Tryd.sizeOf22 szK) (.tmp rfl)) ?_
    · rw [rootV_gr hgr, rootE_gr hgr]; rfl
  · -- t8 False
    replace hc1 := of_decide_eq_false hc1
    have hsm : ¬ 1024 < ds.length := by omega
    have hmx : ds.length ≤ 1100000 := by omega
    refine JC.skip ?_
    refine JQ.thenN ?_
    refine JC.seq ?_
    refine JC.seq ?_
    refine JC.region ?_
    refine JL.mv ?_
    refine JL.val rfl rfl rfl (.none rfl) (Ev.lenS rfl Tryd.underlying23) ?_
    refine JL.val rfl rfl rfl (.none rfl) (Ev.bin rfl rfl eql_int) ?_
    refine JL.nil ?_
    refine JQ.thenN ?_
    refine JC.cond rfl (fun hc2 => ?_) (fun hc2 => ?_)
    · -- t12 True
      replace hc2 := of_decide_eq_true hc2
      have hnil : ds = [] := List.eq_nil_of_length_eq_zero (by omega)
      refine JC.seq ?_
      refine JC.region ?_
      refine JL.callV rfl (.none rfl) rfl Tryd.call25 (fun w1 hw1 => Sum_any none 0 [] w1 bs_nil (Nat.zero_le _) (hk.old hw1) (hf.old hw1)) ?_
      refine JL.val rfl rfl rfl (.none rfl) (Ev.ex0 rfl) ?_
      refine JL.val rfl rfl rfl (.none rfl) (Ev.ex1 rfl) ?_
      refine JL.sto rfl rfl (.none rfl) (Es.sA Tryd.sizeOf22) ?_
      refine JL.asg ?_
      refine JL.nil ?_
      refine JQ.thenN ?_
      refine JC.ret ?_
      refine JQ.thenR ?_
      refine JQ.endM0s (H' := []) (.inl rfl) (by exact Sub.k) (res2 rfl (.agg rfl memK Tryd.underlying22 rfl Tryd.sizeOf22 szK) (.tmp rfl)) ?_
      · subst hnil; rfl
    · -- t12 False
      replace hc2 := of_decide_eq_false hc2
      have hne : 1 ≤ ds.length := by omega
      refine JC.skip ?_
      refine JQ.thenN ?_
      refine JC.seq ?_
      refine JC.region ?_
      refine JL.mv ?_
      refine JL.new rfl rfl rfl (.none rfl) (En.allocZ (cs := #[.slice none 0 0]) Tryd.zeroValue62 rfl) (fun b4 hb4 => ?_)
      refine JL.sto rfl rfl (.none rfl) (Es.store0 rfl rfl Tryd.sizeOf62 rfl rfl Upd.k) ?_
      refine JL.nil ?_
      refine JQ.thenN ?_
      refine JC.seq ?_
      refine JC.seq ?_
      refine JC.region ?_
      refine JL.mv ?_
      refine JL.callN rfl (.none rfl) rfl Tryd.call33 (fun w1 hw1 => levels_any oa ds.length cap w1) ?_
      rintro _ _ ⟨bl, rfl, rfl⟩
      refine JL.nil ?_
      refine JQ.thenN ?_
      refine JC.block ?_
      refine JC.rangeG (ps := [19]) (X := Nat × Option Addr × Nat × Blocks) (lg ds.length) (fun ⟨j, ot, ct, RB⟩ E => (b4, Obj.cells #[.slice ot (lv ds j).length ct] 62 (0, 0)) :: (b2, Obj.cells (arr8 (List.replicate 32 0)) 22 (0, 0)) :: (RB ++ E)) (fun k ⟨j, ot, ct, RB⟩ => j = k ∧ Lv w 22 ot ct (lv ds j) RB) (fun c ⟨j, ot, ct, RB⟩ => False) ((fun k vs O => ∃ ob cb, vs = [.slice ob (lv ds k).length cb] ∧ Lv w 22 ob cb (lv ds k) O)) ([(bl, Obj.cells #[.slice oa ds.length cap] 62 (0, 0))]) (0, oa, cap, []) (fun k ⟨j, ot, ct, RB⟩ vs => [(5, (vs.headD undef)), (19, (vs.headD undef)), (2, .pointer (some ⟨b2, 0, none⟩)), (4, .pointer (some ⟨b4, 0, none⟩))]) (fun ⟨j, ot, ct, RB⟩ _ => by simp) rfl Tryd.call43 ?_ ?_ rfl (fun _ _ _ ⟨_, _, h, _⟩ => by rw [h]; rfl) (fun X A Inv Z l x0 w1 hi hw hy => levelsI_any oa cap ds bl hmx X A Inv Z l x0 w w1 hi hw hy hd hk hf) ?_ ?_ ?_ ?_
      · exact Sub.k
      · exact ⟨rfl, .inl hd⟩
      · rintro lr k ⟨j, ot, ct, RB⟩ vs O E hkN ⟨rfl, hlv⟩ ⟨ob, cb, rfl, hlv2⟩ hO
        refine JC.region ?_
        refine JL.asg ?_
        refine JL.nil ?_
        refine JQ.asg ?_
        exact Keeps.k
      · rintro lr k ⟨j, ot, ct, RB⟩ vs O E hkN ⟨rfl, hlv⟩ ⟨ob, cb, rfl, hlv2⟩ hO
        change JC _ [(5, .slice ob (lv ds j).length cb), (19, .slice ob (lv ds j).length cb), (2, .pointer (some ⟨b2, 0, none⟩)), (4, .pointer (some ⟨b4, 0, none⟩))] _ _ _
        have hl2 := lg_lt hkN
        rw [← lv_length] at hl2
        obtain ⟨a, rfl⟩ := hlv2.get_some (by omega)
        refine JC.block ?_
        refine JC.region ?_
        refine JL.mv ?_
        refine JL.callN rfl (.none rfl) rfl Tryd.call34 (fun w1 hw1 => up_any a cb (lv ds j) w1 (hlv2.cs hw1 (fun p hp => by have := hO p hp; simp [this])) (by omega) (Nat.le_trans (lv_le ds j) hmx) (hk.old hw1) (hf.old hw1)) ?_
        rintro _ _ ⟨r, rfl, rfl, hr⟩
        refine JL.sto rfl rfl (.none rfl) (Es.store0 rfl rfl Tryd.sizeOf62 rfl rfl Upd.k) ?_
        refine JL.nil ?_
        refine JQ.blockN ?_
        refine JQ.bodG (j + 1, some ⟨r.g, 0, none⟩, r.cap, Row.b 22 (some r)) ?_ ?_
        · exact ⟨rfl, .row hr⟩
        · (first | exact Sub.of_cnt (fun a => by (try dsimp only); simp only [cntA]; omega) | exact Sub.of_cnt (fun a => by (try dsimp only); simp only [lv_succ, cntA]; omega))
      · rintro ⟨j, ot, ct, RB⟩ D E ⟨rfl, hlv⟩
        refine JQ.blockN ?_
        refine JQ.thenN ?_
        refine JC.seq ?_
        refine JC.region ?_
        refine JL.val rfl rfl rfl (.none rfl) (Ev.load1 rfl Tryd.underlying62 rfl (Rd.own memK rfl)) ?_
        have hlen := lv_length ds (lg ds.length)
        have h1 := lg_end ds.length
        have h2 := hn_pos hne (lg ds.length)
        obtain ⟨a, rfl⟩ := hlv.get_some (by omega)
        obtain ⟨d, hd0⟩ := get_some (l := lv ds (lg ds.length)) (k := 0) (by omega)
        refine JL.val rfl rfl rfl (.none rfl) (Ev.idxS (k := 0) rfl rfl Tryd.underlying62 Tryd.sizeOf22 rfl (by omega)) ?_
        refine JL.val rfl rfl rfl (.none rfl) (Ev.loadD rfl Tryd.underlying22 rfl Tryd.sizeOf22 (hlv.rd (fun p hp => by simp [hp]) hd0)) ?_
        refine JL.sto rfl rfl (.none rfl) (Es.sA Tryd.sizeOf22) ?_
        refine JL.asg ?_
        refine JL.nil ?_
        refine JQ.thenN ?_
        refine JC.ret ?_
        refine JQ.endMs (H' := []) (.inl rfl) memK ⟨_, Upd.k, by exact Sub.k, (res2 rfl (.agg rfl memK Tryd.underlying22 rfl Tryd.sizeOf22 szK) (.tmp rfl))⟩ ?_
        · rw [rootV_ok hsm, rootE_ok hsm, ← lv_root ds (lg ds.length), rootR_len1 (by omega) hd0]
      · rintro c ⟨j, ot, ct, RB⟩ D E hs
        exact hs.elim

theorem pathC_any (w0 w : World) (ob : Option Addr) (cb : Nat) (ds out : List Dig) (ba bo i : Nat) (q : Option Row) (R : Blocks) (hi : i < 4000000) (hl : ds.length ≤ 1100000) (ho : out.length ≤ 1100000) (hlv : Lv w0 22 ob cb ds R) (hq : Row.ok 32 out.length (fl out) q) (hw : Hp w0 ([(ba, Obj.cells #[.int .i64 (i : Int)] 3 (0, 0)), (bo, Obj.cells #[Row.v out.length q] 23 (0, 0))] ++ (Row.b 22 q ++ R)) w) :
    Calls Tryd.prog 36 #[.slice ob ds.length cb, .pointer (some ⟨ba, 0, none⟩), .pointer (some ⟨bo, 0, none⟩)] w (Ret w0 (fun _ H => ∃ q2 : Option Row, H = [(ba, Obj.cells #[.int .i64 ((i / 2 : Nat) : Int)] 3 (0, 0)), (bo, Obj.cells #[Row.v (out ++ sib ds i).length q2] 23 (0, 0))] ++ (Row.b 22 q2 ++ R) ∧ Row.ok 32 (out ++ sib ds i).length (fl (out ++ sib ds i)) q2)) := by
  refine enterAt (vs := [.slice ob ds.length cb, .pointer (some ⟨ba, 0, none⟩), .pointer (some ⟨bo, 0, none⟩)]) Tryd.func36 rfl Tryd.ntmps36 rfl hw ?_
  refine JC.seq ?_
  refine JC.seq ?_
  refine JC.region ?_
  refine JL.val rfl rfl rfl (.none rfl) (Ev.load1 rfl Tryd.underlying3 rfl (Rd.own memK rfl)) ?_
  refine JL.val rfl rfl rfl (.none rfl) (Ev.bin rfl rfl (xor1_i64 (by omega))) ?_
  refine JL.asg ?_
  refine JL.nil ?_
  refine JQ.thenN ?_
  refine JC.seq ?_
  refine JC.region ?_
  refine JL.mv ?_
  refine JL.mv ?_
  refine JL.val rfl rfl rfl (.none rfl) (Ev.lenS rfl Tryd.underlying62) ?_
  refine JL.val rfl rfl rfl (.none rfl) (Ev.bin rfl rfl lss_int) ?_
  refine JL.nil ?_
  refine JQ.thenN ?_
  refine JC.cond rfl (fun hc1 => ?_) (fun hc1 => ?_)
  · -- t10 True
    replace hc1 := of_decide_eq_true hc1
    have ho1 : oth i < ds.length := by omega
    obtain ⟨d, hd⟩ := get_some ho1
    have hs : sib ds i = [d] := by unfold sib; rw [hd]; rfl
    obtain ⟨a, rfl⟩ := hlv.get_some (by omega)
    refine JC.cut (X := {r : Row // Row.ok 32 (out.length + 1) (fl out ++ fl [d]) (some r)}) (fun ⟨rn, hrn⟩ => [(1, .pointer (some ⟨ba, 0, none⟩)), (2, .pointer (some ⟨bo, 0, none⟩))]) (fun ⟨rn, hrn⟩ => [(ba, Obj.cells #[.int .i64 (i : Int)] 3 (0, 0)), (bo, Obj.cells #[Row.v (out.length + 1) (some rn)] 23 (0, 0))] ++ (Row.b 22 (some rn) ++ R)) ?_ ?_
    · refine JC.regionA (by kernel_rfl) ?_
      refine JA.tkc 1 rfl (.none rfl) (fun _ => (Ev.move rfl)) ?_
      refine JA.tkc 2 rfl (.none rfl) (fun _ => (Ev.move rfl)) ?_
      refine JA.tkc 3 rfl (.none rfl) (fun _ => (Ev.idxS rfl rfl Tryd.underlying62 Tryd.sizeOf22 (k := oth i) rfl (by omega))) ?_
      refine JA.branch [0, 4] (by kernel_rfl) rfl ?_
      refine JAll.cons rfl ?_ ?_
      · -- 0
        refine JO.val rfl rfl rfl (.none rfl) (Ev.load1 rfl Tryd.underlying23 rfl (Rd.own memK rfl)) ?_
        refine JA.one 4 ?_
        refine JO.val rfl rfl rfl (.none rfl) (Ev.loadD rfl Tryd.underlying22 rfl Tryd.sizeOf22 (hlv.rd (fun p hp => by simp [hp]) hd)) ?_
        refine JA.one 5 ?_
        refine JO.new rfl rfl rfl (.none rfl) (En.bs1D (e := 22) rfl Tryd.underlying23 Tryd.sizeOf22 Tryd.zeroValue22) (fun b16 hb16 => ?_)
        refine JA.one 6 ?_
        refine JO.gen rfl rfl rfl (.none rfl) (Eg.append1 (z := (.agg (arr8 (List.replicate 32 0)))) (s := 32) (bytes := 32) rfl rfl rfl Cut.k Tryd.underlying23 (by kernel_rfl) rfl (by decide) (by decide) (by assumption) (Rds.all memK) (fl_length _) (by decide) (by intro u hu; first | exact fl_one _ u hu | exact u8s_one _ u hu | (simp at hu; subst hu; rfl)) (by omega)) ?_
        rintro _ _ ⟨rn, rfl, rfl, hrn⟩
        refine JA.one 7 ?_
        refine JO.sto rfl rfl (.none rfl) (Es.store0 rfl rfl Tryd.sizeOf23 rfl rfl Upd.k) ?_
        refine JA.done (by kernel_rfl) ?_
        refine JQ.cutN ⟨rn, hrn⟩ ?_ ?_
        · exact Keeps.k
        · exact Sub.k
      refine JAll.cons rfl ?_ JAll.nil
      refine JO.val rfl rfl rfl (.none rfl) (Ev.loadD rfl Tryd.underlying22 rfl Tryd.sizeOf22 (hlv.rd (fun p hp => by simp [hp]) hd)) ?_
      refine JA.branch [0, 5] (by kernel_rfl) rfl ?_
      refine JAll.cons rfl ?_ ?_
      · -- 0
        refine JO.val rfl rfl rfl (.none rfl) (Ev.load1 rfl Tryd.underlying23 rfl (Rd.own memK rfl)) ?_
        refine JA.one 5 ?_
        refine JO.new rfl rfl rfl (.none rfl) (En.bs1D (e := 22) rfl Tryd.underlying23 Tryd.sizeOf22 Tryd.zeroValue22) (fun b16 hb16 => ?_)
        refine JA.one 6 ?_
        refine JO.gen rfl rfl rfl (.none rfl) (Eg.append1 (z := (.agg (arr8 (List.replicate 32 0)))) (s := 32) (bytes := 32) rfl rfl rfl Cut.k Tryd.underlying23 (by kernel_rfl) rfl (by decide) (by decide) (by assumption) (Rds.all memK) (fl_length _) (by decide) (by intro u hu; first | exact fl_one _ u hu | exact u8s_one _ u hu | (simp at hu; subst hu; rfl)) (by omega)) ?_
        rintro _ _ ⟨rn, rfl, rfl, hrn⟩
        refine JA.one 7 ?_
        refine JO.sto rfl rfl (.none rfl) (Es.store0 rfl rfl Tryd.sizeOf23 rfl rfl Upd.k) ?_
        refine JA.done (by kernel_rfl) ?_
        refine JQ.cutN ⟨rn, hrn⟩ ?_ ?_
        · exact Keeps.k
        · exact Sub.k
      refine JAll.cons rfl ?_ JAll.nil
      refine JO.new rfl rfl rfl (.none rfl) (En.bs1D (e := 22) rfl Tryd.underlying23 Tryd.sizeOf22 Tryd.zeroValue22) (fun b16 hb16 => ?_)
      refine JA.one 0 ?_
      refine JO.val rfl rfl rfl (.none rfl) (Ev.load1 rfl Tryd.underlying23 rfl (Rd.own memK rfl)) ?_
      refine JA.one 6 ?_
      refine JO.gen rfl rfl rfl (.none rfl) (Eg.append1 (z := (.agg (arr8 (List.replicate 32 0)))) (s := 32) (bytes := 32) rfl rfl rfl Cut.k Tryd.underlying23 (by kernel_rfl) rfl (by decide) (by decide) (by assumption) (Rds.all memK) (fl_length _) (by decide) (by intro u hu; first | exact fl_one _ u hu | exact u8s_one _ u hu | (simp at hu; subst hu; rfl)) (by omega)) ?_
      rintro _ _ ⟨rn, rfl, rfl, hrn⟩
      refine JA.one 7 ?_
      refine JO.sto rfl rfl (.none rfl) (Es.store0 rfl rfl Tryd.sizeOf23 rfl rfl Upd.k) ?_
      refine JA.done (by kernel_rfl) ?_
      refine JQ.cutN ⟨rn, hrn⟩ ?_ ?_
      · exact Keeps.k
      · exact Sub.k
    rintro ⟨rn, hrn⟩
    refine JQ.thenN ?_
    refine JC.region ?_
    refine JL.val rfl rfl rfl (.none rfl) (Ev.load1 rfl Tryd.underlying3 rfl (Rd.own memK rfl)) ?_
    refine JL.val rfl rfl rfl (.none rfl) (Ev.bin rfl rfl (quo_i64 (by omega))) ?_
    refine JL.sto rfl rfl (.none rfl) (Es.store0 rfl rfl Tryd.sizeOf3 rfl rfl Upd.k) ?_
    refine JL.reH (o' := Obj.cells #[.int .i64 ((i / 2 : Nat) : Int)] 3 (0, 0)) Upd.k (congrArg (fun x => Obj.cells #[Value.int .i64 x] 3 (0, 0)) (by omega)) ?_
    refine JL.nil ?_
    refine JQ.end0 (H' := ([(ba, Obj.cells #[.int .i64 ((i / 2 : Nat) : Int)] 3 (0, 0)), (bo, Obj.cells #[Row.v (out.length + 1) (some rn)] 23 (0, 0))] ++ (Row.b 22 (some rn) ++ R))) (.inr rfl) rfl  ?_ ?_
    · exact Sub.k
    · exact ⟨some rn, by rw [hs, List.length_append]; rfl, by rw [hs, List.length_append, fl_append]; exact hrn⟩
  · -- t10 False
    replace hc1 := of_decide_eq_false hc1
    have hs : sib ds i = [] := by unfold sib; rw [List.getElem?_eq_none (by omega)]; rfl
    refine JC.skip ?_
    refine JQ.thenN ?_
    refine JC.region ?_
    refine JL.val rfl rfl rfl (.none rfl) (Ev.load1 rfl Tryd.underlying3 rfl (Rd.own memK rfl)) ?_
    refine JL.val rfl rfl rfl (.none rfl) (Ev.bin rfl rfl (quo_i64 (by omega))) ?_
    refine JL.sto rfl rfl (.none rfl) (Es.store0 rfl rfl Tryd.sizeOf3 rfl rfl Upd.k) ?_
    refine JL.reH (o' := Obj.cells #[.int .i64 ((i / 2 : Nat) : Int)] 3 (0, 0)) Upd.k (congrArg (fun x => Obj.cells #[Value.int .i64 x] 3 (0, 0)) (by omega)) ?_
    refine JL.nil ?_
    refine JQ.end0 (H' := ([(ba, Obj.cells #[.int .i64 ((i / 2 : Nat) : Int)] 3 (0, 0)), (bo, Obj.cells #[Row.v out.length q] 23 (0, 0))] ++ (Row.b 22 q ++ R))) (.inr rfl) rfl  ?_ ?_
    · exact Sub.k
    · exact ⟨q, by rw [hs, List.append_nil], by rw [hs, List.append_nil]; exact hq⟩

theorem Path_any (oa : Option Addr) (cap : Nat) (ds : List Dig) (i : Int) (hib : -9223372036854775808 ≤ i ∧ i ≤ 9223372036854775807) (w : World) (hd : Dl w oa cap ds) (hmx : ds.length ≤ 4398046510976) (hk : KMem 1 w) (hf : FMem 0 w) :
    Calls Tryd.prog 19 #[.slice oa ds.length cap, .int .i64 i] w (Ret w (fun v H => ∃ r : Option Row, v = .tuple #[Row.v (pathV ds i).length r, .int .i64 (pathE ds i)] ∧ H = Row.b 22 r ∧ Row.ok 32 (pathV ds i).length (fl (pathV ds i)) r)) := by
  refine enterM (vs := [.slice oa ds.length cap, .int .i64 i]) Tryd.func19 rfl Tryd.ntmps19 rfl ?_
  refine JC.seq ?_
  refine JC.region ?_
  refine JL.asg ?_
  refine JL.asg ?_
  refine JL.nil ?_
  refine JQ.thenN ?_
  refine JC.seq ?_
  refine JC.seq ?_
  refine JC.region ?_
  refine JL.mv ?_
  refine JL.val rfl rfl rfl (.none rfl) (Ev.lenS rfl Tryd.underlying23) ?_
  refine JL.val rfl rfl rfl (.none rfl) (Ev.bin rfl rfl gtr_int) ?_
  refine JL.nil ?_
  refine JQ.thenN ?_
  refine JC.cond rfl (fun hc1 => ?_) (fun hc1 => ?_)
  · -- t12 True
    replace hc1 := of_decide_eq_true hc1
    have hgr : 1024 < ds.length := by omega
    refine JC.seq ?_
    refine JC.region ?_
    refine JL.asg ?_
    refine JL.asg ?_
    refine JL.nil ?_
    refine JQ.thenN ?_
    refine JC.ret ?_
    refine JQ.thenR ?_
    refine JQ.endM0s (H' := []) (.inl rfl) (by exact Sub.k) (res2 rfl (.tmp rfl) (.tmp rfl)) ?_
    · exact ⟨none, by rw [pathV_gr hgr, pathE_gr hgr]; rfl, rfl, by rw [pathV_gr hgr]; exact Row.ok0⟩
  · -- t12 False
    replace hc1 := of_decide_eq_false hc1
    have hsm : ¬ 1024 < ds.length := by omega
    have hmx : ds.length ≤ 1100000 := by omega
    refine JC.skip ?_
    refine JQ.thenN ?_
    refine JC.seq ?_
    refine JC.seq ?_
    refine JC.region ?_
    refine JL.mv ?_
    refine JL.val rfl rfl rfl (.none rfl) (Ev.bin rfl rfl lss_int) ?_
    refine JL.mv ?_
    refine JL.split (d := 15) rfl (fun hg1 => ?_) (fun hg1 => ?_)
    · -- guard 15 true
      have hbad : i < 0 ∨ (ds.length : Int) ≤ i := .inl (by have := of_decide_eq_true hg1; omega)
      refine JL.skip rfl rfl (.noF rfl rfl rfl) ?_
      refine JL.skip rfl rfl (.noF rfl rfl rfl) ?_
      refine JL.skip rfl rfl (.noF rfl rfl rfl) ?_
      refine JL.skip rfl rfl (.noF rfl rfl rfl) ?_
      refine JL.val rfl rfl rfl (.none rfl) (Ev.pickT rfl rfl) ?_
      refine JL.nil ?_
      refine JQ.thenN ?_
      refine JC.condT rfl ?_
      refine JC.seq ?_
      refine JC.region ?_
      refine JL.asg ?_
      refine JL.asg ?_
      refine JL.nil ?_
      refine JQ.thenN ?_
      refine JC.ret ?_
      refine JQ.thenR ?_
      refine JQ.endM0s (H' := []) (.inl rfl) (by exact Sub.k) (res2 rfl (.tmp rfl) (.tmp rfl)) ?_
      · exact ⟨none, by rw [pathV_bad hsm hbad, pathE_bad hsm hbad]; rfl, rfl, by rw [pathV_bad hsm hbad]; exact Row.ok0⟩
    · -- guard 15 false
      have hg1 := of_decide_eq_false hg1
      refine JL.val rfl rfl rfl (.yes rfl rfl rfl) (Ev.move rfl) ?_
      refine JL.val rfl rfl rfl (.yes rfl rfl rfl) (Ev.move rfl) ?_
      refine JL.val rfl rfl rfl (.yes rfl rfl rfl) (Ev.lenS rfl Tryd.underlying23) ?_
      refine JL.val rfl rfl rfl (.yes rfl rfl rfl) (Ev.bin rfl rfl geq_int) ?_
      refine JL.val rfl rfl rfl (.none rfl) (Ev.pickF rfl rfl) ?_
      refine JL.nil ?_
      refine JQ.thenN ?_
      refine JC.cond rfl (fun hc2 => ?_) (fun hc2 => ?_)
      · -- t20 True
        replace hc2 := of_decide_eq_true hc2
        have hbad : i < 0 ∨ (ds.length : Int) ≤ i := .inr (by omega)
        refine JC.seq ?_
        refine JC.region ?_
        refine JL.asg ?_
        refine JL.asg ?_
        refine JL.nil ?_
        refine JQ.thenN ?_
        refine JC.ret ?_
        refine JQ.thenR ?_
        refine JQ.endM0s (H' := []) (.inl rfl) (by exact Sub.k) (res2 rfl (.tmp rfl) (.tmp rfl)) ?_
        · exact ⟨none, by rw [pathV_bad hsm hbad, pathE_bad hsm hbad]; rfl, rfl, by rw [pathV_bad hsm hbad]; exact Row.ok0⟩
      · -- t20 False
        replace hc2 := of_decide_eq_false hc2
        have hok : ¬ (i < 0 ∨ (ds.length : Int) ≤ i) := by omega
        obtain ⟨n, rfl⟩ : ∃ n : Nat, i = (n : Int) := ⟨i.toNat, by omega⟩
        have hin : n < ds.length := by omega
        refine JC.skip ?_
        refine JQ.thenN ?_
        refine JC.seq ?_
        refine JC.region ?_
        refine JL.new rfl rfl rfl (.none rfl) (En.allocZ (cs := #[.slice none 0 0]) Tryd.zeroValue23 rfl) (fun b6 hb6 => ?_)
        refine JL.nil ?_
        refine JQ.thenN ?_
        refine JC.seq ?_
        refine JC.region ?_
        refine JL.mv ?_
        refine JL.new rfl rfl rfl (.none rfl) (En.allocZ (cs := #[.int .i64 0]) Tryd.zeroValue3 rfl) (fun b7 hb7 => ?_)
        refine JL.sto rfl rfl (.none rfl) (Es.store0 rfl rfl Tryd.sizeOf3 rfl rfl Upd.k) ?_
        refine JL.nil ?_
        refine JQ.thenN ?_
        refine JC.seq ?_
        refine JC.region ?_
        refine JL.val rfl rfl rfl (.none rfl) (Ev.makeFunc rfl) ?_
        refine JL.new rfl rfl rfl (.none rfl) (En.allocZ (cs := #[.nilFunc]) Tryd.zeroValue68 rfl) (fun b8 hb8 => ?_)
        refine JL.sto rfl rfl (.none rfl) (Es.store0 rfl rfl Tryd.sizeOf68 rfl rfl Upd.k) ?_
        refine JL.nil ?_
        refine JQ.thenN ?_
        refine JC.seq ?_
        refine JC.seq ?_
        refine JC.region ?_
        refine JL.mv ?_
        refine JL.callN rfl (.none rfl) rfl Tryd.call33 (fun w1 hw1 => levels_any oa ds.length cap w1) ?_
        rintro _ _ ⟨bl, rfl, rfl⟩
        refine JL.nil ?_
        refine JQ.thenN ?_
        refine JC.block ?_
        refine JC.reH (b := b7) (o' := Obj.cells #[.int .i64 ((n / 2 ^ 0 : Nat) : Int)] 3 (0, 0)) Upd.k (congrArg (fun x => Obj.cells #[Value.int .i64 ((x : Nat) : Int)] 3 (0, 0)) (by rw [Nat.pow_zero, Nat.div_one])) ?_
        refine JC.rangeG (ps := [25]) (X := Nat × List Dig × Option Row) (lg ds.length) (fun ⟨j, out, q⟩ E => (b8, Obj.cells #[.func (.func 36) #[] #[.pointer (some ⟨b7, 0, none⟩), .pointer (some ⟨b6, 0, none⟩)]] 68 (0, 0)) :: (b7, Obj.cells #[.int .i64 ((n / 2 ^ j : Nat) : Int)] 3 (0, 0)) :: (b6, Obj.cells #[Row.v out.length q] 23 (0, 0)) :: (Row.b 22 q ++ E)) (fun k ⟨j, out, q⟩ => j = k ∧ Row.ok 32 out.length (fl out) q ∧ out ++ pathR (lv ds j) (n / 2 ^ j) = pathR ds n) (fun c ⟨j, out, q⟩ => False) ((fun k vs O => ∃ ob cb, vs = [.slice ob (lv ds k).length cb] ∧ Lv w 22 ob cb (lv ds k) O)) ([(bl, Obj.cells #[.slice oa ds.length cap] 62 (0, 0))]) (0, [], none) (fun k ⟨j, out, q⟩ vs => [(9, (vs.headD undef)), (25, (vs.headD undef)), (6, .pointer (some ⟨b6, 0, none⟩)), (7, .pointer (some ⟨b7, 0, none⟩)), (8, .pointer (some ⟨b8, 0, none⟩))]) (fun ⟨j, out, q⟩ _ => by simp) rfl Tryd.call43 ?_ ?_ rfl (fun _ _ _ ⟨_, _, h, _⟩ => by rw [h]; rfl) (fun X A Inv Z l x0 w1 hi hw hy => levelsI_any oa cap ds bl hmx X A Inv Z l x0 w w1 hi hw hy hd hk hf) ?_ ?_ ?_ ?_
        · exact Sub.k
        · exact ⟨rfl, ⟨rfl, rfl⟩, by rw [Nat.pow_zero, Nat.div_one]; rfl⟩
        · rintro lr k ⟨j, out, q⟩ vs O E hkN ⟨rfl, hq, hp⟩ ⟨ob, cb, rfl, hlv2⟩ hO
          refine JC.region ?_
          refine JL.asg ?_
          refine JL.nil ?_
          refine JQ.asg ?_
          exact Keeps.k
        · rintro lr k ⟨j, out, q⟩ vs O E hkN ⟨rfl, hq, hp⟩ ⟨ob, cb, rfl, hlv2⟩ hO
          change JC _ [(9, .slice ob (lv ds j).length cb), (25, .slice ob (lv ds j).length cb), (6, .pointer (some ⟨b6, 0, none⟩)), (7, .pointer (some ⟨b7, 0, none⟩)), (8, .pointer (some ⟨b8, 0, none⟩))] _ _ _
          have hl2 := lg_lt hkN
          rw [← lv_length] at hl2
          have hpu := path_up hl2 (by rw [lv_length]; exact hi_lt hin j)
          refine JC.block ?_
          refine JC.region ?_
          refine JL.val rfl rfl rfl (.none rfl) (Ev.load1 rfl Tryd.underlying68 rfl (Rd.own memK rfl)) ?_
          refine JL.mv ?_
          refine JL.callCloAt rfl (.none rfl) rfl rfl Tryd.call36 (fun w1 hw1 => pathC_any w w1 ob cb (lv ds j) out b7 b6 (n / 2 ^ j) q ((b8, Obj.cells #[.func (.func 36) #[] #[.pointer (some ⟨b7, 0, none⟩), .pointer (some ⟨b6, 0, none⟩)]] 68 (0, 0)) :: E) (by have := Nat.div_le_self n (2 ^ j); omega) (Nat.le_trans (lv_le ds j) hmx) (by have h1 := congrArg List.length hp; have h2 := path_le' ds n; rw [List.length_append] at h1; omega) (hlv2.mono (fun p hp => List.mem_cons_of_mem _ (hO p hp))) hq (hw1.sub (by exact Sub.of_cnt (fun a => by (try dsimp only); simp only [cntA]; omega)))) ?_
          rintro _ _ ⟨q2, rfl, hq2⟩
          refine JL.nil ?_
          refine JQ.blockN ?_
          rw [← div_pow_succ]
          refine JQ.bodG (j + 1, out ++ sib (lv ds j) (n / 2 ^ j), q2) ?_ ?_
          · exact ⟨rfl, hq2, by rw [← hp, hpu, List.append_assoc, div_pow_succ]; rfl⟩
          · (first | exact Sub.of_cnt (fun a => by (try dsimp only); simp only [cntA]; omega) | exact Sub.of_cnt (fun a => by (try dsimp only); simp only [lv_succ, cntA]; omega))
        · rintro ⟨j, out, q⟩ D E ⟨rfl, hq, hp⟩
          refine JQ.blockN ?_
          refine JQ.thenN ?_
          refine JC.seq ?_
          refine JC.region ?_
          refine JL.val rfl rfl rfl (.none rfl) (Ev.load1 rfl Tryd.underlying23 rfl (Rd.own memK rfl)) ?_
          refine JL.asg ?_
          refine JL.asg ?_
          refine JL.nil ?_
          refine JQ.thenN ?_
          refine JC.ret ?_
          refine JQ.endMs (H' := (Row.b 22 q)) (.inl rfl) memK ⟨_, Upd.k, by exact Sub.k, (res2 rfl (.tmp rfl) (.tmp rfl))⟩ ?_
          · rw [pathR_small (by rw [lv_length]; exact lg_end _), List.append_nil] at hp; exact ⟨q, by rw [pathV_ok hsm hok, pathE_ok hsm hok, Int.toNat_natCast, ← hp]; rfl, rfl, by rw [pathV_ok hsm hok, Int.toNat_natCast, ← hp]; exact hq⟩
        · rintro c ⟨j, out, q⟩ D E hs
          exact hs.elim

end Go.Proofs.YtebinlinhmohbaaDoor
