/-
  Trees in the program: pairs, levels, the root, the path.
-/
import Derived.Test.YtebinlinhmohbaaDoorDig6
import Derived.Test.YtebinlinhmohbaaDoorDig
import Derived.Test.YtebinlinhmohbaaDoorShort
namespace Go.Proofs.YtebinlinhmohbaaDoor
open Go Go.RowKit
set_option maxRecDepth 100000

theorem sub3_mid {a : Addr} {l m s : Nat} (hm : 0 < m) : sub3 (some a) l (l + m) (l + m) s = .slice (some (a.add (l * s))) m m := by
  unfold sub3
  rw [if_neg (by omega), Nat.add_sub_cancel_left]
  rfl
theorem Rds.pair {c : Cx} {H : Blocks} {a : Addr} {ds : List Dig} {j i : Nat} {d : Dig} (h : Mem c.w0 a (fl ds)) (hk : ds[2 * j + i]? = some d) : Rds c H ((a.add (2 * j * 32)).add (i * 32)) (d.1.map u8) := by
  have h1 := h.atD hk
  rw [show (2 * j + i) * 32 = 2 * j * 32 + i * 32 by omega, ← add_add'] at h1
  exact Rds.old h1
theorem fl_take_succ {l : List Dig} {j : Nat} {d : Dig} (h : l[j]? = some d) : fl (l.take (j + 1)) = fl (l.take j) ++ fl [d] := by
  rw [List.take_add_one, h, fl_append]
  rfl
theorem nodeG_any (a b : Dig) (w : World) (hk : KMem 1 w) (hf : FMem 0 w) :
    Calls Tryd.prog 23 #[.agg (arr8 a.1), .agg (arr8 b.1)] w (Ret w fun v _ => v = .agg (arr8 (nodeD a b).1)) := node_any a.1 b.1 a.2 b.2 w hk hf

theorem chunkL_any (oa : Option Addr) (len cap : Nat) (w : World) :
    Calls Tryd.prog 44 #[.slice oa len cap, .int .i64 2] w (Ret w (fun v H => ∃ bs bn, v = .func (.func 50) #[] #[.pointer (some ⟨bs, 0, none⟩), .pointer (some ⟨bn, 0, none⟩)] ∧ H = [(bn, .cells #[.int .i64 2] 3 (0, 0)), (bs, .cells #[.slice oa len cap] 62 (0, 0))])) := by
  refine enter (vs := [.slice oa len cap, .int .i64 2]) Tryd.func44 rfl Tryd.ntmps44 rfl ?_
  refine JC.seq ?_
  refine JC.region ?_
  refine JL.new rfl rfl rfl (.none rfl) (En.box1 rfl rfl) (fun b2 hb2 => ?_)
  refine JL.new rfl rfl rfl (.none rfl) (En.box1 rfl rfl) (fun b3 hb3 => ?_)
  refine JL.asg ?_
  refine JL.nil ?_
  refine JQ.thenN ?_
  refine JC.seq ?_
  refine JC.seq ?_
  refine JC.region ?_
  refine JL.val rfl rfl rfl (.none rfl) (Ev.load1 rfl Tryd.underlying3 rfl (Rd.own memK rfl)) ?_
  refine JL.val rfl rfl rfl (.none rfl) (Ev.bin rfl rfl lss_int) ?_
  refine JL.nil ?_
  refine JQ.thenN ?_
  refine JC.knowF rfl ?_ ?_
  · rfl
  refine JC.skip ?_
  refine JQ.thenN ?_
  refine JC.seq ?_
  refine JC.region ?_
  refine JL.val rfl rfl rfl (.none rfl) (Ev.makeFunc rfl) ?_
  refine JL.asg ?_
  refine JL.nil ?_
  refine JQ.thenN ?_
  refine JC.ret ?_
  refine JQ.end1 (H' := [(b3, .cells #[.int .i64 2] 3 (0, 0)), (b2, .cells #[.slice oa len cap] 62 (0, 0))]) (.inl rfl) rfl (.tmp rfl) ?_ ?_
  · exact Sub.k
  · exact ⟨b2, b3, rfl, rfl⟩

theorem chunkLI_any (a : Addr) (len cap : Nat) (hcap : len ≤ cap) (hmax : len ≤ 1100000) (bs bn : Nat) (X : Type) (A : X → Blocks) (Inv : Nat → X → Prop) (Z : Blocks → Prop) (l : Nat) (x0 : X) (w0 w : World) (hi : Inv 0 x0) (hw : Hp w0 ([(bn, Obj.cells #[.int .i64 2] 3 (0, 0)), (bs, Obj.cells #[.slice (some a) len cap] 62 (0, 0))] ++ A x0) w) (hy : ∀ k x vs O w1, k < (len + 1) / 2 → Inv k x → (fun k vs _ => vs = [.slice (some (a.add (2 * k * 32))) (min 2 (len - 2 * k)) (min 2 (len - 2 * k))]) k vs O → Hp w0 (O ++ A x) w1 → YieldOk Tryd.prog l vs.toArray w1 (fun e w' => (∃ x', Inv (k + 1) x' ∧ e = .returned (.bool true) ∧ Hp w0 (O ++ A x') w') ∨ (∃ B, Z B ∧ e = .returned (.bool false) ∧ Hp w0 (O ++ B) w'))) :
    Calls Tryd.prog 50 #[.func (.yield l) #[] #[], .pointer (some ⟨bs, 0, none⟩), .pointer (some ⟨bn, 0, none⟩)] w (Ret w0 (fun _ H' => (∃ x O, Inv ((len + 1) / 2) x ∧ H' = O ++ A x) ∨ (∃ B O, Z B ∧ H' = O ++ B))) := by
  refine enterAt (vs := [.func (.yield l) #[] #[], .pointer (some ⟨bs, 0, none⟩), .pointer (some ⟨bn, 0, none⟩)]) Tryd.func50 rfl Tryd.ntmps50 rfl hw ?_
  refine JC.seq ?_
  refine JC.region ?_
  refine JL.asg ?_
  refine JL.nil ?_
  refine JQ.thenN ?_
  refine JC.block ?_
  refine JC.loop (X := Nat × X)
    (fun ⟨k, x⟩ => [(0, .func (.yield l) #[] #[]), (1, .pointer (some ⟨bs, 0, none⟩)), (2, .pointer (some ⟨bn, 0, none⟩)), (4, .int .i64 (2 * (k : Int)))])
    (fun ⟨k, x⟩ => [(bn, Obj.cells #[.int .i64 2] 3 (0, 0)), (bs, Obj.cells #[.slice (some a) len cap] 62 (0, 0))] ++ A x)
    (fun ⟨k, x⟩ => k ≤ (len + 1) / 2 ∧ Inv k x)
    (fun ⟨k, x⟩ => (len + 1) / 2 - k) (0, x0) ?_ ?_ ?_ ?_
  · exact Keeps.k
  · exact Sub.all
  · exact ⟨by omega, hi⟩
  rintro ⟨k, x⟩ ⟨hkk, hix⟩
  refine JC.seq ?_
  refine JC.seq ?_
  refine JC.region ?_
  refine JL.mv ?_
  refine JL.val rfl rfl rfl (.none rfl) (Ev.load1 rfl Tryd.underlying62 rfl (Rd.own memK rfl)) ?_
  refine JL.val rfl rfl rfl (.none rfl) (Ev.lenS rfl Tryd.underlying62) ?_
  refine JL.val rfl rfl rfl (.none rfl) (Ev.bin rfl rfl lss_int) ?_
  refine JL.nil ?_
  refine JQ.thenN ?_
  refine JC.cond rfl (fun hc1 => ?_) (fun hc1 => ?_)
  · -- t9 True
    replace hc1 := of_decide_eq_true hc1
    have hkN : k < (len + 1) / 2 := by omega
    refine JC.skip ?_
    refine JQ.thenN ?_
    refine JC.seq ?_
    refine JC.block ?_
    refine JC.seq ?_
    refine JC.regionQ (by kernel_rfl) (by kernel_rfl) ?_
    refine JW.val rfl rfl (.none rfl) (Ev.load1 rfl Tryd.underlying3 rfl (Rd.own memK rfl)) ?_
    refine JW.val rfl rfl (.none rfl) (Ev.load1 rfl Tryd.underlying62 rfl (Rd.own memK rfl)) ?_
    refine JW.val rfl rfl (.none rfl) (Ev.move rfl) ?_
    refine JW.val rfl rfl (.none rfl) (Ev.sliceLo rfl rfl Tryd.underlying62 Tryd.sizeOf22 (l := 2 * k) (by omega) (by omega)) ?_
    refine JW.val rfl rfl (.none rfl) (Ev.lenS rfl Tryd.underlying62) ?_
    refine JW.val rfl rfl (.none rfl) (Ev.min2 rfl rfl) ?_
    refine JW.re (d := 18) (v' := .int .i64 ((min 2 (len - 2 * k)) : Nat)) rfl (congrArg (Value.int .i64) (by split <;> omega)) ?_
    refine JW.val rfl rfl (.none rfl) (Ev.assign rfl) ?_
    refine JW.nilQ ?_
    refine JQ.thenN ?_
    refine JC.seq ?_
    refine JC.region ?_
    refine JL.mv ?_
    refine JL.val rfl rfl rfl (.none rfl) (Ev.load1 rfl Tryd.underlying62 rfl (Rd.own memK rfl)) ?_
    refine JL.mv ?_
    refine JL.mv ?_
    refine JL.mv ?_
    refine JL.val rfl rfl rfl (.none rfl) (Ev.bin rfl rfl (add_i64 (by omega))) ?_
    refine JL.mv ?_
    refine JL.mv ?_
    refine JL.val rfl rfl rfl (.none rfl) (Ev.bin rfl rfl (add_i64 (by omega))) ?_
    refine JL.val rfl rfl rfl (.none rfl) (Ev.sliceLHM rfl rfl rfl rfl Tryd.underlying62 Tryd.sizeOf22 (l := 2 * k) (h := 2 * k + (min 2 (len - 2 * k))) (m := 2 * k + (min 2 (len - 2 * k))) (by omega) (by omega) (by omega) (by omega) (by omega) (by omega)) ?_
    refine JL.re (d := 28) (v' := .slice (some (a.add (2 * k * 32))) (min 2 (len - 2 * k)) (min 2 (len - 2 * k))) rfl (sub3_mid (by omega)) ?_
    refine JL.yieldG rfl rfl (.none rfl) rfl rfl (fun w1 hw1 => hy k x _ [(bn, Obj.cells #[.int .i64 2] 3 (0, 0)), (bs, Obj.cells #[.slice (some a) len cap] 62 (0, 0))] w1 hkN hix rfl (by simpa using hw1)) ?_ ?_
    · -- yield true
      rintro x2 hi2
      refine JL.val rfl rfl rfl (.none rfl) (Ev.not rfl) ?_
      refine JL.nil ?_
      refine JQ.thenN ?_
      refine JC.condF rfl ?_
      refine JC.skip ?_
      refine JQ.blockN ?_
      refine JQ.thenN ?_
      refine JC.region ?_
      refine JL.mv ?_
      refine JL.val rfl rfl rfl (.none rfl) (Ev.load1 rfl Tryd.underlying3 rfl (Rd.own memK rfl)) ?_
      refine JL.val rfl rfl rfl (.none rfl) (Ev.bin rfl rfl (add_i64 (by omega))) ?_
      refine JL.asg ?_
      refine JL.nil ?_
      refine JQ.re (d := 4) (v' := .int .i64 (2 * ((k + 1 : Nat) : Int))) rfl (congrArg (Value.int .i64) (by omega)) ?_
      refine JQ.loopN (k + 1, x2) ?_ ?_ ?_ ?_
      · exact Keeps.k
      · exact Sub.all
      · exact ⟨by omega, hi2⟩
      · show (len + 1) / 2 - (k + 1) < (len + 1) / 2 - k; omega
    · -- yield false
      rintro B hz
      refine JL.val rfl rfl rfl (.none rfl) (Ev.not rfl) ?_
      refine JL.nil ?_
      refine JQ.thenN ?_
      refine JC.condT rfl ?_
      refine JC.ret ?_
      refine JQ.blockR ?_
      refine JQ.thenR ?_
      refine JQ.thenR ?_
      refine JQ.blockR ?_
      refine JQ.end0 (H' := ([(bn, Obj.cells #[.int .i64 2] 3 (0, 0)), (bs, Obj.cells #[.slice (some a) len cap] 62 (0, 0))] ++ B)) (.inl rfl) rfl  ?_ ?_
      · exact Sub.all
      · exact .inr ⟨B, _, hz, rfl⟩
  · -- t9 False
    replace hc1 := of_decide_eq_false hc1
    obtain rfl : k = (len + 1) / 2 := by omega
    refine JC.exit ?_
    refine JQ.thenE ?_
    refine JQ.thenE ?_
    refine JQ.blockE ?_
    refine JQ.end0 (H' := ([(bn, Obj.cells #[.int .i64 2] 3 (0, 0)), (bs, Obj.cells #[.slice (some a) len cap] 62 (0, 0))] ++ A x)) (.inr rfl) rfl  ?_ ?_
    · exact Sub.all
    · exact .inl ⟨x, _, hix, rfl⟩

theorem up_any (a : Addr) (cap : Nat) (ds : List Dig) (w : World) (hd : Dl w (some a) cap ds) (h2 : 1 ≤ ds.length) (hmx : ds.length ≤ 1100000) (hk : KMem 1 w) (hf : FMem 0 w) :
    Calls Tryd.prog 34 #[.slice (some a) ds.length cap] w (Ret w (fun v H => ∃ r : Row, v = .slice (some ⟨r.g, 0, none⟩) (up ds).length r.cap ∧ H = Row.b 22 (some r) ∧ Row.ok 32 (up ds).length (fl (up ds)) (some r))) := by
  refine enterM (vs := [.slice (some a) ds.length cap]) Tryd.func34 rfl Tryd.ntmps34 rfl ?_
  refine JC.seq ?_
  refine JC.region ?_
  refine JL.asg ?_
  refine JL.nil ?_
  refine JQ.thenN ?_
  refine JC.seq ?_
  refine JC.region ?_
  refine JL.new rfl rfl rfl (.none rfl) (En.allocZ (cs := #[.slice none 0 0]) Tryd.zeroValue62 rfl) (fun b3 hb3 => ?_)
  refine JL.nil ?_
  refine JQ.thenN ?_
  refine JC.seq ?_
  refine JC.seq ?_
  refine JC.region ?_
  refine JL.mv ?_
  refine JL.callN rfl (.none rfl) rfl Tryd.call44 (fun w1 hw1 => chunkL_any (some a) ds.length cap w1) ?_
  rintro _ _ ⟨bs, bn, rfl, rfl⟩
  refine JL.nil ?_
  refine JQ.thenN ?_
  refine JC.block ?_
  refine JC.rangeG (ps := [7]) (X := Nat × Option Row) ((ds.length + 1) / 2) (fun ⟨j, q⟩ E => (b3, Obj.cells #[Row.v j q] 62 (0, 0)) :: (Row.b 22 q ++ E)) (fun k ⟨j, q⟩ => j = k ∧ Row.ok 32 j (fl ((up ds).take j)) q) (fun c ⟨j, q⟩ => False) ((fun k vs _ => vs = [.slice (some (a.add (2 * k * 32))) (min 2 (ds.length - 2 * k)) (min 2 (ds.length - 2 * k))])) ([(bn, Obj.cells #[.int .i64 2] 3 (0, 0)), (bs, Obj.cells #[.slice (some a) ds.length cap] 62 (0, 0))]) (0, none) (fun k ⟨j, q⟩ vs => [(4, (vs.headD undef)), (7, (vs.headD undef)), (3, .pointer (some ⟨b3, 0, none⟩))]) (fun ⟨j, q⟩ _ => by simp) rfl Tryd.call50 ?_ ?_ rfl (fun _ _ _ h => by rw [h]; rfl) (fun X A Inv Z l x0 w1 hi hw hy => chunkLI_any a ds.length cap hd.le hmx bs bn X A Inv Z l x0 w w1 hi hw hy) ?_ ?_ ?_ ?_
  · exact Sub.k
  · exact ⟨rfl, ⟨rfl, rfl⟩⟩
  · rintro lr k ⟨j, q⟩ vs O E hkN ⟨rfl, hq⟩ rfl hO
    refine JC.region ?_
    refine JL.asg ?_
    refine JL.nil ?_
    refine JQ.asg ?_
    exact Keeps.k
  · rintro lr k ⟨j, q⟩ vs O E hkN ⟨rfl, hq⟩ rfl hO
    change JC _ [(4, .slice (some (a.add (2 * j * 32))) (min 2 (ds.length - 2 * j)) (min 2 (ds.length - 2 * j))), (7, .slice (some (a.add (2 * j * 32))) (min 2 (ds.length - 2 * j)) (min 2 (ds.length - 2 * j))), (3, .pointer (some ⟨b3, 0, none⟩))] _ _ _
    refine JC.block ?_
    refine JC.seq ?_
    refine JC.region ?_
    refine JL.mv ?_
    refine JL.val rfl rfl rfl (.none rfl) (Ev.lenS rfl Tryd.underlying62) ?_
    refine JL.val rfl rfl rfl (.none rfl) (Ev.bin rfl rfl eql_int) ?_
    refine JL.nil ?_
    refine JQ.thenN ?_
    refine JC.cond rfl (fun hc1 => ?_) (fun hc1 => ?_)
    · -- t10 True
      replace hc1 := of_decide_eq_true hc1
      have hl1 : ds.length = 2 * j + 1 := by omega
      obtain ⟨d0, hd0⟩ := get_some (l := ds) (k := 2 * j) (by omega)
      have hu := up_last ds j d0 hl1 hd0
      refine JC.regionA (by kernel_rfl) ?_
      refine JA.tk 1 rfl (.none rfl) (fun _ => (Ev.move rfl)) ?_
      refine JA.tk 2 rfl (.none rfl) (fun _ => (Ev.idxS (k := 0) rfl rfl Tryd.underlying62 Tryd.sizeOf22 rfl (by omega))) ?_
      refine JA.branch [0, 3] (by kernel_rfl) rfl ?_
      refine JAll.cons rfl ?_ ?_
      · -- 0
        refine JO.val rfl rfl rfl (.none rfl) (Ev.load1 rfl Tryd.underlying62 rfl (Rd.own memK rfl)) ?_
        refine JA.one 3 ?_
        refine JO.val rfl rfl rfl (.none rfl) (Ev.loadD rfl Tryd.underlying22 rfl Tryd.sizeOf22 (Rds.pair (j := j) (i := 0) (hd.mem a rfl) hd0)) ?_
        refine JA.one 4 ?_
        refine JO.new rfl rfl rfl (.none rfl) (En.bs1D (e := 22) rfl Tryd.underlying62 Tryd.sizeOf22 Tryd.zeroValue22) (fun b15 hb15 => ?_)
        refine JA.one 5 ?_
        refine JO.gen rfl rfl rfl (.none rfl) (Eg.append1 (z := (.agg (arr8 (List.replicate 32 0)))) (s := 32) (bytes := 32) rfl rfl rfl Cut.k Tryd.underlying62 (by kernel_rfl) rfl (by decide) (by decide) (by assumption) (Rds.all memK) (fl_length _) (by decide) (by intro u hu; first | exact fl_one _ u hu | exact u8s_one _ u hu | (simp at hu; subst hu; rfl)) (by omega)) ?_
        rintro _ _ ⟨rn, rfl, rfl, hrn⟩
        refine JA.one 6 ?_
        refine JO.sto rfl rfl (.none rfl) (Es.store0 rfl rfl Tryd.sizeOf62 rfl rfl Upd.k) ?_
        refine JA.done (by kernel_rfl) ?_
        refine JQ.blockN ?_
        refine JQ.bodG (j + 1, some rn) ?_ ?_
        · exact ⟨rfl, by rw [fl_take_succ hu]; exact hrn⟩
        · exact Sub.k
      refine JAll.cons rfl ?_ JAll.nil
      refine JO.val rfl rfl rfl (.none rfl) (Ev.loadD rfl Tryd.underlying22 rfl Tryd.sizeOf22 (Rds.pair (j := j) (i := 0) (hd.mem a rfl) hd0)) ?_
      refine JA.branch [0, 4] (by kernel_rfl) rfl ?_
      refine JAll.cons rfl ?_ ?_
      · -- 0
        refine JO.val rfl rfl rfl (.none rfl) (Ev.load1 rfl Tryd.underlying62 rfl (Rd.own memK rfl)) ?_
        refine JA.one 4 ?_
        refine JO.new rfl rfl rfl (.none rfl) (En.bs1D (e := 22) rfl Tryd.underlying62 Tryd.sizeOf22 Tryd.zeroValue22) (fun b15 hb15 => ?_)
        refine JA.one 5 ?_
        refine JO.gen rfl rfl rfl (.none rfl) (Eg.append1 (z := (.agg (arr8 (List.replicate 32 0)))) (s := 32) (bytes := 32) rfl rfl rfl Cut.k Tryd.underlying62 (by kernel_rfl) rfl (by decide) (by decide) (by assumption) (Rds.all memK) (fl_length _) (by decide) (by intro u hu; first | exact fl_one _ u hu | exact u8s_one _ u hu | (simp at hu; subst hu; rfl)) (by omega)) ?_
        rintro _ _ ⟨rn, rfl, rfl, hrn⟩
        refine JA.one 6 ?_
        refine JO.sto rfl rfl (.none rfl) (Es.store0 rfl rfl Tryd.sizeOf62 rfl rfl Upd.k) ?_
        refine JA.done (by kernel_rfl) ?_
        refine JQ.blockN ?_
        refine JQ.bodG (j + 1, some rn) ?_ ?_
        · exact ⟨rfl, by rw [fl_take_succ hu]; exact hrn⟩
        · exact Sub.k
      refine JAll.cons rfl ?_ JAll.nil
      refine JO.new rfl rfl rfl (.none rfl) (En.bs1D (e := 22) rfl Tryd.underlying62 Tryd.sizeOf22 Tryd.zeroValue22) (fun b15 hb15 => ?_)
      refine JA.one 0 ?_
      refine JO.val rfl rfl rfl (.none rfl) (Ev.load1 rfl Tryd.underlying62 rfl (Rd.own memK rfl)) ?_
      refine JA.one 5 ?_
      refine JO.gen rfl rfl rfl (.none rfl) (Eg.append1 (z := (.agg (arr8 (List.replicate 32 0)))) (s := 32) (bytes := 32) rfl rfl rfl Cut.k Tryd.underlying62 (by kernel_rfl) rfl (by decide) (by decide) (by assumption) (Rds.all memK) (fl_length _) (by decide) (by intro u hu; first | exact fl_one _ u hu | exact u8s_one _ u hu | (simp at hu; subst hu; rfl)) (by omega)) ?_
      rintro _ _ ⟨rn, rfl, rfl, hrn⟩
      refine JA.one 6 ?_
      refine JO.sto rfl rfl (.none rfl) (Es.store0 rfl rfl Tryd.sizeOf62 rfl rfl Upd.k) ?_
      refine JA.done (by kernel_rfl) ?_
      refine JQ.blockN ?_
      refine JQ.bodG (j + 1, some rn) ?_ ?_
      · exact ⟨rfl, by rw [fl_take_succ hu]; exact hrn⟩
      · exact Sub.k
    · -- t10 False
      replace hc1 := of_decide_eq_false hc1
      have hl2 : 2 * j + 1 < ds.length := by omega
      obtain ⟨d0, hd0⟩ := get_some (l := ds) (k := 2 * j) (by omega)
      obtain ⟨d1, hd1⟩ := get_some (l := ds) (k := 2 * j + 1) (by omega)
      have hu := up_get ds j d0 d1 hd0 hd1
      refine JC.regionA (by kernel_rfl) ?_
      refine JA.tk 1 rfl (.none rfl) (fun _ => (Ev.move rfl)) ?_
      refine JA.tk 2 rfl (.none rfl) (fun _ => (Ev.idxS (k := 0) rfl rfl Tryd.underlying62 Tryd.sizeOf22 rfl (by omega))) ?_
      refine JA.tk 4 rfl (.none rfl) (fun _ => (Ev.move rfl)) ?_
      refine JA.tk 5 rfl (.none rfl) (fun _ => (Ev.idxS (k := 1) rfl rfl Tryd.underlying62 Tryd.sizeOf22 rfl (by omega))) ?_
      refine JA.branch [0, 3, 6] (by kernel_rfl) rfl ?_
      refine JAll.cons rfl ?_ ?_
      · -- 0
        refine JO.val rfl rfl rfl (.none rfl) (Ev.load1 rfl Tryd.underlying62 rfl (Rd.own memK rfl)) ?_
        refine JA.branch [3, 6] (by kernel_rfl) rfl ?_
        refine JAll.cons rfl ?_ ?_
        · -- 3
          refine JO.val rfl rfl rfl (.none rfl) (Ev.loadD rfl Tryd.underlying22 rfl Tryd.sizeOf22 (Rds.pair (j := j) (i := 0) (hd.mem a rfl) hd0)) ?_
          refine JA.one 6 ?_
          refine JO.val rfl rfl rfl (.none rfl) (Ev.loadD rfl Tryd.underlying22 rfl Tryd.sizeOf22 (Rds.pair (j := j) (i := 1) (hd.mem a rfl) hd1)) ?_
          refine JA.one 7 ?_
          refine JO.callV rfl (.none rfl) rfl Tryd.call23 (fun w1 hw1 => nodeG_any d0 d1 w1 (hk.old hw1) (hf.old hw1)) ?_
          refine JA.one 8 ?_
          refine JO.new rfl rfl rfl (.none rfl) (En.bs1D (e := 22) rfl Tryd.underlying62 Tryd.sizeOf22 Tryd.zeroValue22) (fun b25 hb25 => ?_)
          refine JA.one 9 ?_
          refine JO.gen rfl rfl rfl (.none rfl) (Eg.append1 (z := (.agg (arr8 (List.replicate 32 0)))) (s := 32) (bytes := 32) rfl rfl rfl Cut.k Tryd.underlying62 (by kernel_rfl) rfl (by decide) (by decide) (by assumption) (Rds.all memK) (fl_length _) (by decide) (by intro u hu; first | exact fl_one _ u hu | exact u8s_one _ u hu | (simp at hu; subst hu; rfl)) (by omega)) ?_
          rintro _ _ ⟨rn, rfl, rfl, hrn⟩
          refine JA.one 10 ?_
          refine JO.sto rfl rfl (.none rfl) (Es.store0 rfl rfl Tryd.sizeOf62 rfl rfl Upd.k) ?_
          refine JA.done (by kernel_rfl) ?_
          refine JQ.blockN ?_
          refine JQ.bodG (j + 1, some rn) ?_ ?_
          · exact ⟨rfl, by rw [fl_take_succ hu]; exact hrn⟩
          · exact Sub.k
        refine JAll.cons rfl ?_ JAll.nil
        refine JO.val rfl rfl rfl (.none rfl) (Ev.loadD rfl Tryd.underlying22 rfl Tryd.sizeOf22 (Rds.pair (j := j) (i := 1) (hd.mem a rfl) hd1)) ?_
        refine JA.one 3 ?_
        refine JO.val rfl rfl rfl (.none rfl) (Ev.loadD rfl Tryd.underlying22 rfl Tryd.sizeOf22 (Rds.pair (j := j) (i := 0) (hd.mem a rfl) hd0)) ?_
        refine JA.one 7 ?_
        refine JO.callV rfl (.none rfl) rfl Tryd.call23 (fun w1 hw1 => nodeG_any d0 d1 w1 (hk.old hw1) (hf.old hw1)) ?_
        refine JA.one 8 ?_
        refine JO.new rfl rfl rfl (.none rfl) (En.bs1D (e := 22) rfl Tryd.underlying62 Tryd.sizeOf22 Tryd.zeroValue22) (fun b25 hb25 => ?_)
        refine JA.one 9 ?_
        refine JO.gen rfl rfl rfl (.none rfl) (Eg.append1 (z := (.agg (arr8 (List.replicate 32 0)))) (s := 32) (bytes := 32) rfl rfl rfl Cut.k Tryd.underlying62 (by kernel_rfl) rfl (by decide) (by decide) (by assumption) (Rds.all memK) (fl_length _) (by decide) (by intro u hu; first | exact fl_one _ u hu | exact u8s_one _ u hu | (simp at hu; subst hu; rfl)) (by omega)) ?_
        rintro _ _ ⟨rn, rfl, rfl, hrn⟩
        refine JA.one 10 ?_
        refine JO.sto rfl rfl (.none rfl) (Es.store0 rfl rfl Tryd.sizeOf62 rfl rfl Upd.k) ?_
        refine JA.done (by kernel_rfl) ?_
        refine JQ.blockN ?_
        refine JQ.bodG (j + 1, some rn) ?_ ?_
        · exact ⟨rfl, by rw [fl_take_succ hu]; exact hrn⟩
        · exact Sub.k
      refine JAll.cons rfl ?_ ?_
      · -- 3
        refine JO.val rfl rfl rfl (.none rfl) (Ev.loadD rfl Tryd.underlying22 rfl Tryd.sizeOf22 (Rds.pair (j := j) (i := 0) (hd.mem a rfl) hd0)) ?_
        refine JA.branch [0, 6] (by kernel_rfl) rfl ?_
        refine JAll.cons rfl ?_ ?_
        · -- 0
          refine JO.val rfl rfl rfl (.none rfl) (Ev.load1 rfl Tryd.underlying62 rfl (Rd.own memK rfl)) ?_
          refine JA.one 6 ?_
          refine JO.val rfl rfl rfl (.none rfl) (Ev.loadD rfl Tryd.underlying22 rfl Tryd.sizeOf22 (Rds.pair (j := j) (i := 1) (hd.mem a rfl) hd1)) ?_
          refine JA.one 7 ?_
          refine JO.callV rfl (.none rfl) rfl Tryd.call23 (fun w1 hw1 => nodeG_any d0 d1 w1 (hk.old hw1) (hf.old hw1)) ?_
          refine JA.one 8 ?_
          refine JO.new rfl rfl rfl (.none rfl) (En.bs1D (e := 22) rfl Tryd.underlying62 Tryd.sizeOf22 Tryd.zeroValue22) (fun b25 hb25 => ?_)
          refine JA.one 9 ?_
          refine JO.gen rfl rfl rfl (.none rfl) (Eg.append1 (z := (.agg (arr8 (List.replicate 32 0)))) (s := 32) (bytes := 32) rfl rfl rfl Cut.k Tryd.underlying62 (by kernel_rfl) rfl (by decide) (by decide) (by assumption) (Rds.all memK) (fl_length _) (by decide) (by intro u hu; first | exact fl_one _ u hu | exact u8s_one _ u hu | (simp at hu; subst hu; rfl)) (by omega)) ?_
          rintro _ _ ⟨rn, rfl, rfl, hrn⟩
          refine JA.one 10 ?_
          refine JO.sto rfl rfl (.none rfl) (Es.store0 rfl rfl Tryd.sizeOf62 rfl rfl Upd.k) ?_
          refine JA.done (by kernel_rfl) ?_
          refine JQ.blockN ?_
          refine JQ.bodG (j + 1, some rn) ?_ ?_
          · exact ⟨rfl, by rw [fl_take_succ hu]; exact hrn⟩
          · exact Sub.k
        refine JAll.cons rfl ?_ JAll.nil
        refine JO.val rfl rfl rfl (.none rfl) (Ev.loadD rfl Tryd.underlying22 rfl Tryd.sizeOf22 (Rds.pair (j := j) (i := 1) (hd.mem a rfl) hd1)) ?_
        refine JA.branch [0, 7] (by kernel_rfl) rfl ?_
        refine JAll.cons rfl ?_ ?_
        · -- 0
          refine JO.val rfl rfl rfl (.none rfl) (Ev.load1 rfl Tryd.underlying62 rfl (Rd.own memK rfl)) ?_
          refine JA.one 7 ?_
          refine JO.callV rfl (.none rfl) rfl Tryd.call23 (fun w1 hw1 => nodeG_any d0 d1 w1 (hk.old hw1) (hf.old hw1)) ?_
          refine JA.one 8 ?_
          refine JO.new rfl rfl rfl (.none rfl) (En.bs1D (e := 22) rfl Tryd.underlying62 Tryd.sizeOf22 Tryd.zeroValue22) (fun b25 hb25 => ?_)
          refine JA.one 9 ?_
          refine JO.gen rfl rfl rfl (.none rfl) (Eg.append1 (z := (.agg (arr8 (List.replicate 32 0)))) (s := 32) (bytes := 32) rfl rfl rfl Cut.k Tryd.underlying62 (by kernel_rfl) rfl (by decide) (by decide) (by assumption) (Rds.all memK) (fl_length _) (by decide) (by intro u hu; first | exact fl_one _ u hu | exact u8s_one _ u hu | (simp at hu; subst hu; rfl)) (by omega)) ?_
          rintro _ _ ⟨rn, rfl, rfl, hrn⟩
          refine JA.one 10 ?_
          refine JO.sto rfl rfl (.none rfl) (Es.store0 rfl rfl Tryd.sizeOf62 rfl rfl Upd.k) ?_
          refine JA.done (by kernel_rfl) ?_
          refine JQ.blockN ?_
          refine JQ.bodG (j + 1, some rn) ?_ ?_
          · exact ⟨rfl, by rw [fl_take_succ hu]; exact hrn⟩
          · exact Sub.k
        refine JAll.cons rfl ?_ JAll.nil
        refine JO.callV rfl (.none rfl) rfl Tryd.call23 (fun w1 hw1 => nodeG_any d0 d1 w1 (hk.old hw1) (hf.old hw1)) ?_
        refine JA.branch [0, 8] (by kernel_rfl) rfl ?_
        refine JAll.cons rfl ?_ ?_
        · -- 0
          refine JO.val rfl rfl rfl (.none rfl) (Ev.load1 rfl Tryd.underlying62 rfl (Rd.own memK rfl)) ?_
          refine JA.one 8 ?_
          refine JO.new rfl rfl rfl (.none rfl) (En.bs1D (e := 22) rfl Tryd.underlying62 Tryd.sizeOf22 Tryd.zeroValue22) (fun b25 hb25 => ?_)
          refine JA.one 9 ?_
          refine JO.gen rfl rfl rfl (.none rfl) (Eg.append1 (z := (.agg (arr8 (List.replicate 32 0)))) (s := 32) (bytes := 32) rfl rfl rfl Cut.k Tryd.underlying62 (by kernel_rfl) rfl (by decide) (by decide) (by assumption) (Rds.all memK) (fl_length _) (by decide) (by intro u hu; first | exact fl_one _ u hu | exact u8s_one _ u hu | (simp at hu; subst hu; rfl)) (by omega)) ?_
          rintro _ _ ⟨rn, rfl, rfl, hrn⟩
          refine JA.one 10 ?_
          refine JO.sto rfl rfl (.none rfl) (Es.store0 rfl rfl Tryd.sizeOf62 rfl rfl Upd.k) ?_
          refine JA.done (by kernel_rfl) ?_
          refine JQ.blockN ?_
          refine JQ.bodG (j + 1, some rn) ?_ ?_
          · exact ⟨rfl, by rw [fl_take_succ hu]; exact hrn⟩
          · exact Sub.k
        refine JAll.cons rfl ?_ JAll.nil
        refine JO.new rfl rfl rfl (.none rfl) (En.bs1D (e := 22) rfl Tryd.underlying62 Tryd.sizeOf22 Tryd.zeroValue22) (fun b25 hb25 => ?_)
        refine JA.one 0 ?_
        refine JO.val rfl rfl rfl (.none rfl) (Ev.load1 rfl Tryd.underlying62 rfl (Rd.own memK rfl)) ?_
        refine JA.one 9 ?_
        refine JO.gen rfl rfl rfl (.none rfl) (Eg.append1 (z := (.agg (arr8 (List.replicate 32 0)))) (s := 32) (bytes := 32) rfl rfl rfl Cut.k Tryd.underlying62 (by kernel_rfl) rfl (by decide) (by decide) (by assumption) (Rds.all memK) (fl_length _) (by decide) (by intro u hu; first | exact fl_one _ u hu | exact u8s_one _ u hu | (simp at hu; subst hu; rfl)) (by omega)) ?_
        rintro _ _ ⟨rn, rfl, rfl, hrn⟩
        refine JA.one 10 ?_
        refine JO.sto rfl rfl (.none rfl) (Es.store0 rfl rfl Tryd.sizeOf62 rfl rfl Upd.k) ?_
        refine JA.done (by kernel_rfl) ?_
        refine JQ.blockN ?_
        refine JQ.bodG (j + 1, some rn) ?_ ?_
        · exact ⟨rfl, by rw [fl_take_succ hu]; exact hrn⟩
        · exact Sub.k
      refine JAll.cons rfl ?_ JAll.nil
      refine JO.val rfl rfl rfl (.none rfl) (Ev.loadD rfl Tryd.underlying22 rfl Tryd.sizeOf22 (Rds.pair (j := j) (i := 1) (hd.mem a rfl) hd1)) ?_
      refine JA.branch [0, 3] (by kernel_rfl) rfl ?_
      refine JAll.cons rfl ?_ ?_
      · -- 0
        refine JO.val rfl rfl rfl (.none rfl) (Ev.load1 rfl Tryd.underlying62 rfl (Rd.own memK rfl)) ?_
        refine JA.one 3 ?_
        refine JO.val rfl rfl rfl (.none rfl) (Ev.loadD rfl Tryd.underlying22 rfl Tryd.sizeOf22 (Rds.pair (j := j) (i := 0) (hd.mem a rfl) hd0)) ?_
        refine JA.one 7 ?_
        refine JO.callV rfl (.none rfl) rfl Tryd.call23 (fun w1 hw1 => nodeG_any d0 d1 w1 (hk.old hw1) (hf.old hw1)) ?_
        refine JA.one 8 ?_
        refine JO.new rfl rfl rfl (.none rfl) (En.bs1D (e := 22) rfl Tryd.underlying62 Tryd.sizeOf22 Tryd.zeroValue22) (fun b25 hb25 => ?_)
        refine JA.one 9 ?_
        refine JO.gen rfl rfl rfl (.none rfl) (Eg.append1 (z := (.agg (arr8 (List.replicate 32 0)))) (s := 32) (bytes := 32) rfl rfl rfl Cut.k Tryd.underlying62 (by kernel_rfl) rfl (by decide) (by decide) (by assumption) (Rds.all memK) (fl_length _) (by decide) (by intro u hu; first | exact fl_one _ u hu | exact u8s_one _ u hu | (simp at hu; subst hu; rfl)) (by omega)) ?_
        rintro _ _ ⟨rn, rfl, rfl, hrn⟩
        refine JA.one 10 ?_
        refine JO.sto rfl rfl (.none rfl) (Es.store0 rfl rfl Tryd.sizeOf62 rfl rfl Upd.k) ?_
        refine JA.done (by kernel_rfl) ?_
        refine JQ.blockN ?_
        refine JQ.bodG (j + 1, some rn) ?_ ?_
        · exact ⟨rfl, by rw [fl_take_succ hu]; exact hrn⟩
        · exact Sub.k
      refine JAll.cons rfl ?_ JAll.nil
      refine JO.val rfl rfl rfl (.none rfl) (Ev.loadD rfl Tryd.underlying22 rfl Tryd.sizeOf22 (Rds.pair (j := j) (i := 0) (hd.mem a rfl) hd0)) ?_
      refine JA.branch [0, 7] (by kernel_rfl) rfl ?_
      refine JAll.cons rfl ?_ ?_
      · -- 0
        refine JO.val rfl rfl rfl (.none rfl) (Ev.load1 rfl Tryd.underlying62 rfl (Rd.own memK rfl)) ?_
        refine JA.one 7 ?_
        refine JO.callV rfl (.none rfl) rfl Tryd.call23 (fun w1 hw1 => nodeG_any d0 d1 w1 (hk.old hw1) (hf.old hw1)) ?_
        refine JA.one 8 ?_
        refine JO.new rfl rfl rfl (.none rfl) (En.bs1D (e := 22) rfl Tryd.underlying62 Tryd.sizeOf22 Tryd.zeroValue22) (fun b25 hb25 => ?_)
        refine JA.one 9 ?_
        refine JO.gen rfl rfl rfl (.none rfl) (Eg.append1 (z := (.agg (arr8 (List.replicate 32 0)))) (s := 32) (bytes := 32) rfl rfl rfl Cut.k Tryd.underlying62 (by kernel_rfl) rfl (by decide) (by decide) (by assumption) (Rds.all memK) (fl_length _) (by decide) (by intro u hu; first | exact fl_one _ u hu | exact u8s_one _ u hu | (simp at hu; subst hu; rfl)) (by omega)) ?_
        rintro _ _ ⟨rn, rfl, rfl, hrn⟩
        refine JA.one 10 ?_
        refine JO.sto rfl rfl (.none rfl) (Es.store0 rfl rfl Tryd.sizeOf62 rfl rfl Upd.k) ?_
        refine JA.done (by kernel_rfl) ?_
        refine JQ.blockN ?_
        refine JQ.bodG (j + 1, some rn) ?_ ?_
        · exact ⟨rfl, by rw [fl_take_succ hu]; exact hrn⟩
        · exact Sub.k
      refine JAll.cons rfl ?_ JAll.nil
      refine JO.callV rfl (.none rfl) rfl Tryd.call23 (fun w1 hw1 => nodeG_any d0 d1 w1 (hk.old hw1) (hf.old hw1)) ?_
      refine JA.branch [0, 8] (by kernel_rfl) rfl ?_
      refine JAll.cons rfl ?_ ?_
      · -- 0
        refine JO.val rfl rfl rfl (.none rfl) (Ev.load1 rfl Tryd.underlying62 rfl (Rd.own memK rfl)) ?_
        refine JA.one 8 ?_
        refine JO.new rfl rfl rfl (.none rfl) (En.bs1D (e := 22) rfl Tryd.underlying62 Tryd.sizeOf22 Tryd.zeroValue22) (fun b25 hb25 => ?_)
        refine JA.one 9 ?_
        refine JO.gen rfl rfl rfl (.none rfl) (Eg.append1 (z := (.agg (arr8 (List.replicate 32 0)))) (s := 32) (bytes := 32) rfl rfl rfl Cut.k Tryd.underlying62 (by kernel_rfl) rfl (by decide) (by decide) (by assumption) (Rds.all memK) (fl_length _) (by decide) (by intro u hu; first | exact fl_one _ u hu | exact u8s_one _ u hu | (simp at hu; subst hu; rfl)) (by omega)) ?_
        rintro _ _ ⟨rn, rfl, rfl, hrn⟩
        refine JA.one 10 ?_
        refine JO.sto rfl rfl (.none rfl) (Es.store0 rfl rfl Tryd.sizeOf62 rfl rfl Upd.k) ?_
        refine JA.done (by kernel_rfl) ?_
        refine JQ.blockN ?_
        refine JQ.bodG (j + 1, some rn) ?_ ?_
        · exact ⟨rfl, by rw [fl_take_succ hu]; exact hrn⟩
        · exact Sub.k
      refine JAll.cons rfl ?_ JAll.nil
      refine JO.new rfl rfl rfl (.none rfl) (En.bs1D (e := 22) rfl Tryd.underlying62 Tryd.sizeOf22 Tryd.zeroValue22) (fun b25 hb25 => ?_)
      refine JA.one 0 ?_
      refine JO.val rfl rfl rfl (.none rfl) (Ev.load1 rfl Tryd.underlying62 rfl (Rd.own memK rfl)) ?_
      refine JA.one 9 ?_
      refine JO.gen rfl rfl rfl (.none rfl) (Eg.append1 (z := (.agg (arr8 (List.replicate 32 0)))) (s := 32) (bytes := 32) rfl rfl rfl Cut.k Tryd.underlying62 (by kernel_rfl) rfl (by decide) (by decide) (by assumption) (Rds.all memK) (fl_length _) (by decide) (by intro u hu; first | exact fl_one _ u hu | exact u8s_one _ u hu | (simp at hu; subst hu; rfl)) (by omega)) ?_
      rintro _ _ ⟨rn, rfl, rfl, hrn⟩
      refine JA.one 10 ?_
      refine JO.sto rfl rfl (.none rfl) (Es.store0 rfl rfl Tryd.sizeOf62 rfl rfl Upd.k) ?_
      refine JA.done (by kernel_rfl) ?_
      refine JQ.blockN ?_
      refine JQ.bodG (j + 1, some rn) ?_ ?_
      · exact ⟨rfl, by rw [fl_take_succ hu]; exact hrn⟩
      · exact Sub.k
  · rintro ⟨j, q⟩ D E ⟨rfl, hq⟩
    refine JQ.blockN ?_
    refine JQ.thenN ?_
    refine JC.seq ?_
    refine JC.region ?_
    refine JL.val rfl rfl rfl (.none rfl) (Ev.load1 rfl Tryd.underlying62 rfl (Rd.own memK rfl)) ?_
    refine JL.asg ?_
    refine JL.nil ?_
    refine JQ.thenN ?_
    refine JC.ret ?_
    have hul := up_length ds
    rw [← hul, List.take_of_length_le (Nat.le_refl _)] at hq
    obtain ⟨r, rfl⟩ : ∃ r, q = some r := by cases q with | none => (have := hq.1; omega) | some r => exact ⟨r, rfl⟩
    refine JQ.endMs (H' := (Row.b 22 (some r))) (.inl rfl) memK ⟨_, Upd.k, by exact Sub.k, (res1 rfl (.tmp rfl))⟩ ?_
    · exact ⟨r, by rw [hul]; rfl, rfl, hq⟩
  · rintro c ⟨j, q⟩ D E hs
    exact hs.elim

end Go.Proofs.YtebinlinhmohbaaDoor
