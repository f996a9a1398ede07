/-
  Boards: the indices of the entries of a kind; in the program and in the reference.
-/
import Derived.Test.YtopaednfjjjnbaaDoorBrd4Nm
import Derived.Test.YtopaednfjjjnbaaDoorPackBNm
namespace Go.Proofs.YtopaednfjjjnbaaDoor
open Go Go.RowKit
set_option maxRecDepth 100000

theorem JC.subH {c : Cx} {σ : Slots} {H H' : Blocks} {x : Code} {Q : Post1} (hs : Sub H' H) (h : JC c σ H' x Q) : JC c σ H x Q := fun a w hf hw => h a w hf (hw.sub hs)
theorem ints_get {l : List Int} {i : Nat} {x : Int} (h : l[i]? = some x) : (ints l)[i]? = some (.int .i64 x) := by
  rw [ints, List.getElem?_map, h]
  rfl
/-- The indices of the entries of a kind. -/
def idxs (k : UInt8) : Nat → List Ent → List Int
  | _, [] => []
  | s, x :: xs => if x.1 = k then (s : Int) :: idxs k (s + 1) xs else idxs k (s + 1) xs
theorem idxs_append (k : UInt8) : ∀ (xs : List Ent) (s : Nat) (y : Ent), idxs k s (xs ++ [y]) = idxs k s xs ++ (if y.1 = k then [((s + xs.length : Nat) : Int)] else [])
  | [], s, y => by
    show (if y.1 = k then (s : Int) :: idxs k (s + 1) [] else idxs k (s + 1) []) = [] ++ _
    rfl
  | x :: xs, s, y => by
    rw [List.cons_append, idxs, idxs, idxs_append k xs (s + 1) y, List.length_cons, show s + 1 + xs.length = s + (xs.length + 1) by omega]
    split
    · rw [List.cons_append]
    · rfl
theorem idxs_next {xs : List Et} {i : Nat} {x : Et} {k : UInt8} (hx : xs[i]? = some x) : idxs k 0 ((xs.map Et.e).take (i + 1)) = idxs k 0 ((xs.map Et.e).take i) ++ (if x.k = k then [(i : Int)] else []) := by
  have hi := (List.getElem?_eq_some_iff.1 hx).1
  rw [List.take_add_one, List.getElem?_map, hx]
  show idxs k 0 (List.take i (xs.map Et.e) ++ [x.e]) = _
  rw [idxs_append, List.length_take, List.length_map, Nat.zero_add, Nat.min_eq_left (by omega)]
  rfl
theorem find_next {xs : List Et} {i : Nat} {x : Et} {ms : List Me} {r : Option Row} (hx : xs[i]? = some x) (h : ∀ q, (getM ms q).1 = idxs q 0 ((xs.map Et.e).take i)) (q : UInt8) : (getM (putM ms x.k ((getM ms x.k).1 ++ [(i : Int)]) r) q).1 = idxs q 0 ((xs.map Et.e).take (i + 1)) := by
  rw [getM_put, idxs_next hx]
  split
  · rename_i h1
    subst h1
    rw [h x.k]
  · rw [h q, List.append_nil]
theorem find_len {i : Nat} {k : UInt8} {ms : List Me} {r : Option Row} (h : ∀ q, (getM ms q).1.length ≤ i) (q : UInt8) : (getM (putM ms k ((getM ms k).1 ++ [(i : Int)]) r) q).1.length ≤ i + 1 := by
  rw [getM_put]
  split
  · rw [List.length_append]
    exact Nat.succ_le_succ (h k)
  · exact Nat.le_succ_of_le (h q)
def badK (k : UInt8) : Prop := k.toNat < 1 ∨ 13 < k.toNat
instance (k : UInt8) : Decidable (badK k) := inferInstanceAs (Decidable (_ ∨ _))
def fdV (xs : List Ent) (k : UInt8) : List Int := if ¬ okB xs then [] else if badK k then [] else idxs k 0 xs
def fdE (xs : List Ent) (k : UInt8) : Int := if ¬ okB xs then 8 else if badK k then 2 else 0
section
variable {xs : List Ent} {k : UInt8}
theorem fdV_bad (h : ¬ okB xs) : fdV xs k = [] := if_pos h
theorem fdE_bad (h : ¬ okB xs) : fdE xs k = 8 := if_pos h
theorem fdV_kind (h : okB xs) (h1 : badK k) : fdV xs k = [] := (if_neg (fun h2 => h2 h)).trans (if_pos h1)
theorem fdE_kind (h : okB xs) (h1 : badK k) : fdE xs k = 2 := (if_neg (fun h2 => h2 h)).trans (if_pos h1)
theorem fdV_ok (h : okB xs) (h1 : ¬ badK k) : fdV xs k = idxs k 0 xs := (if_neg (fun h2 => h2 h)).trans (if_neg h1)
theorem fdE_ok (h : okB xs) (h1 : ¬ badK k) : fdE xs k = 0 := (if_neg (fun h2 => h2 h)).trans (if_neg h1)
end
theorem idxs_le (k : UInt8) : ∀ (xs : List Ent) (s : Nat), (idxs k s xs).length ≤ xs.length
  | [], _ => Nat.le_refl _
  | x :: xs, s => by
    rw [idxs, List.length_cons]
    split
    · rw [List.length_cons]; exact Nat.succ_le_succ (idxs_le k xs _)
    · exact Nat.le_succ_of_le (idxs_le k xs _)
theorem fdV_le (xs : List Ent) (k : UInt8) : (fdV xs k).length ≤ 1100000 := by
  unfold fdV
  split
  · exact Nat.zero_le _
  · rename_i h
    have h1 : okB xs := Decidable.not_not.1 h
    have h2 := h1.1
    split
    · exact Nat.zero_le _
    · have := idxs_le k xs 0
      omega

theorem bFind_any (oa : Option Addr) (cap : Nat) (xs : List Et) (k : UInt8) (w : World) (hb : Bd w oa cap xs) :
    Calls Tryd.prog 17 #[.agg #[.slice oa xs.length cap], u8 k] w (Ret w (fun v H => ∃ r : Option Row, v = .tuple #[Row.v (fdV (xs.map Et.e) k).length r, .int .i64 (fdE (xs.map Et.e) k)] ∧ H = Row.b 3 r ∧ Row.ok 1 (fdV (xs.map Et.e) k).length (ints (fdV (xs.map Et.e) k)) r)) := by
  refine enter (vs := [.agg #[.slice oa xs.length cap], u8 k]) Tryd.func17 rfl Tryd.ntmps17 rfl ?_
  refine JC.seq ?_
  refine JC.region ?_
  refine JL.new rfl rfl rfl (.none rfl) (En.boxA rfl) (fun b2 hb2 => ?_)
  refine JL.asg ?_
  refine JL.asg ?_
  refine JL.nil ?_
  refine JQ.thenN ?_
  refine JC.seq ?_
  refine JC.seq ?_
  refine JC.region ?_
  refine JL.val rfl rfl rfl (.none rfl) (Ev.lB Tryd.underlying24 Tryd.sizeOf24) ?_
  refine JL.callV rfl (.none rfl) rfl Tryd.call25 (fun w1 hw1 => bCheck_any oa cap xs w1 (hb.old hw1)) ?_
  refine JL.asg ?_
  refine JL.nil ?_
  refine JQ.thenN ?_
  refine JC.seq ?_
  refine JC.region ?_
  refine JL.mv ?_
  refine JL.val rfl rfl rfl (.none rfl) (Ev.bin rfl rfl neq_int) ?_
  refine JL.nil ?_
  refine JQ.thenN ?_
  refine JC.cond rfl (fun hc => ?_) (fun hc => ?_)
  · -- t13 True
    have hbad : ¬ okB (xs.map Et.e) := fun h => by rw [ckE_ok h] at hc; simp at hc
    refine JC.seq ?_
    refine JC.region ?_
    refine JL.mv ?_
    refine JL.asg ?_
    refine JL.asg ?_
    refine JL.nil ?_
    refine JQ.thenN ?_
    refine JC.ret ?_
    refine JQ.thenR ?_
    refine JQ.end2 (H' := []) (.inl rfl) rfl (.tmp rfl) (.tmp rfl) ?_ ?_
    · first | exact Sub.all | exact Sub.nil | exact Sub.of_cnt (fun a => by (try dsimp only); simp only [cntA]; omega)
    · exact ⟨none, by rw [fdV_bad hbad, fdE_bad hbad, ckE_bad hbad]; rfl, rfl, by rw [fdV_bad hbad]; exact Row.ok0⟩
  · -- t13 False
    have hok : okB (xs.map Et.e) := Classical.byContradiction fun h => by rw [ckE_bad h] at hc; simp at hc
    have hlen := okB_len hok
    refine JC.skip ?_
    refine JQ.thenN ?_
    refine JC.seq ?_
    refine JC.seq ?_
    refine JC.region ?_
    refine JL.mv ?_
    refine JL.val rfl rfl rfl (.none rfl) (Ev.bin rfl rfl lss_int) ?_
    refine JL.mv ?_
    refine JL.split (d := 17) rfl (fun hgA => ?_) (fun hgA => ?_)
    · -- guard 17 true
      have hbk : badK k := .inl (by have := of_decide_eq_true hgA; omega)
      refine JL.skip rfl rfl (.noF rfl rfl rfl) ?_
      refine JL.skip rfl rfl (.noF rfl rfl rfl) ?_
      refine JL.val rfl rfl rfl (.none rfl) (Ev.pickT rfl rfl) ?_
      refine JL.nil ?_
      refine JQ.thenN ?_
      refine JC.condT rfl ?_
      refine JC.seq ?_
      refine JC.region ?_
      refine JL.asg ?_
      refine JL.asg ?_
      refine JL.nil ?_
      refine JQ.thenN ?_
      refine JC.ret ?_
      refine JQ.thenR ?_
      refine JQ.end2 (H' := []) (.inl rfl) rfl (.tmp rfl) (.tmp rfl) ?_ ?_
      · first | exact Sub.all | exact Sub.nil | exact Sub.of_cnt (fun a => by (try dsimp only); simp only [cntA]; omega)
      · exact ⟨none, by rw [fdV_kind hok hbk, fdE_kind hok hbk]; rfl, rfl, by rw [fdV_kind hok hbk]; exact Row.ok0⟩
    · -- guard 17 false
      have hgA := of_decide_eq_false hgA
      refine JL.val rfl rfl rfl (.yes rfl rfl rfl) (Ev.move rfl) ?_
      refine JL.val rfl rfl rfl (.yes rfl rfl rfl) (Ev.bin rfl rfl gtr_int) ?_
      refine JL.val rfl rfl rfl (.none rfl) (Ev.pickF rfl rfl) ?_
      refine JL.nil ?_
      refine JQ.thenN ?_
      refine JC.cond rfl (fun hc1 => ?_) (fun hc1 => ?_)
      · -- t20 True
        replace hc1 := of_decide_eq_true hc1
        have hbk : badK k := .inr (by omega)
        refine JC.seq ?_
        refine JC.region ?_
        refine JL.asg ?_
        refine JL.asg ?_
        refine JL.nil ?_
        refine JQ.thenN ?_
        refine JC.ret ?_
        refine JQ.thenR ?_
        refine JQ.end2 (H' := []) (.inl rfl) rfl (.tmp rfl) (.tmp rfl) ?_ ?_
        · first | exact Sub.all | exact Sub.nil | exact Sub.of_cnt (fun a => by (try dsimp only); simp only [cntA]; omega)
        · exact ⟨none, by rw [fdV_kind hok hbk, fdE_kind hok hbk]; rfl, rfl, by rw [fdV_kind hok hbk]; exact Row.ok0⟩
      · -- t20 False
        replace hc1 := of_decide_eq_false hc1
        have hbo : ¬ badK k := by unfold badK; omega
        refine JC.skip ?_
        refine JQ.thenN ?_
        refine JC.seq ?_
        refine JC.region ?_
        refine JL.new rfl rfl rfl (.none rfl) En.makeMap (fun b21 hb21 => ?_)
        refine JL.asg ?_
        refine JL.nil ?_
        refine JQ.thenN ?_
        refine JC.seq ?_
        refine JC.seq ?_
        refine JC.region ?_
        refine JL.val rfl rfl rfl (.none rfl) (Ev.fld 0 rfl (fun _ _ => by kernel_rfl)) ?_
        refine JL.val rfl rfl rfl (.none rfl) (Ev.load1 rfl Tryd.underlying22 rfl (Rd.own memK rfl)) ?_
        refine JL.val rfl rfl rfl (.none rfl) (Ev.lenS rfl Tryd.underlying22) ?_
        refine JL.mv ?_
        refine JL.nil ?_
        refine JQ.thenN ?_
        refine JC.block ?_
        refine JC.loop (X := Nat × Array MapEntry × Nat × List Me)
          (fun ⟨i, es, cl, ms⟩ => [(1, u8 k), (7, .map (some b21)), (23, .slice oa xs.length cap), (24, .int .i64 (xs.length : Int)), (25, .int .i64 (i : Int))])
          (fun ⟨i, es, cl, ms⟩ => (b21, Obj.map es cl) :: mB 3 ms)
          (fun ⟨i, es, cl, ms⟩ => i ≤ xs.length ∧ es.toList.map kv = ms.map Me.p ∧ (∀ m ∈ ms, m.ok) ∧ (∀ q, (getM ms q).1 = idxs q 0 ((xs.map Et.e).take i)) ∧ ∀ q, (getM ms q).1.length ≤ i)
          (fun ⟨i, es, cl, ms⟩ => xs.length - i) (0, #[], 0, []) ?_ ?_ ?_ ?_
        · exact Keeps.k
        · exact Sub.of_cnt (fun a => by (try dsimp only); simp only [show mB 3 [] = [] from rfl, cntA]; omega)
        · exact ⟨Nat.zero_le _, rfl, (fun m hm => by cases hm), fun q => rfl, fun q => Nat.le_refl _⟩
        rintro ⟨i, es, cl, ms⟩ ⟨hi, hes, hok2, hget, hsm⟩
        refine JC.seq ?_
        refine JC.region ?_
        refine JL.val rfl rfl rfl (.none rfl) (Ev.bin rfl rfl lss_int) ?_
        refine JL.nil ?_
        refine JQ.thenN ?_
        refine JC.seq ?_
        refine JC.cond rfl (fun hc2 => ?_) (fun hc2 => ?_)
        · -- t26 True
          replace hc2 := of_decide_eq_true hc2
          obtain ⟨a, rfl⟩ := hb.get_some (by omega)
          obtain ⟨x, hx⟩ := get_some (l := xs) (k := i) (by omega)
          refine JC.skip ?_
          refine JQ.thenN ?_
          refine JC.seq ?_
          refine JC.block ?_
          refine JC.seq ?_
          refine JC.region ?_
          refine JL.mv ?_
          refine JL.val rfl rfl rfl (.none rfl) (Ev.idxS rfl rfl Tryd.underlying22 Tryd.sizeOf30 (k := i) rfl (by omega)) ?_
          refine JL.val rfl rfl rfl (.none rfl) (Ev.loadA (l := x.cl) rfl Tryd.underlying30 rfl Tryd.sizeOf30 (Rds.old (hb.at hx)) rfl) ?_
          refine JL.new rfl rfl rfl (.none rfl) (En.allocZ (cs := #[u8 0, .slice none 0 0]) Tryd.zeroValue30 rfl) (fun b9 hb9 => ?_)
          refine JL.asg ?_
          refine JL.sto rfl rfl (.none rfl) (Es.storeA rfl rfl Tryd.sizeOf30 Upd.k rfl rfl (Et.one x)) ?_
          refine JL.nil ?_
          refine JQ.thenN ?_
          refine JC.subH (H' := (b9, Obj.cells x.cl.toArray 30 (0, 0)) :: (b21, Obj.map es cl) :: (Row.b 3 (getM ms x.k).2 ++ mB 3 (delM ms x.k))) (Sub.of_cnt (fun a => by have := mB_get 3 x.k a ms; (try dsimp only); simp only [cntA]; omega)) ?_
          refine JC.regionA (by kernel_rfl) ?_
          refine JA.tk 0 rfl (.none rfl) (fun _ => (Ev.move rfl)) ?_
          refine JA.tk 1 rfl (.none rfl) (fun _ => (Ev.fld 0 rfl (fun _ _ => by kernel_rfl))) ?_
          refine JA.tk 3 rfl (.none rfl) (fun _ => (Ev.move rfl)) ?_
          refine JA.tk 4 rfl (.none rfl) (fun _ => (Ev.fld 0 rfl (fun _ _ => by kernel_rfl))) ?_
          refine JA.tk 7 rfl (.none rfl) (fun _ => (Ev.move rfl)) ?_
          refine JA.branch [2, 5, 8] (by kernel_rfl) rfl ?_
          refine JAll.cons rfl ?_ ?_
          · -- 2
            refine JO.val rfl rfl rfl (.none rfl) (Ev.load1 rfl Tryd.underlying5 rfl (Rd.own memK rfl)) ?_
            refine JA.branch [5, 8] (by kernel_rfl) rfl ?_
            refine JAll.cons rfl ?_ ?_
            · -- 5
              refine JO.val rfl rfl rfl (.none rfl) (Ev.load1 rfl Tryd.underlying5 rfl (Rd.own memK rfl)) ?_
              refine JA.branch [6, 8] (by kernel_rfl) rfl ?_
              refine JAll.cons rfl ?_ ?_
              · -- 6
                refine JO.val rfl rfl rfl (.none rfl) (Ev.lookM (k := x.k) (ms := ms) rfl rfl Tryd.underlying106 Tryd.underlying5 Tryd.zeroValue42 memK hes) ?_
                refine JA.one 8 ?_
                refine JO.new rfl rfl rfl (.none rfl) (En.bsN (e := 3) rfl (fun _ => by kernel_rfl)) (fun b38 hb38 => ?_)
                refine JA.one 9 ?_
                refine JO.gen rfl rfl rfl (.none rfl) (Eg.append1 (n := (getM ms x.k).1.length) (xs := ints (getM ms x.k).1) (news := [.int .i64 (i : Int)]) (z := (.int .i64 0)) (s := 1) (bytes := 8) rfl rfl rfl Cut.k Tryd.underlying42 (by kernel_rfl) rfl (by decide) (by decide) (getM_ok x.k ms hok2) (Rds.all memK) rfl (by decide) (ints_one [(i : Int)]) (by have := hsm x.k; omega)) ?_
                rintro _ _ ⟨r39, rfl, rfl, hr39⟩
                refine JA.one 10 ?_
                refine JO.sto rfl rfl (.none rfl) (Es.putM (k := x.k) (l := (getM ms x.k).1 ++ [(i : Int)]) (r := some r39) (es := es) (clock := cl) (ms := ms) rfl rfl (by rw [List.length_append]; rfl) Tryd.underlying106 Tryd.underlying5 Upd.k hes) ?_
                refine JA.done (by kernel_rfl) ?_
                refine JQ.blockN ?_
                refine JQ.thenN ?_
                refine JC.region ?_
                refine JL.val rfl rfl rfl (.none rfl) (Ev.bin rfl rfl (add_i64 (by omega))) ?_
                refine JL.mv ?_
                refine JL.nil ?_
                refine JQ.loopN (i + 1, (upd8 es cl x.k (Row.v ((getM ms x.k).1 ++ [(i : Int)]).length (some r39))).1, (upd8 es cl x.k (Row.v ((getM ms x.k).1 ++ [(i : Int)]).length (some r39))).2, putM ms x.k ((getM ms x.k).1 ++ [(i : Int)]) (some r39)) ?_ ?_ ?_ ?_
                · exact Keeps.k
                · exact Sub.of_cnt (fun a => by have := mB_put 3 x.k ((getM ms x.k).1 ++ [(i : Int)]) (some r39) a ms; (try dsimp only); simp only [cntA] at this ⊢; omega)
                · exact ⟨by omega, upd8_ok hes, putM_ok x.k _ _ (by rw [List.length_append, ints_append]; exact hr39) ms hok2, fun q => find_next hx hget q, fun q => find_len hsm q⟩
                · show xs.length - (i + 1) < xs.length - i; omega
              refine JAll.cons rfl ?_ JAll.nil
              refine JO.new rfl rfl rfl (.none rfl) (En.bsN (e := 3) rfl (fun _ => by kernel_rfl)) (fun b38 hb38 => ?_)
              refine JA.one 6 ?_
              refine JO.val rfl rfl rfl (.none rfl) (Ev.lookM (k := x.k) (ms := ms) rfl rfl Tryd.underlying106 Tryd.underlying5 Tryd.zeroValue42 memK hes) ?_
              refine JA.one 9 ?_
              refine JO.gen rfl rfl rfl (.none rfl) (Eg.append1 (n := (getM ms x.k).1.length) (xs := ints (getM ms x.k).1) (news := [.int .i64 (i : Int)]) (z := (.int .i64 0)) (s := 1) (bytes := 8) rfl rfl rfl Cut.k Tryd.underlying42 (by kernel_rfl) rfl (by decide) (by decide) (getM_ok x.k ms hok2) (Rds.all memK) rfl (by decide) (ints_one [(i : Int)]) (by have := hsm x.k; omega)) ?_
              rintro _ _ ⟨r39, rfl, rfl, hr39⟩
              refine JA.one 10 ?_
              refine JO.sto rfl rfl (.none rfl) (Es.putM (k := x.k) (l := (getM ms x.k).1 ++ [(i : Int)]) (r := some r39) (es := es) (clock := cl) (ms := ms) rfl rfl (by rw [List.length_append]; rfl) Tryd.underlying106 Tryd.underlying5 Upd.k hes) ?_
              refine JA.done (by kernel_rfl) ?_
              refine JQ.blockN ?_
              refine JQ.thenN ?_
              refine JC.region ?_
              refine JL.val rfl rfl rfl (.none rfl) (Ev.bin rfl rfl (add_i64 (by omega))) ?_
              refine JL.mv ?_
              refine JL.nil ?_
              refine JQ.loopN (i + 1, (upd8 es cl x.k (Row.v ((getM ms x.k).1 ++ [(i : Int)]).length (some r39))).1, (upd8 es cl x.k (Row.v ((getM ms x.k).1 ++ [(i : Int)]).length (some r39))).2, putM ms x.k ((getM ms x.k).1 ++ [(i : Int)]) (some r39)) ?_ ?_ ?_ ?_
              · exact Keeps.k
              · exact Sub.of_cnt (fun a => by have := mB_put 3 x.k ((getM ms x.k).1 ++ [(i : Int)]) (some r39) a ms; (try dsimp only); simp only [cntA] at this ⊢; omega)
              · exact ⟨by omega, upd8_ok hes, putM_ok x.k _ _ (by rw [List.length_append, ints_append]; exact hr39) ms hok2, fun q => find_next hx hget q, fun q => find_len hsm q⟩
              · show xs.length - (i + 1) < xs.length - i; omega
            refine JAll.cons rfl ?_ JAll.nil
            refine JO.new rfl rfl rfl (.none rfl) (En.bsN (e := 3) rfl (fun _ => by kernel_rfl)) (fun b38 hb38 => ?_)
            refine JA.one 5 ?_
            refine JO.val rfl rfl rfl (.none rfl) (Ev.load1 rfl Tryd.underlying5 rfl (Rd.own memK rfl)) ?_
            refine JA.one 6 ?_
            refine JO.val rfl rfl rfl (.none rfl) (Ev.lookM (k := x.k) (ms := ms) rfl rfl Tryd.underlying106 Tryd.underlying5 Tryd.zeroValue42 memK hes) ?_
            refine JA.one 9 ?_
            refine JO.gen rfl rfl rfl (.none rfl) (Eg.append1 (n := (getM ms x.k).1.length) (xs := ints (getM ms x.k).1) (news := [.int .i64 (i : Int)]) (z := (.int .i64 0)) (s := 1) (bytes := 8) rfl rfl rfl Cut.k Tryd.underlying42 (by kernel_rfl) rfl (by decide) (by decide) (getM_ok x.k ms hok2) (Rds.all memK) rfl (by decide) (ints_one [(i : Int)]) (by have := hsm x.k; omega)) ?_
            rintro _ _ ⟨r39, rfl, rfl, hr39⟩
            refine JA.one 10 ?_
            refine JO.sto rfl rfl (.none rfl) (Es.putM (k := x.k) (l := (getM ms x.k).1 ++ [(i : Int)]) (r := some r39) (es := es) (clock := cl) (ms := ms) rfl rfl (by rw [List.length_append]; rfl) Tryd.underlying106 Tryd.underlying5 Upd.k hes) ?_
            refine JA.done (by kernel_rfl) ?_
            refine JQ.blockN ?_
            refine JQ.thenN ?_
            refine JC.region ?_
            refine JL.val rfl rfl rfl (.none rfl) (Ev.bin rfl rfl (add_i64 (by omega))) ?_
            refine JL.mv ?_
            refine JL.nil ?_
            refine JQ.loopN (i + 1, (upd8 es cl x.k (Row.v ((getM ms x.k).1 ++ [(i : Int)]).length (some r39))).1, (upd8 es cl x.k (Row.v ((getM ms x.k).1 ++ [(i : Int)]).length (some r39))).2, putM ms x.k ((getM ms x.k).1 ++ [(i : Int)]) (some r39)) ?_ ?_ ?_ ?_
            · exact Keeps.k
            · exact Sub.of_cnt (fun a => by have := mB_put 3 x.k ((getM ms x.k).1 ++ [(i : Int)]) (some r39) a ms; (try dsimp only); simp only [cntA] at this ⊢; omega)
            · exact ⟨by omega, upd8_ok hes, putM_ok x.k _ _ (by rw [List.length_append, ints_append]; exact hr39) ms hok2, fun q => find_next hx hget q, fun q => find_len hsm q⟩
            · show xs.length - (i + 1) < xs.length - i; omega
          refine JAll.cons rfl ?_ ?_
          · -- 5
            refine JO.val rfl rfl rfl (.none rfl) (Ev.load1 rfl Tryd.underlying5 rfl (Rd.own memK rfl)) ?_
            refine JA.branch [2, 6, 8] (by kernel_rfl) rfl ?_
            refine JAll.cons rfl ?_ ?_
            · -- 2
              refine JO.val rfl rfl rfl (.none rfl) (Ev.load1 rfl Tryd.underlying5 rfl (Rd.own memK rfl)) ?_
              refine JA.branch [6, 8] (by kernel_rfl) rfl ?_
              refine JAll.cons rfl ?_ ?_
              · -- 6
                refine JO.val rfl rfl rfl (.none rfl) (Ev.lookM (k := x.k) (ms := ms) rfl rfl Tryd.underlying106 Tryd.underlying5 Tryd.zeroValue42 memK hes) ?_
                refine JA.one 8 ?_
                refine JO.new rfl rfl rfl (.none rfl) (En.bsN (e := 3) rfl (fun _ => by kernel_rfl)) (fun b38 hb38 => ?_)
                refine JA.one 9 ?_
                refine JO.gen rfl rfl rfl (.none rfl) (Eg.append1 (n := (getM ms x.k).1.length) (xs := ints (getM ms x.k).1) (news := [.int .i64 (i : Int)]) (z := (.int .i64 0)) (s := 1) (bytes := 8) rfl rfl rfl Cut.k Tryd.underlying42 (by kernel_rfl) rfl (by decide) (by decide) (getM_ok x.k ms hok2) (Rds.all memK) rfl (by decide) (ints_one [(i : Int)]) (by have := hsm x.k; omega)) ?_
                rintro _ _ ⟨r39, rfl, rfl, hr39⟩
                refine JA.one 10 ?_
                refine JO.sto rfl rfl (.none rfl) (Es.putM (k := x.k) (l := (getM ms x.k).1 ++ [(i : Int)]) (r := some r39) (es := es) (clock := cl) (ms := ms) rfl rfl (by rw [List.length_append]; rfl) Tryd.underlying106 Tryd.underlying5 Upd.k hes) ?_
                refine JA.done (by kernel_rfl) ?_
                refine JQ.blockN ?_
                refine JQ.thenN ?_
                refine JC.region ?_
                refine JL.val rfl rfl rfl (.none rfl) (Ev.bin rfl rfl (add_i64 (by omega))) ?_
                refine JL.mv ?_
                refine JL.nil ?_
                refine JQ.loopN (i + 1, (upd8 es cl x.k (Row.v ((getM ms x.k).1 ++ [(i : Int)]).length (some r39))).1, (upd8 es cl x.k (Row.v ((getM ms x.k).1 ++ [(i : Int)]).length (some r39))).2, putM ms x.k ((getM ms x.k).1 ++ [(i : Int)]) (some r39)) ?_ ?_ ?_ ?_
                · exact Keeps.k
                · exact Sub.of_cnt (fun a => by have := mB_put 3 x.k ((getM ms x.k).1 ++ [(i : Int)]) (some r39) a ms; (try dsimp only); simp only [cntA] at this ⊢; omega)
                · exact ⟨by omega, upd8_ok hes, putM_ok x.k _ _ (by rw [List.length_append, ints_append]; exact hr39) ms hok2, fun q => find_next hx hget q, fun q => find_len hsm q⟩
                · show xs.length - (i + 1) < xs.length - i; omega
              refine JAll.cons rfl ?_ JAll.nil
              refine JO.new rfl rfl rfl (.none rfl) (En.bsN (e := 3) rfl (fun _ => by kernel_rfl)) (fun b38 hb38 => ?_)
              refine JA.one 6 ?_
              refine JO.val rfl rfl rfl (.none rfl) (Ev.lookM (k := x.k) (ms := ms) rfl rfl Tryd.underlying106 Tryd.underlying5 Tryd.zeroValue42 memK hes) ?_
              refine JA.one 9 ?_
              refine JO.gen rfl rfl rfl (.none rfl) (Eg.append1 (n := (getM ms x.k).1.length) (xs := ints (getM ms x.k).1) (news := [.int .i64 (i : Int)]) (z := (.int .i64 0)) (s := 1) (bytes := 8) rfl rfl rfl Cut.k Tryd.underlying42 (by kernel_rfl) rfl (by decide) (by decide) (getM_ok x.k ms hok2) (Rds.all memK) rfl (by decide) (ints_one [(i : Int)]) (by have := hsm x.k; omega)) ?_
              rintro _ _ ⟨r39, rfl, rfl, hr39⟩
              refine JA.one 10 ?_
              refine JO.sto rfl rfl (.none rfl) (Es.putM (k := x.k) (l := (getM ms x.k).1 ++ [(i : Int)]) (r := some r39) (es := es) (clock := cl) (ms := ms) rfl rfl (by rw [List.length_append]; rfl) Tryd.underlying106 Tryd.underlying5 Upd.k hes) ?_
              refine JA.done (by kernel_rfl) ?_
              refine JQ.blockN ?_
              refine JQ.thenN ?_
              refine JC.region ?_
              refine JL.val rfl rfl rfl (.none rfl) (Ev.bin rfl rfl (add_i64 (by omega))) ?_
              refine JL.mv ?_
              refine JL.nil ?_
              refine JQ.loopN (i + 1, (upd8 es cl x.k (Row.v ((getM ms x.k).1 ++ [(i : Int)]).length (some r39))).1, (upd8 es cl x.k (Row.v ((getM ms x.k).1 ++ [(i : Int)]).length (some r39))).2, putM ms x.k ((getM ms x.k).1 ++ [(i : Int)]) (some r39)) ?_ ?_ ?_ ?_
              · exact Keeps.k
              · exact Sub.of_cnt (fun a => by have := mB_put 3 x.k ((getM ms x.k).1 ++ [(i : Int)]) (some r39) a ms; (try dsimp only); simp only [cntA] at this ⊢; omega)
              · exact ⟨by omega, upd8_ok hes, putM_ok x.k _ _ (by rw [List.length_append, ints_append]; exact hr39) ms hok2, fun q => find_next hx hget q, fun q => find_len hsm q⟩
              · show xs.length - (i + 1) < xs.length - i; omega
            refine JAll.cons rfl ?_ ?_
            · -- 6
              refine JO.val rfl rfl rfl (.none rfl) (Ev.lookM (k := x.k) (ms := ms) rfl rfl Tryd.underlying106 Tryd.underlying5 Tryd.zeroValue42 memK hes) ?_
              refine JA.branch [2, 8] (by kernel_rfl) rfl ?_
              refine JAll.cons rfl ?_ ?_
              · -- 2
                refine JO.val rfl rfl rfl (.none rfl) (Ev.load1 rfl Tryd.underlying5 rfl (Rd.own memK rfl)) ?_
                refine JA.one 8 ?_
                refine JO.new rfl rfl rfl (.none rfl) (En.bsN (e := 3) rfl (fun _ => by kernel_rfl)) (fun b38 hb38 => ?_)
                refine JA.one 9 ?_
                refine JO.gen rfl rfl rfl (.none rfl) (Eg.append1 (n := (getM ms x.k).1.length) (xs := ints (getM ms x.k).1) (news := [.int .i64 (i : Int)]) (z := (.int .i64 0)) (s := 1) (bytes := 8) rfl rfl rfl Cut.k Tryd.underlying42 (by kernel_rfl) rfl (by decide) (by decide) (getM_ok x.k ms hok2) (Rds.all memK) rfl (by decide) (ints_one [(i : Int)]) (by have := hsm x.k; omega)) ?_
                rintro _ _ ⟨r39, rfl, rfl, hr39⟩
                refine JA.one 10 ?_
                refine JO.sto rfl rfl (.none rfl) (Es.putM (k := x.k) (l := (getM ms x.k).1 ++ [(i : Int)]) (r := some r39) (es := es) (clock := cl) (ms := ms) rfl rfl (by rw [List.length_append]; rfl) Tryd.underlying106 Tryd.underlying5 Upd.k hes) ?_
                refine JA.done (by kernel_rfl) ?_
                refine JQ.blockN ?_
                refine JQ.thenN ?_
                refine JC.region ?_
                refine JL.val rfl rfl rfl (.none rfl) (Ev.bin rfl rfl (add_i64 (by omega))) ?_
                refine JL.mv ?_
                refine JL.nil ?_
                refine JQ.loopN (i + 1, (upd8 es cl x.k (Row.v ((getM ms x.k).1 ++ [(i : Int)]).length (some r39))).1, (upd8 es cl x.k (Row.v ((getM ms x.k).1 ++ [(i : Int)]).length (some r39))).2, putM ms x.k ((getM ms x.k).1 ++ [(i : Int)]) (some r39)) ?_ ?_ ?_ ?_
                · exact Keeps.k
                · exact Sub.of_cnt (fun a => by have := mB_put 3 x.k ((getM ms x.k).1 ++ [(i : Int)]) (some r39) a ms; (try dsimp only); simp only [cntA] at this ⊢; omega)
                · exact ⟨by omega, upd8_ok hes, putM_ok x.k _ _ (by rw [List.length_append, ints_append]; exact hr39) ms hok2, fun q => find_next hx hget q, fun q => find_len hsm q⟩
                · show xs.length - (i + 1) < xs.length - i; omega
              refine JAll.cons rfl ?_ JAll.nil
              refine JO.new rfl rfl rfl (.none rfl) (En.bsN (e := 3) rfl (fun _ => by kernel_rfl)) (fun b38 hb38 => ?_)
              refine JA.branch [2, 9] (by kernel_rfl) rfl ?_
              refine JAll.cons rfl ?_ ?_
              · -- 2
                refine JO.val rfl rfl rfl (.none rfl) (Ev.load1 rfl Tryd.underlying5 rfl (Rd.own memK rfl)) ?_
                refine JA.one 9 ?_
                refine JO.gen rfl rfl rfl (.none rfl) (Eg.append1 (n := (getM ms x.k).1.length) (xs := ints (getM ms x.k).1) (news := [.int .i64 (i : Int)]) (z := (.int .i64 0)) (s := 1) (bytes := 8) rfl rfl rfl Cut.k Tryd.underlying42 (by kernel_rfl) rfl (by decide) (by decide) (getM_ok x.k ms hok2) (Rds.all memK) rfl (by decide) (ints_one [(i : Int)]) (by have := hsm x.k; omega)) ?_
                rintro _ _ ⟨r39, rfl, rfl, hr39⟩
                refine JA.one 10 ?_
                refine JO.sto rfl rfl (.none rfl) (Es.putM (k := x.k) (l := (getM ms x.k).1 ++ [(i : Int)]) (r := some r39) (es := es) (clock := cl) (ms := ms) rfl rfl (by rw [List.length_append]; rfl) Tryd.underlying106 Tryd.underlying5 Upd.k hes) ?_
                refine JA.done (by kernel_rfl) ?_
                refine JQ.blockN ?_
                refine JQ.thenN ?_
                refine JC.region ?_
                refine JL.val rfl rfl rfl (.none rfl) (Ev.bin rfl rfl (add_i64 (by omega))) ?_
                refine JL.mv ?_
                refine JL.nil ?_
                refine JQ.loopN (i + 1, (upd8 es cl x.k (Row.v ((getM ms x.k).1 ++ [(i : Int)]).length (some r39))).1, (upd8 es cl x.k (Row.v ((getM ms x.k).1 ++ [(i : Int)]).length (some r39))).2, putM ms x.k ((getM ms x.k).1 ++ [(i : Int)]) (some r39)) ?_ ?_ ?_ ?_
                · exact Keeps.k
                · exact Sub.of_cnt (fun a => by have := mB_put 3 x.k ((getM ms x.k).1 ++ [(i : Int)]) (some r39) a ms; (try dsimp only); simp only [cntA] at this ⊢; omega)
                · exact ⟨by omega, upd8_ok hes, putM_ok x.k _ _ (by rw [List.length_append, ints_append]; exact hr39) ms hok2, fun q => find_next hx hget q, fun q => find_len hsm q⟩
                · show xs.length - (i + 1) < xs.length - i; omega
              refine JAll.cons rfl ?_ JAll.nil
              refine JO.gen rfl rfl rfl (.none rfl) (Eg.append1 (n := (getM ms x.k).1.length) (xs := ints (getM ms x.k).1) (news := [.int .i64 (i : Int)]) (z := (.int .i64 0)) (s := 1) (bytes := 8) rfl rfl rfl Cut.k Tryd.underlying42 (by kernel_rfl) rfl (by decide) (by decide) (getM_ok x.k ms hok2) (Rds.all memK) rfl (by decide) (ints_one [(i : Int)]) (by have := hsm x.k; omega)) ?_
              rintro _ _ ⟨r39, rfl, rfl, hr39⟩
              refine JA.one 2 ?_
              refine JO.val rfl rfl rfl (.none rfl) (Ev.load1 rfl Tryd.underlying5 rfl (Rd.own memK rfl)) ?_
              refine JA.one 10 ?_
              refine JO.sto rfl rfl (.none rfl) (Es.putM (k := x.k) (l := (getM ms x.k).1 ++ [(i : Int)]) (r := some r39) (es := es) (clock := cl) (ms := ms) rfl rfl (by rw [List.length_append]; rfl) Tryd.underlying106 Tryd.underlying5 Upd.k hes) ?_
              refine JA.done (by kernel_rfl) ?_
              refine JQ.blockN ?_
              refine JQ.thenN ?_
              refine JC.region ?_
              refine JL.val rfl rfl rfl (.none rfl) (Ev.bin rfl rfl (add_i64 (by omega))) ?_
              refine JL.mv ?_
              refine JL.nil ?_
              refine JQ.loopN (i + 1, (upd8 es cl x.k (Row.v ((getM ms x.k).1 ++ [(i : Int)]).length (some r39))).1, (upd8 es cl x.k (Row.v ((getM ms x.k).1 ++ [(i : Int)]).length (some r39))).2, putM ms x.k ((getM ms x.k).1 ++ [(i : Int)]) (some r39)) ?_ ?_ ?_ ?_
              · exact Keeps.k
              · exact Sub.of_cnt (fun a => by have := mB_put 3 x.k ((getM ms x.k).1 ++ [(i : Int)]) (some r39) a ms; (try dsimp only); simp only [cntA] at this ⊢; omega)
              · exact ⟨by omega, upd8_ok hes, putM_ok x.k _ _ (by rw [List.length_append, ints_append]; exact hr39) ms hok2, fun q => find_next hx hget q, fun q => find_len hsm q⟩
              · show xs.length - (i + 1) < xs.length - i; omega
            refine JAll.cons rfl ?_ JAll.nil
            refine JO.new rfl rfl rfl (.none rfl) (En.bsN (e := 3) rfl (fun _ => by kernel_rfl)) (fun b38 hb38 => ?_)
            refine JA.branch [2, 6] (by kernel_rfl) rfl ?_
            refine JAll.cons rfl ?_ ?_
            · -- 2
              refine JO.val rfl rfl rfl (.none rfl) (Ev.load1 rfl Tryd.underlying5 rfl (Rd.own memK rfl)) ?_
              refine JA.one 6 ?_
              refine JO.val rfl rfl rfl (.none rfl) (Ev.lookM (k := x.k) (ms := ms) rfl rfl Tryd.underlying106 Tryd.underlying5 Tryd.zeroValue42 memK hes) ?_
              refine JA.one 9 ?_
              refine JO.gen rfl rfl rfl (.none rfl) (Eg.append1 (n := (getM ms x.k).1.length) (xs := ints (getM ms x.k).1) (news := [.int .i64 (i : Int)]) (z := (.int .i64 0)) (s := 1) (bytes := 8) rfl rfl rfl Cut.k Tryd.underlying42 (by kernel_rfl) rfl (by decide) (by decide) (getM_ok x.k ms hok2) (Rds.all memK) rfl (by decide) (ints_one [(i : Int)]) (by have := hsm x.k; omega)) ?_
              rintro _ _ ⟨r39, rfl, rfl, hr39⟩
              refine JA.one 10 ?_
              refine JO.sto rfl rfl (.none rfl) (Es.putM (k := x.k) (l := (getM ms x.k).1 ++ [(i : Int)]) (r := some r39) (es := es) (clock := cl) (ms := ms) rfl rfl (by rw [List.length_append]; rfl) Tryd.underlying106 Tryd.underlying5 Upd.k hes) ?_
              refine JA.done (by kernel_rfl) ?_
              refine JQ.blockN ?_
              refine JQ.thenN ?_
              refine JC.region ?_
              refine JL.val rfl rfl rfl (.none rfl) (Ev.bin rfl rfl (add_i64 (by omega))) ?_
              refine JL.mv ?_
              refine JL.nil ?_
              refine JQ.loopN (i + 1, (upd8 es cl x.k (Row.v ((getM ms x.k).1 ++ [(i : Int)]).length (some r39))).1, (upd8 es cl x.k (Row.v ((getM ms x.k).1 ++ [(i : Int)]).length (some r39))).2, putM ms x.k ((getM ms x.k).1 ++ [(i : Int)]) (some r39)) ?_ ?_ ?_ ?_
              · exact Keeps.k
              · exact Sub.of_cnt (fun a => by have := mB_put 3 x.k ((getM ms x.k).1 ++ [(i : Int)]) (some r39) a ms; (try dsimp only); simp only [cntA] at this ⊢; omega)
              · exact ⟨by omega, upd8_ok hes, putM_ok x.k _ _ (by rw [List.length_append, ints_append]; exact hr39) ms hok2, fun q => find_next hx hget q, fun q => find_len hsm q⟩
              · show xs.length - (i + 1) < xs.length - i; omega
            refine JAll.cons rfl ?_ JAll.nil
            refine JO.val rfl rfl rfl (.none rfl) (Ev.lookM (k := x.k) (ms := ms) rfl rfl Tryd.underlying106 Tryd.underlying5 Tryd.zeroValue42 memK hes) ?_
            refine JA.branch [2, 9] (by kernel_rfl) rfl ?_
            refine JAll.cons rfl ?_ ?_
            · -- 2
              refine JO.val rfl rfl rfl (.none rfl) (Ev.load1 rfl Tryd.underlying5 rfl (Rd.own memK rfl)) ?_
              refine JA.one 9 ?_
              refine JO.gen rfl rfl rfl (.none rfl) (Eg.append1 (n := (getM ms x.k).1.length) (xs := ints (getM ms x.k).1) (news := [.int .i64 (i : Int)]) (z := (.int .i64 0)) (s := 1) (bytes := 8) rfl rfl rfl Cut.k Tryd.underlying42 (by kernel_rfl) rfl (by decide) (by decide) (getM_ok x.k ms hok2) (Rds.all memK) rfl (by decide) (ints_one [(i : Int)]) (by have := hsm x.k; omega)) ?_
              rintro _ _ ⟨r39, rfl, rfl, hr39⟩
              refine JA.one 10 ?_
              refine JO.sto rfl rfl (.none rfl) (Es.putM (k := x.k) (l := (getM ms x.k).1 ++ [(i : Int)]) (r := some r39) (es := es) (clock := cl) (ms := ms) rfl rfl (by rw [List.length_append]; rfl) Tryd.underlying106 Tryd.underlying5 Upd.k hes) ?_
              refine JA.done (by kernel_rfl) ?_
              refine JQ.blockN ?_
              refine JQ.thenN ?_
              refine JC.region ?_
              refine JL.val rfl rfl rfl (.none rfl) (Ev.bin rfl rfl (add_i64 (by omega))) ?_
              refine JL.mv ?_
              refine JL.nil ?_
              refine JQ.loopN (i + 1, (upd8 es cl x.k (Row.v ((getM ms x.k).1 ++ [(i : Int)]).length (some r39))).1, (upd8 es cl x.k (Row.v ((getM ms x.k).1 ++ [(i : Int)]).length (some r39))).2, putM ms x.k ((getM ms x.k).1 ++ [(i : Int)]) (some r39)) ?_ ?_ ?_ ?_
              · exact Keeps.k
              · exact Sub.of_cnt (fun a => by have := mB_put 3 x.k ((getM ms x.k).1 ++ [(i : Int)]) (some r39) a ms; (try dsimp only); simp only [cntA] at this ⊢; omega)
              · exact ⟨by omega, upd8_ok hes, putM_ok x.k _ _ (by rw [List.length_append, ints_append]; exact hr39) ms hok2, fun q => find_next hx hget q, fun q => find_len hsm q⟩
              · show xs.length - (i + 1) < xs.length - i; omega
            refine JAll.cons rfl ?_ JAll.nil
            refine JO.gen rfl rfl rfl (.none rfl) (Eg.append1 (n := (getM ms x.k).1.length) (xs := ints (getM ms x.k).1) (news := [.int .i64 (i : Int)]) (z := (.int .i64 0)) (s := 1) (bytes := 8) rfl rfl rfl Cut.k Tryd.underlying42 (by kernel_rfl) rfl (by decide) (by decide) (getM_ok x.k ms hok2) (Rds.all memK) rfl (by decide) (ints_one [(i : Int)]) (by have := hsm x.k; omega)) ?_
            rintro _ _ ⟨r39, rfl, rfl, hr39⟩
            refine JA.one 2 ?_
            refine JO.val rfl rfl rfl (.none rfl) (Ev.load1 rfl Tryd.underlying5 rfl (Rd.own memK rfl)) ?_
            refine JA.one 10 ?_
            refine JO.sto rfl rfl (.none rfl) (Es.putM (k := x.k) (l := (getM ms x.k).1 ++ [(i : Int)]) (r := some r39) (es := es) (clock := cl) (ms := ms) rfl rfl (by rw [List.length_append]; rfl) Tryd.underlying106 Tryd.underlying5 Upd.k hes) ?_
            refine JA.done (by kernel_rfl) ?_
            refine JQ.blockN ?_
            refine JQ.thenN ?_
            refine JC.region ?_
            refine JL.val rfl rfl rfl (.none rfl) (Ev.bin rfl rfl (add_i64 (by omega))) ?_
            refine JL.mv ?_
            refine JL.nil ?_
            refine JQ.loopN (i + 1, (upd8 es cl x.k (Row.v ((getM ms x.k).1 ++ [(i : Int)]).length (some r39))).1, (upd8 es cl x.k (Row.v ((getM ms x.k).1 ++ [(i : Int)]).length (some r39))).2, putM ms x.k ((getM ms x.k).1 ++ [(i : Int)]) (some r39)) ?_ ?_ ?_ ?_
            · exact Keeps.k
            · exact Sub.of_cnt (fun a => by have := mB_put 3 x.k ((getM ms x.k).1 ++ [(i : Int)]) (some r39) a ms; (try dsimp only); simp only [cntA] at this ⊢; omega)
            · exact ⟨by omega, upd8_ok hes, putM_ok x.k _ _ (by rw [List.length_append, ints_append]; exact hr39) ms hok2, fun q => find_next hx hget q, fun q => find_len hsm q⟩
            · show xs.length - (i + 1) < xs.length - i; omega
          refine JAll.cons rfl ?_ JAll.nil
          refine JO.new rfl rfl rfl (.none rfl) (En.bsN (e := 3) rfl (fun _ => by kernel_rfl)) (fun b38 hb38 => ?_)
          refine JA.branch [2, 5] (by kernel_rfl) rfl ?_
          refine JAll.cons rfl ?_ ?_
          · -- 2
            refine JO.val rfl rfl rfl (.none rfl) (Ev.load1 rfl Tryd.underlying5 rfl (Rd.own memK rfl)) ?_
            refine JA.one 5 ?_
            refine JO.val rfl rfl rfl (.none rfl) (Ev.load1 rfl Tryd.underlying5 rfl (Rd.own memK rfl)) ?_
            refine JA.one 6 ?_
            refine JO.val rfl rfl rfl (.none rfl) (Ev.lookM (k := x.k) (ms := ms) rfl rfl Tryd.underlying106 Tryd.underlying5 Tryd.zeroValue42 memK hes) ?_
            refine JA.one 9 ?_
            refine JO.gen rfl rfl rfl (.none rfl) (Eg.append1 (n := (getM ms x.k).1.length) (xs := ints (getM ms x.k).1) (news := [.int .i64 (i : Int)]) (z := (.int .i64 0)) (s := 1) (bytes := 8) rfl rfl rfl Cut.k Tryd.underlying42 (by kernel_rfl) rfl (by decide) (by decide) (getM_ok x.k ms hok2) (Rds.all memK) rfl (by decide) (ints_one [(i : Int)]) (by have := hsm x.k; omega)) ?_
            rintro _ _ ⟨r39, rfl, rfl, hr39⟩
            refine JA.one 10 ?_
            refine JO.sto rfl rfl (.none rfl) (Es.putM (k := x.k) (l := (getM ms x.k).1 ++ [(i : Int)]) (r := some r39) (es := es) (clock := cl) (ms := ms) rfl rfl (by rw [List.length_append]; rfl) Tryd.underlying106 Tryd.underlying5 Upd.k hes) ?_
            refine JA.done (by kernel_rfl) ?_
            refine JQ.blockN ?_
            refine JQ.thenN ?_
            refine JC.region ?_
            refine JL.val rfl rfl rfl (.none rfl) (Ev.bin rfl rfl (add_i64 (by omega))) ?_
            refine JL.mv ?_
            refine JL.nil ?_
            refine JQ.loopN (i + 1, (upd8 es cl x.k (Row.v ((getM ms x.k).1 ++ [(i : Int)]).length (some r39))).1, (upd8 es cl x.k (Row.v ((getM ms x.k).1 ++ [(i : Int)]).length (some r39))).2, putM ms x.k ((getM ms x.k).1 ++ [(i : Int)]) (some r39)) ?_ ?_ ?_ ?_
            · exact Keeps.k
            · exact Sub.of_cnt (fun a => by have := mB_put 3 x.k ((getM ms x.k).1 ++ [(i : Int)]) (some r39) a ms; (try dsimp only); simp only [cntA] at this ⊢; omega)
            · exact ⟨by omega, upd8_ok hes, putM_ok x.k _ _ (by rw [List.length_append, ints_append]; exact hr39) ms hok2, fun q => find_next hx hget q, fun q => find_len hsm q⟩
            · show xs.length - (i + 1) < xs.length - i; omega
          refine JAll.cons rfl ?_ JAll.nil
          refine JO.val rfl rfl rfl (.none rfl) (Ev.load1 rfl Tryd.underlying5 rfl (Rd.own memK rfl)) ?_
          refine JA.branch [2, 6] (by kernel_rfl) rfl ?_
          refine JAll.cons rfl ?_ ?_
          · -- 2
            refine JO.val rfl rfl rfl (.none rfl) (Ev.load1 rfl Tryd.underlying5 rfl (Rd.own memK rfl)) ?_
            refine JA.one 6 ?_
            refine JO.val rfl rfl rfl (.none rfl) (Ev.lookM (k := x.k) (ms := ms) rfl rfl Tryd.underlying106 Tryd.underlying5 Tryd.zeroValue42 memK hes) ?_
            refine JA.one 9 ?_
            refine JO.gen rfl rfl rfl (.none rfl) (Eg.append1 (n := (getM ms x.k).1.length) (xs := ints (getM ms x.k).1) (news := [.int .i64 (i : Int)]) (z := (.int .i64 0)) (s := 1) (bytes := 8) rfl rfl rfl Cut.k Tryd.underlying42 (by kernel_rfl) rfl (by decide) (by decide) (getM_ok x.k ms hok2) (Rds.all memK) rfl (by decide) (ints_one [(i : Int)]) (by have := hsm x.k; omega)) ?_
            rintro _ _ ⟨r39, rfl, rfl, hr39⟩
            refine JA.one 10 ?_
            refine JO.sto rfl rfl (.none rfl) (Es.putM (k := x.k) (l := (getM ms x.k).1 ++ [(i : Int)]) (r := some r39) (es := es) (clock := cl) (ms := ms) rfl rfl (by rw [List.length_append]; rfl) Tryd.underlying106 Tryd.underlying5 Upd.k hes) ?_
            refine JA.done (by kernel_rfl) ?_
            refine JQ.blockN ?_
            refine JQ.thenN ?_
            refine JC.region ?_
            refine JL.val rfl rfl rfl (.none rfl) (Ev.bin rfl rfl (add_i64 (by omega))) ?_
            refine JL.mv ?_
            refine JL.nil ?_
            refine JQ.loopN (i + 1, (upd8 es cl x.k (Row.v ((getM ms x.k).1 ++ [(i : Int)]).length (some r39))).1, (upd8 es cl x.k (Row.v ((getM ms x.k).1 ++ [(i : Int)]).length (some r39))).2, putM ms x.k ((getM ms x.k).1 ++ [(i : Int)]) (some r39)) ?_ ?_ ?_ ?_
            · exact Keeps.k
            · exact Sub.of_cnt (fun a => by have := mB_put 3 x.k ((getM ms x.k).1 ++ [(i : Int)]) (some r39) a ms; (try dsimp only); simp only [cntA] at this ⊢; omega)
            · exact ⟨by omega, upd8_ok hes, putM_ok x.k _ _ (by rw [List.length_append, ints_append]; exact hr39) ms hok2, fun q => find_next hx hget q, fun q => find_len hsm q⟩
            · show xs.length - (i + 1) < xs.length - i; omega
          refine JAll.cons rfl ?_ JAll.nil
          refine JO.val rfl rfl rfl (.none rfl) (Ev.lookM (k := x.k) (ms := ms) rfl rfl Tryd.underlying106 Tryd.underlying5 Tryd.zeroValue42 memK hes) ?_
          refine JA.branch [2, 9] (by kernel_rfl) rfl ?_
          refine JAll.cons rfl ?_ ?_
          · -- 2
            refine JO.val rfl rfl rfl (.none rfl) (Ev.load1 rfl Tryd.underlying5 rfl (Rd.own memK rfl)) ?_
            refine JA.one 9 ?_
            refine JO.gen rfl rfl rfl (.none rfl) (Eg.append1 (n := (getM ms x.k).1.length) (xs := ints (getM ms x.k).1) (news := [.int .i64 (i : Int)]) (z := (.int .i64 0)) (s := 1) (bytes := 8) rfl rfl rfl Cut.k Tryd.underlying42 (by kernel_rfl) rfl (by decide) (by decide) (getM_ok x.k ms hok2) (Rds.all memK) rfl (by decide) (ints_one [(i : Int)]) (by have := hsm x.k; omega)) ?_
            rintro _ _ ⟨r39, rfl, rfl, hr39⟩
            refine JA.one 10 ?_
            refine JO.sto rfl rfl (.none rfl) (Es.putM (k := x.k) (l := (getM ms x.k).1 ++ [(i : Int)]) (r := some r39) (es := es) (clock := cl) (ms := ms) rfl rfl (by rw [List.length_append]; rfl) Tryd.underlying106 Tryd.underlying5 Upd.k hes) ?_
            refine JA.done (by kernel_rfl) ?_
            refine JQ.blockN ?_
            refine JQ.thenN ?_
            refine JC.region ?_
            refine JL.val rfl rfl rfl (.none rfl) (Ev.bin rfl rfl (add_i64 (by omega))) ?_
            refine JL.mv ?_
            refine JL.nil ?_
            refine JQ.loopN (i + 1, (upd8 es cl x.k (Row.v ((getM ms x.k).1 ++ [(i : Int)]).length (some r39))).1, (upd8 es cl x.k (Row.v ((getM ms x.k).1 ++ [(i : Int)]).length (some r39))).2, putM ms x.k ((getM ms x.k).1 ++ [(i : Int)]) (some r39)) ?_ ?_ ?_ ?_
            · exact Keeps.k
            · exact Sub.of_cnt (fun a => by have := mB_put 3 x.k ((getM ms x.k).1 ++ [(i : Int)]) (some r39) a ms; (try dsimp only); simp only [cntA] at this ⊢; omega)
            · exact ⟨by omega, upd8_ok hes, putM_ok x.k _ _ (by rw [List.length_append, ints_append]; exact hr39) ms hok2, fun q => find_next hx hget q, fun q => find_len hsm q⟩
            · show xs.length - (i + 1) < xs.length - i; omega
          refine JAll.cons rfl ?_ JAll.nil
          refine JO.gen rfl rfl rfl (.none rfl) (Eg.append1 (n := (getM ms x.k).1.length) (xs := ints (getM ms x.k).1) (news := [.int .i64 (i : Int)]) (z := (.int .i64 0)) (s := 1) (bytes := 8) rfl rfl rfl Cut.k Tryd.underlying42 (by kernel_rfl) rfl (by decide) (by decide) (getM_ok x.k ms hok2) (Rds.all memK) rfl (by decide) (ints_one [(i : Int)]) (by have := hsm x.k; omega)) ?_
          rintro _ _ ⟨r39, rfl, rfl, hr39⟩
          refine JA.one 2 ?_
          refine JO.val rfl rfl rfl (.none rfl) (Ev.load1 rfl Tryd.underlying5 rfl (Rd.own memK rfl)) ?_
          refine JA.one 10 ?_
          refine JO.sto rfl rfl (.none rfl) (Es.putM (k := x.k) (l := (getM ms x.k).1 ++ [(i : Int)]) (r := some r39) (es := es) (clock := cl) (ms := ms) rfl rfl (by rw [List.length_append]; rfl) Tryd.underlying106 Tryd.underlying5 Upd.k hes) ?_
          refine JA.done (by kernel_rfl) ?_
          refine JQ.blockN ?_
          refine JQ.thenN ?_
          refine JC.region ?_
          refine JL.val rfl rfl rfl (.none rfl) (Ev.bin rfl rfl (add_i64 (by omega))) ?_
          refine JL.mv ?_
          refine JL.nil ?_
          refine JQ.loopN (i + 1, (upd8 es cl x.k (Row.v ((getM ms x.k).1 ++ [(i : Int)]).length (some r39))).1, (upd8 es cl x.k (Row.v ((getM ms x.k).1 ++ [(i : Int)]).length (some r39))).2, putM ms x.k ((getM ms x.k).1 ++ [(i : Int)]) (some r39)) ?_ ?_ ?_ ?_
          · exact Keeps.k
          · exact Sub.of_cnt (fun a => by have := mB_put 3 x.k ((getM ms x.k).1 ++ [(i : Int)]) (some r39) a ms; (try dsimp only); simp only [cntA] at this ⊢; omega)
          · exact ⟨by omega, upd8_ok hes, putM_ok x.k _ _ (by rw [List.length_append, ints_append]; exact hr39) ms hok2, fun q => find_next hx hget q, fun q => find_len hsm q⟩
          · show xs.length - (i + 1) < xs.length - i; omega
        · -- t26 False
          replace hc2 := of_decide_eq_false hc2
          obtain rfl : i = xs.length := by omega
          refine JC.exit ?_
          refine JQ.thenE ?_
          refine JQ.thenE ?_
          refine JQ.blockE ?_
          refine JQ.thenN ?_
          refine JC.seq ?_
          refine JC.region ?_
          refine JL.mv ?_
          refine JL.mv ?_
          refine JL.val rfl rfl rfl (.none rfl) (Ev.lookM (k := k) (ms := ms) rfl rfl Tryd.underlying106 Tryd.underlying5 Tryd.zeroValue42 memK hes) ?_
          refine JL.asg ?_
          refine JL.asg ?_
          refine JL.nil ?_
          refine JQ.thenN ?_
          refine JC.ret ?_
          refine JQ.end2 (H' := (Row.b 3 (getM ms k).2)) (.inl rfl) rfl (.tmp rfl) (.tmp rfl) ?_ ?_
          · exact Sub.of_cnt (fun a => by have := mB_get 3 k a ms; (try dsimp only); simp only [cntA]; omega)
          · have hgo := getM_ok k ms hok2; rw [hget k, List.take_of_length_le (by rw [List.length_map]; exact Nat.le_refl _)] at hgo ⊢; exact ⟨(getM ms k).2, by rw [fdV_ok hok hbo, fdE_ok hok hbo], rfl, by rw [fdV_ok hok hbo]; exact hgo⟩

theorem sameInts_any (oa ob : Option Addr) (ca cb : Nat) (l m : List Int) (w : World) (ha : Cs w oa l.length ca (ints l)) (hb : Cs w ob m.length cb (ints m)) (hl : l.length ≤ 1100000) :
    Calls Tryd.prog 24 #[.slice oa l.length ca, .slice ob m.length cb] w (Ret w (fun v _ => v = .bool (decide (l = m)))) := by
  refine enter (vs := [.slice oa l.length ca, .slice ob m.length cb]) Tryd.func24 rfl Tryd.ntmps24 rfl ?_
  refine JC.seq ?_
  refine JC.region ?_
  refine JL.asg ?_
  refine JL.nil ?_
  refine JQ.thenN ?_
  refine JC.seq ?_
  refine JC.seq ?_
  refine JC.region ?_
  refine JL.mv ?_
  refine JL.val rfl rfl rfl (.none rfl) (Ev.lenS rfl Tryd.underlying42) ?_
  refine JL.mv ?_
  refine JL.val rfl rfl rfl (.none rfl) (Ev.lenS rfl Tryd.underlying42) ?_
  refine JL.val rfl rfl rfl (.none rfl) (Ev.bin rfl rfl neq_int) ?_
  refine JL.nil ?_
  refine JQ.thenN ?_
  refine JC.cond rfl (fun hc1 => ?_) (fun hc1 => ?_)
  · -- t10 True
    replace hc1 := of_decide_eq_true hc1
    have hne : l.length ≠ m.length := by omega
    refine JC.seq ?_
    refine JC.region ?_
    refine JL.asg ?_
    refine JL.nil ?_
    refine JQ.thenN ?_
    refine JC.ret ?_
    refine JQ.thenR ?_
    refine JQ.end1 (H' := []) (.inl rfl) rfl (.tmp rfl) ?_ ?_
    · exact Sub.k
    · first | exact congrArg Value.bool (decide_eq_false (fun h => hne (congrArg List.length h))).symm | exact congrArg Value.bool (decide_eq_false (fun h => hq (by rw [h, hy] at hx; exact (Option.some.inj hx).symm))).symm | exact congrArg Value.bool (decide_eq_true (eq_upto hlen heq)).symm
  · -- t10 False
    replace hc1 := of_decide_eq_false hc1
    have hlen : l.length = m.length := by omega
    refine JC.skip ?_
    refine JQ.thenN ?_
    refine JC.seq ?_
    refine JC.seq ?_
    refine JC.region ?_
    refine JL.asg ?_
    refine JL.nil ?_
    refine JQ.thenN ?_
    refine JC.block ?_
    refine JC.loop (X := Nat)
      (fun i => [(0, .slice oa l.length ca), (1, .slice ob m.length cb), (5, .int .i64 (i : Int))])
      (fun i => [])
      (fun i => i ≤ l.length ∧ ∀ j, j < i → l[j]? = m[j]?)
      (fun i => l.length - i) 0 ?_ ?_ ?_ ?_
    · exact Keeps.k
    · exact Sub.nil
    · exact ⟨Nat.zero_le _, fun j hj => by omega⟩
    rintro i ⟨hi, heq⟩
    refine JC.seq ?_
    refine JC.seq ?_
    refine JC.region ?_
    refine JL.mv ?_
    refine JL.mv ?_
    refine JL.val rfl rfl rfl (.none rfl) (Ev.lenS rfl Tryd.underlying42) ?_
    refine JL.val rfl rfl rfl (.none rfl) (Ev.bin rfl rfl lss_int) ?_
    refine JL.nil ?_
    refine JQ.thenN ?_
    refine JC.cond rfl (fun hc2 => ?_) (fun hc2 => ?_)
    · -- t14 True
      replace hc2 := of_decide_eq_true hc2
      refine JC.skip ?_
      refine JQ.thenN ?_
      refine JC.seq ?_
      refine JC.block ?_
      refine JC.seq ?_
      have hin : i < l.length := by omega
      obtain ⟨a, rfl⟩ := ha.get_some (by omega)
      obtain ⟨b, rfl⟩ := hb.get_some (by omega)
      obtain ⟨x, hx⟩ := get_some hin
      obtain ⟨y, hy⟩ := get_some (l := m) (k := i) (by omega)
      refine JC.regionQ (by kernel_rfl) (by kernel_rfl) ?_
      refine JW.val rfl rfl (.none rfl) (Ev.move rfl) ?_
      refine JW.val rfl rfl (.none rfl) (Ev.move rfl) ?_
      refine JW.val rfl rfl (.none rfl) (Ev.idxS1 rfl rfl Tryd.underlying42 Tryd.sizeOf3 (k := i) rfl (by omega)) ?_
      refine JW.val rfl rfl (.none rfl) (Ev.load1 rfl Tryd.underlying3 rfl ((Rds.old (ha.mem _ rfl)).at (k := i) (ints_get hx))) ?_
      refine JW.val rfl rfl (.none rfl) (Ev.move rfl) ?_
      refine JW.val rfl rfl (.none rfl) (Ev.move rfl) ?_
      refine JW.val rfl rfl (.none rfl) (Ev.idxS1 rfl rfl Tryd.underlying42 Tryd.sizeOf3 (k := i) rfl (by omega)) ?_
      refine JW.val rfl rfl (.none rfl) (Ev.load1 rfl Tryd.underlying3 rfl ((Rds.old (hb.mem _ rfl)).at (k := i) (ints_get hy))) ?_
      refine JW.val rfl rfl (.none rfl) (Ev.bin rfl rfl neq_int) ?_
      refine JW.nilQ ?_
      refine JQ.thenN ?_
      refine JC.cond rfl (fun hc3 => ?_) (fun hc3 => ?_)
      · -- t25 True
        replace hc3 := of_decide_eq_true hc3
        have hq : x ≠ y := by omega
        refine JC.seq ?_
        refine JC.region ?_
        refine JL.asg ?_
        refine JL.nil ?_
        refine JQ.thenN ?_
        refine JC.ret ?_
        refine JQ.blockR ?_
        refine JQ.thenR ?_
        refine JQ.thenR ?_
        refine JQ.blockR ?_
        refine JQ.thenR ?_
        refine JQ.end1 (H' := []) (.inl rfl) rfl (.tmp rfl) ?_ ?_
        · exact Sub.k
        · first | exact congrArg Value.bool (decide_eq_false (fun h => hne (congrArg List.length h))).symm | exact congrArg Value.bool (decide_eq_false (fun h => hq (by rw [h, hy] at hx; exact (Option.some.inj hx).symm))).symm | exact congrArg Value.bool (decide_eq_true (eq_upto hlen heq)).symm
      · -- t25 False
        replace hc3 := of_decide_eq_false hc3
        have hq : x = y := by omega
        refine JC.skip ?_
        refine JQ.blockN ?_
        refine JQ.thenN ?_
        refine JC.region ?_
        refine JL.mv ?_
        refine JL.val rfl rfl rfl (.none rfl) (Ev.bin rfl rfl (add_i64 (by omega))) ?_
        refine JL.asg ?_
        refine JL.nil ?_
        refine JQ.loopN (i + 1) ?_ ?_ ?_ ?_
        · exact Keeps.k
        · exact Sub.nil
        · exact ⟨by omega, all_succ heq (by rw [hx, hy, hq])⟩
        · show l.length - (i + 1) < l.length - i; omega
    · -- t14 False
      replace hc2 := of_decide_eq_false hc2
      obtain rfl : i = l.length := by omega
      refine JC.exit ?_
      refine JQ.thenE ?_
      refine JQ.thenE ?_
      refine JQ.blockE ?_
      refine JQ.thenN ?_
      refine JC.seq ?_
      refine JC.region ?_
      refine JL.asg ?_
      refine JL.nil ?_
      refine JQ.thenN ?_
      refine JC.ret ?_
      refine JQ.end1 (H' := []) (.inl rfl) rfl (.tmp rfl) ?_ ?_
      · exact Sub.k
      · first | exact congrArg Value.bool (decide_eq_false (fun h => hne (congrArg List.length h))).symm | exact congrArg Value.bool (decide_eq_false (fun h => hq (by rw [h, hy] at hx; exact (Option.some.inj hx).symm))).symm | exact congrArg Value.bool (decide_eq_true (eq_upto hlen heq)).symm

end Go.Proofs.YtopaednfjjjnbaaDoor
