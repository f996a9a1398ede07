/-
  Boards: an entry appended; the chapter's examples.
-/
import Derived.Test.YtopaednfjjjnbaaDoorBrd3Nm
namespace Go.Proofs.YtopaednfjjjnbaaDoor
open Go Go.RowKit
set_option maxRecDepth 100000

def adV (xs : List Ent) (x : Ent) : List Ent := if ¬ okB xs then [] else if okE x = false then [] else if xs.length = 1024 then [] else xs ++ [x]
def adE (xs : List Ent) (x : Ent) : Int := if ¬ okB xs then 8 else if okE x = false then 2 else if xs.length = 1024 then 9 else 0
section
variable {xs : List Ent} {x : Ent}
theorem ad_1 (h : ¬ okB xs) : adV xs x = [] ∧ adE xs x = 8 := ⟨if_pos h, if_pos h⟩
theorem ad_2 (h : okB xs) (h1 : okE x = false) : adV xs x = [] ∧ adE xs x = 2 := ⟨(if_neg (fun h2 => h2 h)).trans (if_pos h1), (if_neg (fun h2 => h2 h)).trans (if_pos h1)⟩
theorem ad_3 (h : okB xs) (h1 : okE x = true) (h2 : xs.length = 1024) : adV xs x = [] ∧ adE xs x = 9 := by
  unfold adV adE
  rw [if_neg (fun h2 => h2 h), if_neg (by rw [h1]; simp), if_pos h2, if_neg (fun h2 => h2 h), if_neg (by rw [h1]; simp), if_pos h2]
  exact ⟨rfl, rfl⟩
theorem ad_4 (h : okB xs) (h1 : okE x = true) (h2 : ¬ xs.length = 1024) : adV xs x = xs ++ [x] ∧ adE xs x = 0 := by
  unfold adV adE
  rw [if_neg (fun h2 => h2 h), if_neg (by rw [h1]; simp), if_neg h2, if_neg (fun h2 => h2 h), if_neg (by rw [h1]; simp), if_neg h2]
  exact ⟨rfl, rfl⟩
end
theorem bd_nil {w : World} : Bd w none 0 [] := ⟨cs_nil, fun x hx => by cases hx⟩
theorem ad_alive : adV ([].map Et.e) (5, [1, 2]) = [(5, [1, 2])] := by decide
theorem alive_root : (brV [(5, [1, 2])]).1 = sha [0, 5, 1, 2] := by
  have h : okB [(5, [1, 2])] := by decide
  rw [brV_ok h]
  show (rootR [leafE (5, [1, 2])]).1 = _
  rw [rootR_one]
  rfl

theorem bAdd_any (oa : Option Addr) (cap : Nat) (xs : List Et) (x : Et) (w : World) (hb : Bd w oa cap xs) (hx : Bs w x.o x.cap x.l) :
    Calls Tryd.prog 12 #[.agg #[.slice oa xs.length cap], .agg x.cl.toArray] w (Ret w (fun v H => ∃ z, v = .tuple #[z, .int .i64 (adE (xs.map Et.e) x.e)] ∧ OwnB 30 5 (adV (xs.map Et.e) x.e) z H)) := by
  refine enter (vs := [.agg #[.slice oa xs.length cap], .agg x.cl.toArray]) Tryd.func12 rfl Tryd.ntmps12 rfl ?_
  refine JC.seq ?_
  refine JC.region ?_
  refine JL.new rfl rfl rfl (.none rfl) (En.boxA rfl) (fun b2 hb2 => ?_)
  refine JL.new rfl rfl rfl (.none rfl) (En.boxA rfl) (fun b3 hb3 => ?_)
  refine JL.new rfl rfl rfl (.none rfl) (En.allocZ (cs := #[.slice none 0 0]) Tryd.zeroValue24 rfl) (fun b4 hb4 => ?_)
  refine JL.asg ?_
  refine JL.nil ?_
  refine JQ.thenN ?_
  refine JC.seq ?_
  refine JC.seq ?_
  refine JC.region ?_
  refine JL.val rfl rfl rfl (.none rfl) (Ev.lB Tryd.underlying24 Tryd.sizeOf24) ?_
  refine JL.callV rfl (.none rfl) rfl Tryd.call25 (fun w1 hw1 => bCheck_any oa cap xs w1 (hb.old hw1)) ?_
  refine JL.asg ?_
  refine JL.nil ?_
  refine JQ.thenN ?_
  refine JC.seq ?_
  refine JC.region ?_
  refine JL.mv ?_
  refine JL.val rfl rfl rfl (.none rfl) (Ev.bin rfl rfl neq_int) ?_
  refine JL.nil ?_
  refine JQ.thenN ?_
  refine JC.cond rfl (fun hc => ?_) (fun hc => ?_)
  · -- t11 True
    have hbad : ¬ okB (xs.map Et.e) := fun h => by rw [ckE_ok h] at hc; simp at hc
    have hce := ckE_bad hbad
    refine JC.seq ?_
    refine JC.region ?_
    refine JL.val rfl rfl rfl (.none rfl) (Ev.build (parts := []) (vs := []) (cs := #[.slice none 0 0]) (fun _ _ => rfl) (fun _ => by kernel_rfl)) ?_
    refine JL.mv ?_
    refine JL.sto rfl rfl (.none rfl) (Es.storeA rfl rfl Tryd.sizeOf24 Upd.k rfl rfl (fun u hu => by simp only [List.mem_singleton] at hu; subst hu; rfl)) ?_
    refine JL.asg ?_
    refine JL.nil ?_
    refine JQ.thenN ?_
    refine JC.ret ?_
    refine JQ.thenR ?_
    refine JQ.end2 (H' := []) (.inl rfl) rfl (.agg rfl memK Tryd.underlying24 rfl Tryd.sizeOf24 rfl) (.tmp rfl) ?_ ?_
    · exact Sub.nil
    · exact ⟨.agg #[.slice none 0 0], by rw [(ad_1 hbad).2, hce], none, [], rfl, rfl, Row.ok0, (fun o ho => by cases ho), by rw [(ad_1 hbad).1]; rfl⟩
  · -- t11 False
    have hok : okB (xs.map Et.e) := Classical.byContradiction fun h => by rw [ckE_bad h] at hc; simp at hc
    have hlen := okB_len hok
    have hsz := okB_sz hok
    refine JC.skip ?_
    refine JQ.thenN ?_
    refine JC.seq ?_
    refine JC.seq ?_
    refine JC.region ?_
    refine JL.val rfl rfl rfl (.none rfl) (Ev.lB Tryd.underlying30 Tryd.sizeOf30) ?_
    refine JL.callV rfl (.none rfl) rfl Tryd.call56 (fun w1 hw1 => valid_any x w1) ?_
    refine JL.val rfl rfl rfl (.none rfl) (Ev.not rfl) ?_
    refine JL.nil ?_
    refine JQ.thenN ?_
    refine JC.cond rfl (fun hv => ?_) (fun hv => ?_)
    · -- t16 True
      have hv : okE x.e = false := by simpa using hv
      refine JC.seq ?_
      refine JC.region ?_
      refine JL.val rfl rfl rfl (.none rfl) (Ev.build (parts := []) (vs := []) (cs := #[.slice none 0 0]) (fun _ _ => rfl) (fun _ => by kernel_rfl)) ?_
      refine JL.sto rfl rfl (.none rfl) (Es.storeA rfl rfl Tryd.sizeOf24 Upd.k rfl rfl (fun u hu => by simp only [List.mem_singleton] at hu; subst hu; rfl)) ?_
      refine JL.asg ?_
      refine JL.nil ?_
      refine JQ.thenN ?_
      refine JC.ret ?_
      refine JQ.thenR ?_
      refine JQ.end2 (H' := []) (.inl rfl) rfl (.agg rfl memK Tryd.underlying24 rfl Tryd.sizeOf24 rfl) (.tmp rfl) ?_ ?_
      · exact Sub.nil
      · exact ⟨.agg #[.slice none 0 0], by rw [(ad_2 hok hv).2] <;> rfl, none, [], rfl, rfl, Row.ok0, (fun o ho => by cases ho), by rw [(ad_2 hok hv).1]; rfl⟩
    · -- t16 False
      have hv : okE x.e = true := by simpa using hv
      have hl : x.l.length ≤ 8000 := okE_len hv
      refine JC.skip ?_
      refine JQ.thenN ?_
      refine JC.seq ?_
      refine JC.seq ?_
      refine JC.region ?_
      refine JL.val rfl rfl rfl (.none rfl) (Ev.fld 0 rfl (fun _ _ => by kernel_rfl)) ?_
      refine JL.val rfl rfl rfl (.none rfl) (Ev.load1 rfl Tryd.underlying22 rfl (Rd.own memK rfl)) ?_
      refine JL.val rfl rfl rfl (.none rfl) (Ev.lenS rfl Tryd.underlying22) ?_
      refine JL.val rfl rfl rfl (.none rfl) (Ev.bin rfl rfl eql_int) ?_
      refine JL.nil ?_
      refine JQ.thenN ?_
      refine JC.cond rfl (fun hc1 => ?_) (fun hc1 => ?_)
      · -- t21 True
        replace hc1 := of_decide_eq_true hc1
        have hfull : (xs.map Et.e).length = 1024 := by rw [List.length_map]; omega
        refine JC.seq ?_
        refine JC.region ?_
        refine JL.val rfl rfl rfl (.none rfl) (Ev.build (parts := []) (vs := []) (cs := #[.slice none 0 0]) (fun _ _ => rfl) (fun _ => by kernel_rfl)) ?_
        refine JL.sto rfl rfl (.none rfl) (Es.storeA rfl rfl Tryd.sizeOf24 Upd.k rfl rfl (fun u hu => by simp only [List.mem_singleton] at hu; subst hu; rfl)) ?_
        refine JL.asg ?_
        refine JL.nil ?_
        refine JQ.thenN ?_
        refine JC.ret ?_
        refine JQ.thenR ?_
        refine JQ.end2 (H' := []) (.inl rfl) rfl (.agg rfl memK Tryd.underlying24 rfl Tryd.sizeOf24 rfl) (.tmp rfl) ?_ ?_
        · exact Sub.nil
        · exact ⟨.agg #[.slice none 0 0], by rw [(ad_3 hok hv hfull).2] <;> rfl, none, [], rfl, rfl, Row.ok0, (fun o ho => by cases ho), by rw [(ad_3 hok hv hfull).1]; rfl⟩
      · -- t21 False
        replace hc1 := of_decide_eq_false hc1
        have hfull : ¬ (xs.map Et.e).length = 1024 := by rw [List.length_map]; omega
        have hs2 : ∀ x ∈ xs, x.l.length ≤ 140737488351232 := fun x hx => Nat.le_trans (hsz x hx) (by decide)
        refine JC.skip ?_
        refine JQ.thenN ?_
        refine JC.seq ?_
        refine JC.region ?_
        refine JL.val rfl rfl rfl (.none rfl) (Ev.lB Tryd.underlying24 Tryd.sizeOf24) ?_
        refine JL.callN rfl (.none rfl) rfl Tryd.call36 (fun w1 hw1 => bTwin_any oa cap xs w1 (hb.old hw1) hs2 (by omega)) ?_
        rintro _ _ ⟨r, os, rfl, rfl, hr, hok2, he⟩
        refine JL.new rfl rfl rfl (.none rfl) (En.allocZ (cs := #[.slice none 0 0]) Tryd.zeroValue24 rfl) (fun b7 hb7 => ?_)
        refine JL.sto rfl rfl (.none rfl) (Es.storeA rfl rfl Tryd.sizeOf24 (by repeat (first | exact .here | apply Upd.there | apply Upd.assoc | apply Upd.left)) rfl rfl (fun u hu => by simp only [List.mem_singleton] at hu; subst hu; exact rowv_one _ _)) ?_
        refine JL.nil ?_
        refine JQ.thenN ?_
        refine JC.seq ?_
        have hol : os.length = xs.length := by have := congrArg List.length he; simpa using this
        refine JC.regionA (by kernel_rfl) ?_
        refine JA.tk 0 rfl (.none rfl) (fun _ => (Ev.fld 0 rfl (fun _ _ => by kernel_rfl))) ?_
        refine JA.branch [1, 2] (by kernel_rfl) rfl ?_
        refine JAll.cons rfl ?_ ?_
        · -- 1
          refine JO.val rfl rfl rfl (.none rfl) (Ev.load1 (v := Row.v os.length r) rfl Tryd.underlying22 rfl (Rd.own memK rfl)) ?_
          refine JA.one 2 ?_
          refine JO.val rfl rfl rfl (.none rfl) (Ev.lB Tryd.underlying30 Tryd.sizeOf30) ?_
          refine JA.one 3 ?_
          refine JO.callN rfl (.none rfl) rfl Tryd.call57 (fun w1 hw1 => btwin_any x w1 (hx.old hw1) (by omega)) ?_
          rintro _ _ ⟨q, rfl, rfl, hq⟩
          refine JA.one 4 ?_
          refine JO.new rfl rfl rfl (.none rfl) (En.bs1E (o := ⟨x.k, q, x.l⟩) rfl Tryd.underlying22 Tryd.sizeOf30 Tryd.zeroValue30) (fun b29 hb29 => ?_)
          refine JA.one 5 ?_
          refine JO.gen rfl rfl rfl (.none rfl) (Eg.append1 (r := r) (n := os.length) (xs := oef os) (news := OE.cl ⟨x.k, q, x.l⟩) (z := (.agg #[.int .u8 0, .slice none 0 0])) (s := 2) (bytes := 32) rfl rfl rfl (by repeat (first | exact .last | exact .here | apply Cut.there | apply Cut.assoc | apply Cut.past)) Tryd.underlying22 (by kernel_rfl) rfl (by decide) (by decide) hr (Rds.all memK) rfl (by decide) (OE.one _) (by omega)) ?_
          rintro _ _ ⟨rn, rfl, rfl, hrn⟩
          refine JA.tk 6 rfl (.none rfl) (fun _ => (Ev.fld 0 rfl (fun _ _ => by kernel_rfl))) ?_
          refine JA.one 7 ?_
          refine JO.sto rfl rfl (.none rfl) (Es.store0 rfl rfl Tryd.sizeOf22 (rowv_cells _ _) (rowv_one _ _) (by repeat (first | exact .here | apply Upd.there | apply Upd.assoc | apply Upd.left))) ?_
          refine JA.done (by kernel_rfl) ?_
          refine JQ.thenN ?_
          refine JC.seq ?_
          refine JC.region ?_
          refine JL.val rfl rfl rfl (.none rfl) (Ev.lB Tryd.underlying24 Tryd.sizeOf24) ?_
          refine JL.sto rfl rfl (.none rfl) (Es.storeA rfl rfl Tryd.sizeOf24 (by repeat (first | exact .here | apply Upd.there | apply Upd.assoc | apply Upd.left)) rfl rfl (fun u hu => by simp only [List.mem_singleton] at hu; subst hu; exact rowv_one _ _)) ?_
          refine JL.asg ?_
          refine JL.nil ?_
          refine JQ.thenN ?_
          refine JC.ret ?_
          refine JQ.end2 (H' := (Row.b 30 (some rn) ++ oeD 5 (os ++ [⟨x.k, q, x.l⟩]))) (.inl rfl) rfl (.agg rfl memK Tryd.underlying24 rfl Tryd.sizeOf24 rfl) (.tmp rfl) ?_ ?_
          · ((try dsimp only); (try rw [oeD_append, oeD_one]); exact Sub.of_cnt (fun a => by (try dsimp only); simp only [cntA]; omega))
          · exact ⟨.agg #[Row.v (os.length + 1) (some rn)], by rw [(ad_4 hok hv hfull).2] <;> rfl, some rn, os ++ [⟨x.k, q, x.l⟩], by rw [List.length_append]; rfl, rfl, by rw [List.length_append, oef_append, oef_one]; exact hrn, own_ok hok2 hq, by rw [(ad_4 hok hv hfull).1, List.map_append, he]; rfl⟩
        refine JAll.cons rfl ?_ JAll.nil
        refine JO.val rfl rfl rfl (.none rfl) (Ev.lB Tryd.underlying30 Tryd.sizeOf30) ?_
        refine JA.branch [1, 3] (by kernel_rfl) rfl ?_
        refine JAll.cons rfl ?_ ?_
        · -- 1
          refine JO.val rfl rfl rfl (.none rfl) (Ev.load1 (v := Row.v os.length r) rfl Tryd.underlying22 rfl (Rd.own memK rfl)) ?_
          refine JA.one 3 ?_
          refine JO.callN rfl (.none rfl) rfl Tryd.call57 (fun w1 hw1 => btwin_any x w1 (hx.old hw1) (by omega)) ?_
          rintro _ _ ⟨q, rfl, rfl, hq⟩
          refine JA.one 4 ?_
          refine JO.new rfl rfl rfl (.none rfl) (En.bs1E (o := ⟨x.k, q, x.l⟩) rfl Tryd.underlying22 Tryd.sizeOf30 Tryd.zeroValue30) (fun b29 hb29 => ?_)
          refine JA.one 5 ?_
          refine JO.gen rfl rfl rfl (.none rfl) (Eg.append1 (r := r) (n := os.length) (xs := oef os) (news := OE.cl ⟨x.k, q, x.l⟩) (z := (.agg #[.int .u8 0, .slice none 0 0])) (s := 2) (bytes := 32) rfl rfl rfl (by repeat (first | exact .last | exact .here | apply Cut.there | apply Cut.assoc | apply Cut.past)) Tryd.underlying22 (by kernel_rfl) rfl (by decide) (by decide) hr (Rds.all memK) rfl (by decide) (OE.one _) (by omega)) ?_
          rintro _ _ ⟨rn, rfl, rfl, hrn⟩
          refine JA.tk 6 rfl (.none rfl) (fun _ => (Ev.fld 0 rfl (fun _ _ => by kernel_rfl))) ?_
          refine JA.one 7 ?_
          refine JO.sto rfl rfl (.none rfl) (Es.store0 rfl rfl Tryd.sizeOf22 (rowv_cells _ _) (rowv_one _ _) (by repeat (first | exact .here | apply Upd.there | apply Upd.assoc | apply Upd.left))) ?_
          refine JA.done (by kernel_rfl) ?_
          refine JQ.thenN ?_
          refine JC.seq ?_
          refine JC.region ?_
          refine JL.val rfl rfl rfl (.none rfl) (Ev.lB Tryd.underlying24 Tryd.sizeOf24) ?_
          refine JL.sto rfl rfl (.none rfl) (Es.storeA rfl rfl Tryd.sizeOf24 (by repeat (first | exact .here | apply Upd.there | apply Upd.assoc | apply Upd.left)) rfl rfl (fun u hu => by simp only [List.mem_singleton] at hu; subst hu; exact rowv_one _ _)) ?_
          refine JL.asg ?_
          refine JL.nil ?_
          refine JQ.thenN ?_
          refine JC.ret ?_
          refine JQ.end2 (H' := (Row.b 30 (some rn) ++ oeD 5 (os ++ [⟨x.k, q, x.l⟩]))) (.inl rfl) rfl (.agg rfl memK Tryd.underlying24 rfl Tryd.sizeOf24 rfl) (.tmp rfl) ?_ ?_
          · ((try dsimp only); (try rw [oeD_append, oeD_one]); exact Sub.of_cnt (fun a => by (try dsimp only); simp only [cntA]; omega))
          · exact ⟨.agg #[Row.v (os.length + 1) (some rn)], by rw [(ad_4 hok hv hfull).2] <;> rfl, some rn, os ++ [⟨x.k, q, x.l⟩], by rw [List.length_append]; rfl, rfl, by rw [List.length_append, oef_append, oef_one]; exact hrn, own_ok hok2 hq, by rw [(ad_4 hok hv hfull).1, List.map_append, he]; rfl⟩
        refine JAll.cons rfl ?_ JAll.nil
        refine JO.callN rfl (.none rfl) rfl Tryd.call57 (fun w1 hw1 => btwin_any x w1 (hx.old hw1) (by omega)) ?_
        rintro _ _ ⟨q, rfl, rfl, hq⟩
        refine JA.branch [1, 4] (by kernel_rfl) rfl ?_
        refine JAll.cons rfl ?_ ?_
        · -- 1
          refine JO.val rfl rfl rfl (.none rfl) (Ev.load1 (v := Row.v os.length r) rfl Tryd.underlying22 rfl (Rd.own memK rfl)) ?_
          refine JA.one 4 ?_
          refine JO.new rfl rfl rfl (.none rfl) (En.bs1E (o := ⟨x.k, q, x.l⟩) rfl Tryd.underlying22 Tryd.sizeOf30 Tryd.zeroValue30) (fun b29 hb29 => ?_)
          refine JA.one 5 ?_
          refine JO.gen rfl rfl rfl (.none rfl) (Eg.append1 (r := r) (n := os.length) (xs := oef os) (news := OE.cl ⟨x.k, q, x.l⟩) (z := (.agg #[.int .u8 0, .slice none 0 0])) (s := 2) (bytes := 32) rfl rfl rfl (by repeat (first | exact .last | exact .here | apply Cut.there | apply Cut.assoc | apply Cut.past)) Tryd.underlying22 (by kernel_rfl) rfl (by decide) (by decide) hr (Rds.all memK) rfl (by decide) (OE.one _) (by omega)) ?_
          rintro _ _ ⟨rn, rfl, rfl, hrn⟩
          refine JA.tk 6 rfl (.none rfl) (fun _ => (Ev.fld 0 rfl (fun _ _ => by kernel_rfl))) ?_
          refine JA.one 7 ?_
          refine JO.sto rfl rfl (.none rfl) (Es.store0 rfl rfl Tryd.sizeOf22 (rowv_cells _ _) (rowv_one _ _) (by repeat (first | exact .here | apply Upd.there | apply Upd.assoc | apply Upd.left))) ?_
          refine JA.done (by kernel_rfl) ?_
          refine JQ.thenN ?_
          refine JC.seq ?_
          refine JC.region ?_
          refine JL.val rfl rfl rfl (.none rfl) (Ev.lB Tryd.underlying24 Tryd.sizeOf24) ?_
          refine JL.sto rfl rfl (.none rfl) (Es.storeA rfl rfl Tryd.sizeOf24 (by repeat (first | exact .here | apply Upd.there | apply Upd.assoc | apply Upd.left)) rfl rfl (fun u hu => by simp only [List.mem_singleton] at hu; subst hu; exact rowv_one _ _)) ?_
          refine JL.asg ?_
          refine JL.nil ?_
          refine JQ.thenN ?_
          refine JC.ret ?_
          refine JQ.end2 (H' := (Row.b 30 (some rn) ++ oeD 5 (os ++ [⟨x.k, q, x.l⟩]))) (.inl rfl) rfl (.agg rfl memK Tryd.underlying24 rfl Tryd.sizeOf24 rfl) (.tmp rfl) ?_ ?_
          · ((try dsimp only); (try rw [oeD_append, oeD_one]); exact Sub.of_cnt (fun a => by (try dsimp only); simp only [cntA]; omega))
          · exact ⟨.agg #[Row.v (os.length + 1) (some rn)], by rw [(ad_4 hok hv hfull).2] <;> rfl, some rn, os ++ [⟨x.k, q, x.l⟩], by rw [List.length_append]; rfl, rfl, by rw [List.length_append, oef_append, oef_one]; exact hrn, own_ok hok2 hq, by rw [(ad_4 hok hv hfull).1, List.map_append, he]; rfl⟩
        refine JAll.cons rfl ?_ JAll.nil
        refine JO.new rfl rfl rfl (.none rfl) (En.bs1E (o := ⟨x.k, q, x.l⟩) rfl Tryd.underlying22 Tryd.sizeOf30 Tryd.zeroValue30) (fun b29 hb29 => ?_)
        refine JA.one 1 ?_
        refine JO.val rfl rfl rfl (.none rfl) (Ev.load1 (v := Row.v os.length r) rfl Tryd.underlying22 rfl (Rd.own memK rfl)) ?_
        refine JA.one 5 ?_
        refine JO.gen rfl rfl rfl (.none rfl) (Eg.append1 (r := r) (n := os.length) (xs := oef os) (news := OE.cl ⟨x.k, q, x.l⟩) (z := (.agg #[.int .u8 0, .slice none 0 0])) (s := 2) (bytes := 32) rfl rfl rfl (by repeat (first | exact .last | exact .here | apply Cut.there | apply Cut.assoc | apply Cut.past)) Tryd.underlying22 (by kernel_rfl) rfl (by decide) (by decide) hr (Rds.all memK) rfl (by decide) (OE.one _) (by omega)) ?_
        rintro _ _ ⟨rn, rfl, rfl, hrn⟩
        refine JA.tk 6 rfl (.none rfl) (fun _ => (Ev.fld 0 rfl (fun _ _ => by kernel_rfl))) ?_
        refine JA.one 7 ?_
        refine JO.sto rfl rfl (.none rfl) (Es.store0 rfl rfl Tryd.sizeOf22 (rowv_cells _ _) (rowv_one _ _) (by repeat (first | exact .here | apply Upd.there | apply Upd.assoc | apply Upd.left))) ?_
        refine JA.done (by kernel_rfl) ?_
        refine JQ.thenN ?_
        refine JC.seq ?_
        refine JC.region ?_
        refine JL.val rfl rfl rfl (.none rfl) (Ev.lB Tryd.underlying24 Tryd.sizeOf24) ?_
        refine JL.sto rfl rfl (.none rfl) (Es.storeA rfl rfl Tryd.sizeOf24 (by repeat (first | exact .here | apply Upd.there | apply Upd.assoc | apply Upd.left)) rfl rfl (fun u hu => by simp only [List.mem_singleton] at hu; subst hu; exact rowv_one _ _)) ?_
        refine JL.asg ?_
        refine JL.nil ?_
        refine JQ.thenN ?_
        refine JC.ret ?_
        refine JQ.end2 (H' := (Row.b 30 (some rn) ++ oeD 5 (os ++ [⟨x.k, q, x.l⟩]))) (.inl rfl) rfl (.agg rfl memK Tryd.underlying24 rfl Tryd.sizeOf24 rfl) (.tmp rfl) ?_ ?_
        · ((try dsimp only); (try rw [oeD_append, oeD_one]); exact Sub.of_cnt (fun a => by (try dsimp only); simp only [cntA]; omega))
        · exact ⟨.agg #[Row.v (os.length + 1) (some rn)], by rw [(ad_4 hok hv hfull).2] <;> rfl, some rn, os ++ [⟨x.k, q, x.l⟩], by rw [List.length_append]; rfl, rfl, by rw [List.length_append, oef_append, oef_one]; exact hrn, own_ok hok2 hq, by rw [(ad_4 hok hv hfull).1, List.map_append, he]; rfl⟩

theorem entry_any (o : Option Addr) (cap : Nat) (l : List UInt8) (w : World) :
    Calls Tryd.prog 13 #[.slice o l.length cap] w (Ret w (fun v _ => v = .agg (Et.cl ⟨5, o, cap, l⟩).toArray)) := by
  refine enter (vs := [.slice o l.length cap]) Tryd.func13 rfl Tryd.ntmps13 rfl ?_
  refine JC.seq ?_
  refine JC.region ?_
  refine JL.new rfl rfl rfl (.none rfl) (En.allocZ (cs := #[u8 0, .slice none 0 0]) Tryd.zeroValue30 rfl) (fun b2 hb2 => ?_)
  refine JL.nil ?_
  refine JQ.thenN ?_
  refine JC.seq ?_
  refine JC.region ?_
  refine JL.mv ?_
  refine JL.val rfl rfl rfl (.none rfl) (Ev.bu2 (v1 := u8 5) rfl rfl rfl rfl Tryd.underlying30 (fun _ => by kernel_rfl) Tryd.zeroValue30) ?_
  refine JL.sto rfl rfl (.none rfl) (Es.storeA rfl rfl Tryd.sizeOf30 Upd.k rfl rfl (Et.one ⟨5, o, cap, l⟩)) ?_
  refine JL.nil ?_
  refine JQ.thenN ?_
  refine JC.ret ?_
  refine JQ.end1 (H' := []) (.inl rfl) rfl (.agg rfl memK Tryd.underlying30 rfl Tryd.sizeOf30 rfl) ?_ ?_
  · exact Sub.k
  · rfl

theorem balive_any (w : World) (hk : KMem 1 w) (hf : FMem 0 w) :
    Calls Tryd.prog 23 #[] w (Ret w (fun v _ => v = .bool true)) := by
  refine enter (vs := []) Tryd.func23 rfl Tryd.ntmps23 rfl ?_
  refine JC.seq ?_
  refine JC.region ?_
  refine JL.asg ?_
  refine JL.nil ?_
  refine JQ.thenN ?_
  refine JC.seq ?_
  refine JC.region ?_
  refine JL.val rfl rfl rfl (.none rfl) (Ev.build (parts := []) (vs := []) (cs := #[.slice none 0 0]) (fun _ _ => rfl) (fun _ => by kernel_rfl)) ?_
  refine JL.callV rfl (.none rfl) rfl Tryd.call34 (fun w1 hw1 => bRoot_any none 0 [] w1 bd_nil (hk.old hw1) (hf.old hw1)) ?_
  refine JL.mv ?_
  refine JL.val rfl rfl rfl (.none rfl) (Ev.ex0 rfl) ?_
  refine JL.val rfl rfl rfl (.none rfl) (Ev.ex1 rfl) ?_
  refine JL.new rfl rfl rfl (.none rfl) (En.allocZ (cs := arr8 (List.replicate 32 0)) Tryd.zeroValue33 rfl) (fun b1 hb1 => ?_)
  refine JL.sto rfl rfl (.none rfl) (Es.sA Tryd.sizeOf33) ?_
  refine JL.asg ?_
  refine JL.nil ?_
  refine JQ.thenN ?_
  refine JC.seq ?_
  refine JC.region ?_
  refine JL.callV rfl (.none rfl) rfl Tryd.call66 (fun w1 hw1 => Sum_any none 0 [] w1 bs_nil (Nat.zero_le _) (hk.old hw1) (hf.old hw1)) ?_
  refine JL.mv ?_
  refine JL.val rfl rfl rfl (.none rfl) (Ev.ex0 rfl) ?_
  refine JL.val rfl rfl rfl (.none rfl) (Ev.ex1 rfl) ?_
  refine JL.new rfl rfl rfl (.none rfl) (En.allocZ (cs := arr8 (List.replicate 32 0)) Tryd.zeroValue33 rfl) (fun b3 hb3 => ?_)
  refine JL.sto rfl rfl (.none rfl) (Es.sA Tryd.sizeOf33) ?_
  refine JL.asg ?_
  refine JL.nil ?_
  refine JQ.thenN ?_
  refine JC.seq ?_
  refine JC.region ?_
  refine JL.val rfl rfl rfl (.none rfl) (Ev.build (parts := []) (vs := []) (cs := #[.slice none 0 0]) (fun _ _ => rfl) (fun _ => by kernel_rfl)) ?_
  refine JL.new rfl rfl rfl (.none rfl) (En.bsN (e := 5) rfl (fun _ => by kernel_rfl)) (fun b22 hb22 => ?_)
  refine JL.callV rfl (.none rfl) rfl Tryd.call13 (fun w1 hw1 => entry_any (some ⟨b22, 0, none⟩) 2 [1, 2] w1) ?_
  refine JL.callN rfl (.none rfl) rfl Tryd.call12 (fun w1 hw1 => bAdd_any none 0 [] ⟨5, some ⟨b22, 0, none⟩, 2, [1, 2]⟩ w1 bd_nil ((cs_block (xs := ([1, 2] : List UInt8).map u8) hw1 (by repeat (first | exact List.Mem.head _ | refine List.Mem.tail _ ?_ | refine List.mem_append_right _ ?_)) (show 2 ≤ 1000000 by decide)).bs rfl)) ?_
  rintro _ _ ⟨z, rfl, r1, os, rfl, rfl, hr1, hok1, he1⟩
  refine JL.mv ?_
  refine JL.val rfl rfl rfl (.none rfl) (Ev.ex0 rfl) ?_
  refine JL.val rfl rfl rfl (.none rfl) (Ev.ex1 rfl) ?_
  refine JL.new rfl rfl rfl (.none rfl) (En.allocZ (cs := #[.slice none 0 0]) Tryd.zeroValue24 rfl) (fun b5 hb5 => ?_)
  refine JL.sto rfl rfl (.none rfl) (Es.storeA rfl rfl Tryd.sizeOf24 (by repeat (first | exact .here | apply Upd.there | apply Upd.assoc | apply Upd.left)) rfl rfl (fun u hu => by simp only [List.mem_singleton] at hu; subst hu; exact rowv_one _ _)) ?_
  refine JL.asg ?_
  refine JL.nil ?_
  refine JQ.thenN ?_
  refine JC.seq ?_
  refine JC.region ?_
  obtain ⟨o1, c1, xs1, _, ev1, em1, hB1⟩ := own_bd (e := 30) (t := 5) hr1 hok1
  have hxe : xs1.map Et.e = [(5, [1, 2])] := em1.trans (he1.trans ad_alive)
  have hx1 : xs1.length = 1 := by have := congrArg List.length hxe; simpa using this
  refine JL.reH (b := b5) (o' := Obj.cells #[.slice o1 xs1.length c1] 24 (0, 0)) (by repeat (first | exact .here | apply Upd.there | apply Upd.assoc | apply Upd.left)) (by rw [ev1]) ?_
  refine JL.val rfl rfl rfl (.none rfl) (Ev.loadB rfl memK Tryd.underlying24 rfl Tryd.sizeOf24 rfl) ?_
  refine JL.callV rfl (.none rfl) rfl Tryd.call34 (fun w1 hw1 => bRoot_any o1 c1 xs1 w1 (hB1 w1 hw1 (fun p hp => by rcases List.mem_append.1 hp with hp | hp <;> simp [hp])) (hk.old hw1) (hf.old hw1)) ?_
  refine JL.mv ?_
  refine JL.val rfl rfl rfl (.none rfl) (Ev.ex0 rfl) ?_
  refine JL.val rfl rfl rfl (.none rfl) (Ev.ex1 rfl) ?_
  refine JL.new rfl rfl rfl (.none rfl) (En.allocZ (cs := arr8 (List.replicate 32 0)) Tryd.zeroValue33 rfl) (fun b7 hb7 => ?_)
  refine JL.sto rfl rfl (.none rfl) (Es.sA Tryd.sizeOf33) ?_
  refine JL.asg ?_
  refine JL.nil ?_
  refine JQ.thenN ?_
  refine JC.seq ?_
  refine JC.region ?_
  refine JL.new rfl rfl rfl (.none rfl) (En.bsN (e := 5) rfl (fun _ => by kernel_rfl)) (fun b33 hb33 => ?_)
  refine JL.callV rfl (.none rfl) rfl Tryd.call67 (fun w1 hw1 => bleafS_any (some ⟨b33, 0, none⟩) 3 [5, 1, 2] w1 ((cs_block (xs := ([5, 1, 2] : List UInt8).map u8) hw1 (by repeat (first | exact List.Mem.head _ | refine List.Mem.tail _ ?_ | refine List.mem_append_right _ ?_)) (show 3 ≤ 1000000 by decide)).bs rfl) (by decide) (hk.old hw1) (hf.old hw1)) ?_
  refine JL.mv ?_
  refine JL.val rfl rfl rfl (.none rfl) (Ev.ex0 rfl) ?_
  refine JL.val rfl rfl rfl (.none rfl) (Ev.ex1 rfl) ?_
  refine JL.new rfl rfl rfl (.none rfl) (En.allocZ (cs := arr8 (List.replicate 32 0)) Tryd.zeroValue33 rfl) (fun b9 hb9 => ?_)
  refine JL.sto rfl rfl (.none rfl) (Es.sA Tryd.sizeOf33) ?_
  refine JL.asg ?_
  refine JL.nil ?_
  refine JQ.thenN ?_
  refine JC.seq ?_
  refine JC.region ?_
  refine JL.re (d := 2) (v' := .int .i64 0) rfl (congrArg (Value.int .i64) (by decide)) ?_
  refine JL.re (d := 4) (v' := .int .i64 0) rfl (congrArg (Value.int .i64) (by decide)) ?_
  refine JL.re (d := 6) (v' := .int .i64 0) rfl (congrArg (Value.int .i64) (show adE [] (5, [1, 2]) = 0 from by decide)) ?_
  refine JL.re (d := 8) (v' := .int .i64 0) rfl (congrArg (Value.int .i64) (by rw [hxe]; decide)) ?_
  refine JL.mv ?_
  refine JL.val rfl rfl rfl (.none rfl) (Ev.bin rfl rfl eql_int) ?_
  refine JL.mv ?_
  refine JL.know (d := 39) (b := true) rfl ?_ ?_
  · first | rfl | exact decide_eq_true rfl | exact decide_eq_true (shaO_small (by decide)).symm | exact decide_eq_true (by rw [hxe]; exact alive_root)
  refine JL.val rfl rfl rfl (.yes rfl rfl rfl) (Ev.move rfl) ?_
  refine JL.val rfl rfl rfl (.yes rfl rfl rfl) (Ev.bin rfl rfl eql_int) ?_
  refine JL.val rfl rfl rfl (.none rfl) (Ev.pickT rfl rfl) ?_
  refine JL.mv ?_
  refine JL.know (d := 43) (b := true) rfl ?_ ?_
  · first | rfl | exact decide_eq_true rfl | exact decide_eq_true (shaO_small (by decide)).symm | exact decide_eq_true (by rw [hxe]; exact alive_root)
  refine JL.val rfl rfl rfl (.yes rfl rfl rfl) (Ev.lB Tryd.underlying33 Tryd.sizeOf33) ?_
  refine JL.val rfl rfl rfl (.yes rfl rfl rfl) (Ev.lB Tryd.underlying33 Tryd.sizeOf33) ?_
  refine JL.val rfl rfl rfl (.yes rfl rfl rfl) (Ev.bin rfl rfl (eql_arr8 (n := 32) Tryd.underlying33 Tryd.underlying5 (by kernel_rfl) (by kernel_rfl) (by first | rfl | exact dig_len _ | assumption | exact sha_length _ | exact shaO_length _) (by first | rfl | exact dig_len _ | assumption | exact sha_length _ | exact shaO_length _))) ?_
  refine JL.val rfl rfl rfl (.none rfl) (Ev.pickT rfl rfl) ?_
  refine JL.mv ?_
  refine JL.know (d := 48) (b := true) rfl ?_ ?_
  · first | rfl | exact decide_eq_true rfl | exact decide_eq_true (shaO_small (by decide)).symm | exact decide_eq_true (by rw [hxe]; exact alive_root)
  refine JL.val rfl rfl rfl (.yes rfl rfl rfl) (Ev.move rfl) ?_
  refine JL.val rfl rfl rfl (.yes rfl rfl rfl) (Ev.bin rfl rfl eql_int) ?_
  refine JL.val rfl rfl rfl (.none rfl) (Ev.pickT rfl rfl) ?_
  refine JL.mv ?_
  refine JL.know (d := 52) (b := true) rfl ?_ ?_
  · first | rfl | exact decide_eq_true rfl | exact decide_eq_true (shaO_small (by decide)).symm | exact decide_eq_true (by rw [hxe]; exact alive_root)
  refine JL.val rfl rfl rfl (.yes rfl rfl rfl) (Ev.move rfl) ?_
  refine JL.val rfl rfl rfl (.yes rfl rfl rfl) (Ev.bin rfl rfl eql_int) ?_
  refine JL.val rfl rfl rfl (.none rfl) (Ev.pickT rfl rfl) ?_
  refine JL.mv ?_
  refine JL.know (d := 56) (b := true) rfl ?_ ?_
  · first | rfl | exact decide_eq_true rfl | exact decide_eq_true (shaO_small (by decide)).symm | exact decide_eq_true (by rw [hxe]; exact alive_root)
  refine JL.val rfl rfl rfl (.yes rfl rfl rfl) (Ev.move rfl) ?_
  refine JL.val rfl rfl rfl (.yes rfl rfl rfl) (Ev.bin rfl rfl eql_int) ?_
  refine JL.val rfl rfl rfl (.none rfl) (Ev.pickT rfl rfl) ?_
  refine JL.mv ?_
  refine JL.know (d := 60) (b := true) rfl ?_ ?_
  · first | rfl | exact decide_eq_true rfl | exact decide_eq_true (shaO_small (by decide)).symm | exact decide_eq_true (by rw [hxe]; exact alive_root)
  refine JL.val rfl rfl rfl (.yes rfl rfl rfl) (Ev.lB Tryd.underlying33 Tryd.sizeOf33) ?_
  refine JL.val rfl rfl rfl (.yes rfl rfl rfl) (Ev.lB Tryd.underlying33 Tryd.sizeOf33) ?_
  refine JL.val rfl rfl rfl (.yes rfl rfl rfl) (Ev.bin rfl rfl (eql_arr8 (n := 32) Tryd.underlying33 Tryd.underlying5 (by kernel_rfl) (by kernel_rfl) (by first | rfl | exact dig_len _ | assumption | exact sha_length _ | exact shaO_length _) (by first | rfl | exact dig_len _ | assumption | exact sha_length _ | exact shaO_length _))) ?_
  refine JL.val rfl rfl rfl (.none rfl) (Ev.pickT rfl rfl) ?_
  refine JL.mv ?_
  refine JL.know (d := 65) (b := true) rfl ?_ ?_
  · first | rfl | exact decide_eq_true rfl | exact decide_eq_true (shaO_small (by decide)).symm | exact decide_eq_true (by rw [hxe]; exact alive_root)
  refine JL.val rfl rfl rfl (.yes rfl rfl rfl) (Ev.fld 0 rfl (fun _ _ => by kernel_rfl)) ?_
  refine JL.val rfl rfl rfl (.yes rfl rfl rfl) (Ev.load1 rfl Tryd.underlying22 rfl (Rd.own memK rfl)) ?_
  refine JL.val rfl rfl rfl (.yes rfl rfl rfl) (Ev.lenS rfl Tryd.underlying22) ?_
  refine JL.val rfl rfl rfl (.yes rfl rfl rfl) (Ev.bin rfl rfl eql_int) ?_
  refine JL.val rfl rfl rfl (.none rfl) (Ev.pickT rfl rfl) ?_
  refine JL.asg ?_
  refine JL.nil ?_
  refine JQ.thenN ?_
  refine JC.ret ?_
  refine JQ.end1 (H' := []) (.inl rfl) rfl (.tmp rfl) ?_ ?_
  · exact Sub.k
  · exact congrArg Value.bool (decide_eq_true (by rw [hx1]; rfl))

end Go.Proofs.YtopaednfjjjnbaaDoor
