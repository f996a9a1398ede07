/-
  Boards: the law that appending keeps all earlier entries and returns memory of its own.
-/
import Derived.Test.YtopaednfjjjnbaaDoorBrd4
namespace Go.Proofs.YtopaednfjjjnbaaDoor
open Go Go.RowKit
set_option maxRecDepth 100000

theorem JC.subH2 {c : Cx} {σ : Slots} {H H' : Blocks} {x : Code} {Q : Post1} (hs : Sub H' H) (h : JC c σ H' x Q) : JC c σ H x Q := fun a w hf hw => h a w hf (hw.sub hs)
theorem add8 {P : Program} {T : TypeId} {x y : UInt8} : Bin P .add T (u8 x) (u8 y) (u8 (x + y)) := Bin.int fun w => by
  have h : IntKind.u8.wrap ((x.toNat : Int) + (y.toNat : Int)) = ((x + y).toNat : Int) := by
    rw [IntKind.wrap_u8, UInt8.toNat_add]
    omega
  simp [binOp, Op.intArith, u8, h]
section
variable {c : Cx} {σ : Slots} {H : Blocks} {ty : TypeId} {pos : String} {af : Array Edge} {gd : Option (Nat × Bool)} {dst : Option Nat}
theorem Ev.lenRow2 {T : TypeId} {x : Operand} {n : Nat} {r : Option Row} {e : TypeId} (hx : ev σ x = some (Row.v n r)) (hu : c.P.underlying T = some (.slice e)) {s : Nat} {xs : List Value} (hr : Row.ok s n xs r) : Ev c σ H ⟨dst, .call { callee := .builtin .len, args := #[x], argTypes := #[T] }, ty, pos, af, gd⟩ (.int .i64 (n : Int)) := by
  cases r with
  | none => obtain rfl := hr.1; exact Ev.lenS hx hu
  | some q => exact Ev.lenS hx hu
theorem Ev.idxS0k {T e : TypeId} {x y : Operand} {ik : IntKind} {g len cap k s : Nat} {i : Int} (hx : ev σ x = some (.slice (some ⟨g, 0, none⟩) len cap)) (hy : ev σ y = some (.int ik i)) (hu : c.P.underlying T = some (.slice e)) (hs : ∀ w, (sizeOf e).run c.P w = .ok s w)
    (hi : i = (k : Int)) (hk : k < len) : Ev c σ H ⟨dst, .indexAddr T x y, ty, pos, af, gd⟩ (.pointer (some ⟨g, k * s, none⟩)) := by
  have h := Ev.idxS (c := c) (σ := σ) (H := H) (ty := ty) (pos := pos) (af := af) (gd := gd) (dst := dst) hx hy hu hs hi hk
  rwa [add_lit, Nat.zero_add] at h
end
theorem ad_zero {xs : List Ent} {x : Ent} (h : adE xs x = 0) : okB xs ∧ okE x = true ∧ adV xs x = xs ++ [x] := by
  by_cases h1 : okB xs
  · by_cases h2 : okE x = true
    · by_cases h3 : xs.length = 1024
      · rw [(ad_3 h1 h2 h3).2] at h; cases h
      · exact ⟨h1, h2, (ad_4 h1 h2 h3).1⟩
    · rw [(ad_2 h1 (by simpa using h2)).2] at h; cases h
  · rw [(ad_1 h1).2] at h; cases h
theorem ad_nil {xs : List Ent} {x : Ent} (h : ¬ adE xs x = 0) : adV xs x = [] := by
  by_cases h1 : okB xs
  · by_cases h2 : okE x = true
    · by_cases h3 : xs.length = 1024
      · exact (ad_3 h1 h2 h3).1
      · exact absurd (ad_4 h1 h2 h3).2 h
    · exact (ad_2 h1 (by simpa using h2)).1
  · exact (ad_1 h1).1
theorem split_at {α : Type} {l : List α} {i : Nat} (h : i < l.length) : ∃ A o B, l = A ++ o :: B ∧ A.length = i :=
  ⟨l.take i, l[i], l.drop (i + 1), by rw [← List.drop_eq_getElem_cons h, List.take_append_drop], by rw [List.length_take]; omega⟩
theorem oeD_mid (t : TypeId) (A : List OE) (o : OE) (B : List OE) (a : Nat × Obj) : cnt a (oeD t (A ++ o :: B)) = cnt a (Row.b t o.q) + (cnt a (oeD t A) + cnt a (oeD t B)) := by
  rw [oeD_append, show oeD t (o :: B) = Row.b t o.q ++ oeD t B from rfl, cnt_append, cnt_append]
  omega
section
variable {A B : List OE} {o : OE} {g cap : Nat} {cs : Array Value}
theorem own_size (h : Row.ok 2 (A ++ o :: B).length (oef (A ++ o :: B)) (some ⟨g, cap, cs⟩)) : A.length * 2 + 1 < cs.size := by
  have h1 : cs.size = cap * 2 := h.2.2.2.1
  have h2 : (A ++ o :: B).length ≤ cap := h.2.1
  rw [List.length_append, List.length_cons] at h2
  omega
theorem own_cell (h : Row.ok 2 (A ++ o :: B).length (oef (A ++ o :: B)) (some ⟨g, cap, cs⟩)) : cs[A.length * 2 + 1]? = some (Row.v o.l.length o.q) := by
  have h1 : cs.toList.take ((A ++ o :: B).length * 2) = oef (A ++ o :: B) := h.2.2.2.2
  have h2 : (oef (A ++ o :: B))[A.length * 2 + 1]? = some (Row.v o.l.length o.q) := by
    rw [oef_append, List.getElem?_append_right (by rw [oef_length]; omega), oef_length, show A.length * 2 + 1 - A.length * 2 = 1 by omega]
    rfl
  rw [← h1, List.getElem?_take] at h2
  split at h2
  · simpa using h2
  · cases h2
theorem own_kind {p : Option Row} {l : List UInt8} (h : Row.ok 2 (A ++ o :: B).length (oef (A ++ o :: B)) (some ⟨g, cap, cs⟩)) (hv : Row.v l.length p = Row.v o.l.length o.q) :
    Row.ok 2 (A ++ ⟨0, p, l⟩ :: B).length (oef (A ++ ⟨0, p, l⟩ :: B)) (some ⟨g, cap, cs.setIfInBounds (A.length * 2) (u8 0)⟩) := by
  have hl : (A ++ ⟨0, p, l⟩ :: B).length = (A ++ o :: B).length := by rw [List.length_append, List.length_append]; rfl
  have e : oef (A ++ ⟨0, p, l⟩ :: B) = (oef (A ++ o :: B)).set (A.length * 2) (u8 0) := by
    rw [oef_append, oef_append, List.set_append_right _ _ (by rw [oef_length]; exact Nat.le_refl _), oef_length, Nat.sub_self]
    congr 1
    show [u8 0, Row.v l.length p] ++ oef B = ([u8 o.k, Row.v o.l.length o.q] ++ oef B).set 0 (u8 0)
    rw [hv]
    rfl
  obtain ⟨h1, h2, h3, h4, h5⟩ := h
  refine ⟨by rw [oef_length], by rw [hl]; exact h2, h3, by simpa using h4, ?_⟩
  show (cs.setIfInBounds (A.length * 2) (u8 0)).toList.take ((A ++ ⟨0, p, l⟩ :: B).length * 2) = _
  have h5' : cs.toList.take ((A ++ o :: B).length * 2) = oef (A ++ o :: B) := h5
  rw [hl, Array.toList_setIfInBounds, List.take_set, h5', e]
theorem own_put {p : Option Row} {l : List UInt8} {k : UInt8} (h : ∀ x ∈ A ++ o :: B, x.ok) (hp : Row.ok 1 l.length (l.map u8) p) : ∀ x ∈ A ++ ⟨k, p, l⟩ :: B, x.ok := fun x hx => by
  rcases List.mem_append.1 hx with hx | hx
  · exact h x (List.mem_append_left _ hx)
  · rcases List.mem_cons.1 hx with rfl | hx
    · exact hp
    · exact h x (List.mem_append_right _ (List.mem_cons_of_mem _ hx))
end
theorem own_bdS {e t : TypeId} {os : List OE} {R : Row} (h : Row.ok 2 os.length (oef os) (some R)) (ho : ∀ x ∈ os, x.ok) :
    ∃ xs : List Et, xs.length = os.length ∧ xs.map Et.e = os.map OE.e ∧ ∀ {w0 : World} {H : Blocks} (w : World), Hp w0 H w → (∀ p ∈ Row.b e (some R) ++ oeD t os, p ∈ H) → Bd w (some ⟨R.g, 0, none⟩) R.cap xs := by
  obtain ⟨oa, cap, xs, e1, e2, e3, hB⟩ := own_bd (e := e) (t := t) h ho
  have hl : xs.length = os.length := by rw [e1, List.length_map]
  rw [Row.v] at e2
  injection e2 with e4 e5 e6
  subst e4 e6
  exact ⟨xs, hl, e3, hB⟩
theorem own_parts {xs ys : List Et} {x : Et} (h : ys.map Et.e = xs.map Et.e ++ [x.e]) : (ys.take xs.length).map Et.e = xs.map Et.e ∧ ∃ y, ys[xs.length]? = some y ∧ y.e = x.e := by
  refine ⟨by rw [List.map_take, h, List.take_left' (by rw [List.length_map])], ?_⟩
  have h1 : (ys.map Et.e)[xs.length]? = some x.e := by
    rw [h, List.getElem?_append_right (by rw [List.length_map]; exact Nat.le_refl _), List.length_map, Nat.sub_self]
    rfl
  rw [List.getElem?_map] at h1
  obtain ⟨y, hy, he⟩ := Option.map_eq_some_iff.1 h1
  exact ⟨y, hy, he⟩

theorem lawKeeps_any (oa : Option Addr) (cap : Nat) (xs : List Et) (x : Et) (w : World) (hb : Bd w oa cap xs) (hx : Bs w x.o x.cap x.l) (hk : KMem 1 w) (hf : FMem 0 w) :
    Calls Tryd.prog 4 #[.agg #[.slice oa xs.length cap], .agg x.cl.toArray] w (Ret w (fun v _ => v = .bool true)) := by
  refine enter (vs := [.agg #[.slice oa xs.length cap], .agg x.cl.toArray]) Tryd.func4 rfl Tryd.ntmps4 rfl ?_
  refine JC.seq ?_
  refine JC.region ?_
  refine JL.new rfl rfl rfl (.none rfl) (En.boxA rfl) (fun b2 hb2 => ?_)
  refine JL.new rfl rfl rfl (.none rfl) (En.boxA rfl) (fun b3 hb3 => ?_)
  refine JL.asg ?_
  refine JL.nil ?_
  refine JQ.thenN ?_
  refine JC.seq ?_
  refine JC.region ?_
  refine JL.callV rfl (.none rfl) rfl Tryd.call23 (fun w1 hw1 => balive_any w1 (hk.old hw1) (hf.old hw1)) ?_
  refine JL.asg ?_
  refine JL.nil ?_
  refine JQ.thenN ?_
  refine JC.seq ?_
  refine JC.seq ?_
  refine JC.region ?_
  refine JL.val rfl rfl rfl (.none rfl) (Ev.lB Tryd.underlying24 Tryd.sizeOf24) ?_
  refine JL.callN rfl (.none rfl) rfl Tryd.call26 (fun w1 hw1 => bgreat_any oa cap xs w1 (hb.old hw1)) ?_
  rintro _ _ ⟨gr, rfl, hgr⟩
  refine JL.mv ?_
  refine JL.split (d := 16) rfl (fun hgA => ?_) (fun hgA => ?_)
  · -- guard 16 true
    refine JL.skip rfl rfl (.noF rfl rfl rfl) ?_
    refine JL.skip rfl rfl (.noF rfl rfl rfl) ?_
    refine JL.skip rfl rfl (.noF rfl rfl rfl) ?_
    refine JL.skip rfl rfl (.noF rfl rfl rfl) ?_
    refine JL.val rfl rfl rfl (.none rfl) (Ev.pickT rfl rfl) ?_
    refine JL.mv ?_
    refine JL.skip rfl rfl (.noF rfl rfl rfl) ?_
    refine JL.skip rfl rfl (.noF rfl rfl rfl) ?_
    refine JL.val rfl rfl rfl (.none rfl) (Ev.pickT rfl rfl) ?_
    refine JL.nil ?_
    refine JQ.thenN ?_
    refine JC.condT rfl ?_
    refine JC.seq ?_
    refine JC.region ?_
    refine JL.mv ?_
    refine JL.asg ?_
    refine JL.nil ?_
    refine JQ.thenN ?_
    refine JC.ret ?_
    refine JQ.thenR ?_
    refine JQ.end1 (H' := []) (.inl rfl) rfl (.tmp rfl) ?_ ?_
    · exact Sub.k
    · first | rfl | exact congrArg Value.bool (decide_eq_true rfl) | exact congrArg Value.bool (decide_eq_true (OE.et_e _))
  · -- guard 16 false
    refine JL.val rfl rfl rfl (.yes rfl rfl rfl) (Ev.fld 1 rfl (fun _ _ => by kernel_rfl)) ?_
    refine JL.val rfl rfl rfl (.yes rfl rfl rfl) (Ev.load1 rfl Tryd.underlying28 rfl (Rd.own (cs := x.cl.toArray) memK rfl)) ?_
    refine JL.val rfl rfl rfl (.yes rfl rfl rfl) (Ev.lenS rfl Tryd.underlying28) ?_
    refine JL.val rfl rfl rfl (.yes rfl rfl rfl) (Ev.bin rfl rfl gtr_int) ?_
    refine JL.val rfl rfl rfl (.none rfl) (Ev.pickF rfl rfl) ?_
    refine JL.mv ?_
    refine JL.split (d := 22) rfl (fun hgB => ?_) (fun hgB => ?_)
    · -- guard 22 true
      refine JL.skip rfl rfl (.noF rfl rfl rfl) ?_
      refine JL.skip rfl rfl (.noF rfl rfl rfl) ?_
      refine JL.val rfl rfl rfl (.none rfl) (Ev.pickT rfl rfl) ?_
      refine JL.nil ?_
      refine JQ.thenN ?_
      refine JC.condT rfl ?_
      refine JC.seq ?_
      refine JC.region ?_
      refine JL.mv ?_
      refine JL.asg ?_
      refine JL.nil ?_
      refine JQ.thenN ?_
      refine JC.ret ?_
      refine JQ.thenR ?_
      refine JQ.end1 (H' := []) (.inl rfl) rfl (.tmp rfl) ?_ ?_
      · exact Sub.k
      · first | rfl | exact congrArg Value.bool (decide_eq_true rfl) | exact congrArg Value.bool (decide_eq_true (OE.et_e _))
    · -- guard 22 false
      have hgB := of_decide_eq_false hgB
      refine JL.val rfl rfl rfl (.yes rfl rfl rfl) (Ev.move rfl) ?_
      refine JL.val rfl rfl rfl (.yes rfl rfl rfl) (Ev.not rfl) ?_
      refine JL.val rfl rfl rfl (.none rfl) (Ev.pickF rfl rfl) ?_
      refine JL.nil ?_
      refine JQ.thenN ?_
      refine JC.knowF rfl ?_ ?_
      · rfl
      refine JC.skip ?_
      refine JQ.thenN ?_
      refine JC.seq ?_
      refine JC.region ?_
      refine JL.val rfl rfl rfl (.none rfl) (Ev.lB Tryd.underlying24 Tryd.sizeOf24) ?_
      refine JL.val rfl rfl rfl (.none rfl) (Ev.lB Tryd.underlying30 Tryd.sizeOf30) ?_
      refine JL.callN rfl (.none rfl) rfl Tryd.call12 (fun w1 hw1 => bAdd_any oa cap xs x w1 (hb.old hw1) (hx.old hw1)) ?_
      rintro _ _ ⟨z, rfl, rc, osc, rfl, rfl, hrc, hokc, hec⟩
      refine JL.mv ?_
      refine JL.val rfl rfl rfl (.none rfl) (Ev.ex0 rfl) ?_
      refine JL.val rfl rfl rfl (.none rfl) (Ev.ex1 rfl) ?_
      refine JL.new rfl rfl rfl (.none rfl) (En.allocZ (cs := #[.slice none 0 0]) Tryd.zeroValue24 rfl) (fun b6 hb6 => ?_)
      refine JL.sto rfl rfl (.none rfl) (Es.storeA rfl rfl Tryd.sizeOf24 Upd.k rfl rfl (fun u hu => by simp only [List.mem_singleton] at hu; subst hu; exact rowv_one _ _)) ?_
      refine JL.asg ?_
      refine JL.nil ?_
      refine JQ.thenN ?_
      refine JC.seq ?_
      refine JC.seq ?_
      refine JC.region ?_
      refine JL.mv ?_
      refine JL.val rfl rfl rfl (.none rfl) (Ev.bin rfl rfl neq_int) ?_
      refine JL.nil ?_
      refine JQ.thenN ?_
      refine JC.cond rfl (fun hc1 => ?_) (fun hc1 => ?_)
      · -- t34 True
        replace hc1 := of_decide_eq_true hc1
        have hnil := ad_nil (xs := (xs.map Et.e)) (x := x.e) (by omega)
        obtain rfl : osc = [] := by rw [hnil] at hec; exact List.map_eq_nil_iff.1 hec
        refine JC.seq ?_
        refine JC.region ?_
        refine JL.mv ?_
        refine JL.mv ?_
        refine JL.know (d := 36) (b := true) rfl ?_ ?_
        · rfl
        refine JL.val rfl rfl rfl (.yes rfl rfl rfl) (Ev.fld 0 rfl (fun _ _ => by kernel_rfl)) ?_
        refine JL.val rfl rfl rfl (.yes rfl rfl rfl) (Ev.load1 rfl Tryd.underlying22 rfl (Rd.own memK rfl)) ?_
        refine JL.val rfl rfl rfl (.yes rfl rfl rfl) (Ev.lenRow2 rfl Tryd.underlying22 hrc) ?_
        refine JL.val rfl rfl rfl (.yes rfl rfl rfl) (Ev.bin rfl rfl eql_int) ?_
        refine JL.val rfl rfl rfl (.none rfl) (Ev.pickT rfl rfl) ?_
        refine JL.asg ?_
        refine JL.nil ?_
        refine JQ.thenN ?_
        refine JC.ret ?_
        refine JQ.thenR ?_
        refine JQ.end1 (H' := []) (.inl rfl) rfl (.tmp rfl) ?_ ?_
        · exact Sub.k
        · first | rfl | exact congrArg Value.bool (decide_eq_true rfl) | exact congrArg Value.bool (decide_eq_true (OE.et_e _))
      · -- t34 False
        replace hc1 := of_decide_eq_false hc1
        obtain ⟨hok, hoe, hav⟩ := ad_zero (xs := (xs.map Et.e)) (x := x.e) (by omega)
        rw [hav] at hec
        have hlen := okB_len hok
        have hsz := okB_sz hok
        have hs2 : ∀ y ∈ xs, y.l.length ≤ 140737488351232 := fun y hy => Nat.le_trans (hsz y hy) (by decide)
        have hol : osc.length = xs.length + 1 := by have := congrArg List.length hec; simpa using this
        obtain ⟨R, rfl⟩ : ∃ R, rc = some R := by cases rc with | none => (have := hrc.1; omega) | some R => exact ⟨R, rfl⟩
        obtain ⟨xsc, hxl, hxm, hBc⟩ := own_bdS (e := 30) (t := 5) hrc hokc
        have hcap := hrc.2.1
        have htk : (xsc.take xs.length).length = xs.length := by rw [List.length_take]; omega
        obtain ⟨htk2, xc, hxc, hxce⟩ := own_parts (hxm.trans hec)
        refine JC.reH (b := b6) (o' := Obj.cells #[.slice (some ⟨R.g, 0, none⟩) xsc.length R.cap] 24 (0, 0)) (by repeat (first | exact .here | apply Upd.there | apply Upd.assoc | apply Upd.left)) (by rw [hxl]; rfl) ?_
        refine JC.skip ?_
        refine JQ.thenN ?_
        refine JC.seq ?_
        refine JC.region ?_
        refine JL.val rfl rfl rfl (.none rfl) (Ev.fld 0 rfl (fun _ _ => by kernel_rfl)) ?_
        refine JL.val rfl rfl rfl (.none rfl) (Ev.load1 rfl Tryd.underlying22 rfl (Rd.own memK rfl)) ?_
        refine JL.val rfl rfl rfl (.none rfl) (Ev.lenS rfl Tryd.underlying22) ?_
        refine JL.asg ?_
        refine JL.nil ?_
        refine JQ.thenN ?_
        refine JC.seq ?_
        refine JC.seq ?_
        refine JC.regionQ (by kernel_rfl) (by kernel_rfl) ?_
        refine JW.val rfl rfl (.none rfl) (Ev.fld 0 rfl (fun _ _ => by kernel_rfl)) ?_
        refine JW.val rfl rfl (.none rfl) (Ev.load1 rfl Tryd.underlying22 rfl (Rd.own memK rfl)) ?_
        refine JW.val rfl rfl (.none rfl) (Ev.lenS rfl Tryd.underlying22) ?_
        refine JW.val rfl rfl (.none rfl) (Ev.move rfl) ?_
        refine JW.val rfl rfl (.none rfl) (Ev.bin rfl rfl (add_i64 (by omega))) ?_
        refine JW.val rfl rfl (.none rfl) (Ev.bin rfl rfl neq_int) ?_
        refine JW.val rfl rfl (.none rfl) (Ev.move rfl) ?_
        refine JW.know (d := 51) (b := false) rfl ?_ ?_
        · exact decide_eq_false (by omega)
        refine JW.val rfl rfl (.yes rfl rfl rfl) (Ev.fld 0 rfl (fun _ _ => by kernel_rfl)) ?_
        refine JW.val rfl rfl (.yes rfl rfl rfl) (Ev.load1 rfl Tryd.underlying22 rfl (Rd.own memK rfl)) ?_
        refine JW.val rfl rfl (.yes rfl rfl rfl) (Ev.move rfl) ?_
        refine JW.val rfl rfl (.yes rfl rfl rfl) (Ev.cast (v' := .slice (some ⟨R.g, 0, none⟩) (xsc.take xs.length).length R.cap) (by rw [sub3_0, htk]) (Ev.sliceHi rfl rfl Tryd.underlying22 Tryd.sizeOf30 (h := xs.length) rfl (by omega))) ?_
        refine JW.val rfl rfl (.yes rfl rfl rfl) (Ev.buN rfl (fun _ => by kernel_rfl)) ?_
        refine JW.val rfl rfl (.yes rfl rfl rfl) (Ev.lB Tryd.underlying24 Tryd.sizeOf24) ?_
        refine JW.call rfl (.yes rfl rfl rfl) rfl Tryd.call27 (fun w1 hw1 => ebSame_any (some ⟨R.g, 0, none⟩) oa R.cap cap (xsc.take xs.length) xs w1 ((hBc w1 hw1 (fun p hp => by rcases List.mem_append.1 hp with hp | hp <;> simp [hp])).take (by omega)) (hb.old hw1)) ?_
        refine JW.val rfl rfl (.yes rfl rfl rfl) (Ev.not rfl) ?_
        refine JW.val rfl rfl (.none rfl) (Ev.pickF rfl rfl) ?_
        refine JW.val rfl rfl (.none rfl) (Ev.move rfl) ?_
        refine JW.know (d := 61) (b := false) rfl ?_ ?_
        · rw [decide_eq_true htk2]; rfl
        refine JW.val rfl rfl (.yes rfl rfl rfl) (Ev.fld 0 rfl (fun _ _ => by kernel_rfl)) ?_
        refine JW.val rfl rfl (.yes rfl rfl rfl) (Ev.load1 rfl Tryd.underlying22 rfl (Rd.own memK rfl)) ?_
        refine JW.val rfl rfl (.yes rfl rfl rfl) (Ev.move rfl) ?_
        refine JW.val rfl rfl (.yes rfl rfl rfl) (Ev.idxS rfl rfl Tryd.underlying22 Tryd.sizeOf30 (k := xs.length) rfl (by omega)) ?_
        refine JW.val rfl rfl (.yes rfl rfl rfl) (Ev.loadA (l := xc.cl) rfl Tryd.underlying30 rfl Tryd.sizeOf30 (fun w hw => (hBc w hw (fun p hp => by rcases List.mem_append.1 hp with hp | hp <;> simp [hp])).at hxc) rfl) ?_
        refine JW.val rfl rfl (.yes rfl rfl rfl) (Ev.lB Tryd.underlying30 Tryd.sizeOf30) ?_
        refine JW.call rfl (.yes rfl rfl rfl) rfl Tryd.call28 (fun w1 hw1 => sameE_any xc x w1 ((hBc w1 hw1 (fun p hp => by rcases List.mem_append.1 hp with hp | hp <;> simp [hp])).bs hxc) (hx.old hw1)) ?_
        refine JW.val rfl rfl (.yes rfl rfl rfl) (Ev.not rfl) ?_
        refine JW.val rfl rfl (.none rfl) (Ev.pickF rfl rfl) ?_
        refine JW.nilQ ?_
        refine JQ.thenN ?_
        refine JC.knowF rfl ?_ ?_
        · rw [decide_eq_true hxce]; rfl
        refine JC.skip ?_
        refine JQ.thenN ?_
        refine JC.seq ?_
        refine JC.cut (X := {z : Option Row × List OE × Option Row × Nat × Nat // Row.ok 2 z.2.1.length (oef z.2.1) z.1 ∧ (∀ o ∈ z.2.1, o.ok) ∧ z.2.1.map OE.e = (xs.map Et.e) ∧ OE.ok ⟨x.k, z.2.2.1, x.l⟩}) (fun ⟨⟨r1, os1, q, b9, b10⟩, hr1, hok1, he1, hq⟩ => [(2, .pointer (some ⟨b2, 0, none⟩)), (3, .pointer (some ⟨b3, 0, none⟩)), (5, .bool true), (6, .pointer (some ⟨b6, 0, none⟩)), (8, .int .i64 ((xs.length : Nat) : Int)), (9, .pointer (some ⟨b9, 0, none⟩)), (10, .pointer (some ⟨b10, 0, none⟩))]) (fun ⟨⟨r1, os1, q, b9, b10⟩, hr1, hok1, he1, hq⟩ => (b9, Obj.cells #[Row.v os1.length r1] 24 (0, 0)) :: (b10, Obj.cells (OE.cl ⟨x.k, q, x.l⟩).toArray 30 (0, 0)) :: ((Row.b 30 r1 ++ oeD 5 os1) ++ (Row.b 5 q ++ ((b6, Obj.cells #[.slice (some ⟨R.g, 0, none⟩) xsc.length R.cap] 24 (0, 0)) :: ((Row.b 30 (some R) ++ oeD 5 osc) ++ [(b3, Obj.cells x.cl.toArray 30 (0, 0)), (b2, Obj.cells #[.slice oa xs.length cap] 24 (0, 0))]))))) ?_ ?_
        · refine JC.regionA (by kernel_rfl) ?_
          refine JA.mid (X := Option Row × List OE × Option Row × Nat × Nat) (fun ⟨r1, os1, q, b9, b10⟩ => Row.ok 2 os1.length (oef os1) r1 ∧ (∀ o ∈ os1, o.ok) ∧ os1.map OE.e = (xs.map Et.e) ∧ OE.ok ⟨x.k, q, x.l⟩) (fun ⟨r1, os1, q, b9, b10⟩ => [(71, .agg #[.slice oa xs.length cap]), (72, .agg #[Row.v os1.length r1]), (73, .agg x.cl.toArray), (74, .agg (OE.cl ⟨x.k, q, x.l⟩).toArray), (9, .pointer (some ⟨b9, 0, none⟩)), (10, .pointer (some ⟨b10, 0, none⟩)), (2, .pointer (some ⟨b2, 0, none⟩)), (3, .pointer (some ⟨b3, 0, none⟩)), (5, .bool true), (6, .pointer (some ⟨b6, 0, none⟩)), (8, .int .i64 ((xs.length : Nat) : Int))]) (fun ⟨r1, os1, q, b9, b10⟩ => ((b10, Obj.cells #[u8 0, .slice none 0 0] 30 (0, 0)) :: ((b9, Obj.cells #[.slice none 0 0] 24 (0, 0)) :: (Row.b 5 q ++ ((Row.b 30 r1 ++ oeD 5 os1) ++ ((b6, Obj.cells #[.slice (some ⟨R.g, 0, none⟩) xsc.length R.cap] 24 (0, 0)) :: ((Row.b 30 (some R) ++ oeD 5 osc) ++ [(b3, Obj.cells x.cl.toArray 30 (0, 0)), (b2, Obj.cells #[.slice oa xs.length cap] 24 (0, 0))]))))))) 2 #[true, true, true, true, true, true, false, false] ?_ (fun hmid0 => ?_)
          · -- state [0, 1, 2, 3, 4, 5]
            rintro ⟨r1, os1, q, b9, b10⟩ ⟨hr1, hok1, he1, hq⟩
            refine JA.one 6 ?_
            refine JO.sto rfl rfl (.none rfl) (Es.storeA rfl rfl Tryd.sizeOf24 Upd.k rfl rfl (fun u hu => by simp only [List.mem_singleton] at hu; subst hu; exact rowv_one _ _)) ?_
            refine JA.one 7 ?_
            refine JO.sto rfl rfl (.none rfl) (Es.storeA rfl rfl Tryd.sizeOf30 Upd.k rfl rfl (OE.one ⟨x.k, q, x.l⟩)) ?_
            refine JA.done (by kernel_rfl) ?_
            refine JQ.cutN ⟨⟨r1, os1, q, b9, b10⟩, hr1, hok1, he1, hq⟩ ?_ ?_
            · exact Keeps.k
            · exact Sub.k
          refine JA.mid (X := Option Row × List OE × Option Row × Nat × Nat) (fun ⟨r1, os1, q, b9, b10⟩ => Row.ok 2 os1.length (oef os1) r1 ∧ (∀ o ∈ os1, o.ok) ∧ os1.map OE.e = (xs.map Et.e) ∧ OE.ok ⟨x.k, q, x.l⟩) (fun ⟨r1, os1, q, b9, b10⟩ => [(71, .agg #[.slice oa xs.length cap]), (72, .agg #[Row.v os1.length r1]), (73, .agg x.cl.toArray), (74, .agg (OE.cl ⟨x.k, q, x.l⟩).toArray), (9, .pointer (some ⟨b9, 0, none⟩)), (2, .pointer (some ⟨b2, 0, none⟩)), (3, .pointer (some ⟨b3, 0, none⟩)), (5, .bool true), (6, .pointer (some ⟨b6, 0, none⟩)), (8, .int .i64 ((xs.length : Nat) : Int))]) (fun ⟨r1, os1, q, b9, b10⟩ => ((b9, Obj.cells #[.slice none 0 0] 24 (0, 0)) :: (Row.b 5 q ++ ((Row.b 30 r1 ++ oeD 5 os1) ++ ((b6, Obj.cells #[.slice (some ⟨R.g, 0, none⟩) xsc.length R.cap] 24 (0, 0)) :: ((Row.b 30 (some R) ++ oeD 5 osc) ++ [(b3, Obj.cells x.cl.toArray 30 (0, 0)), (b2, Obj.cells #[.slice oa xs.length cap] 24 (0, 0))])))))) 3 #[true, true, true, true, true, false, false, false] ?_ (fun hmid1 => ?_)
          · -- state [0, 1, 2, 3, 4]
            rintro ⟨r1, os1, q, b9, b10⟩ ⟨hr1, hok1, he1, hq⟩
            refine JA.one 5 ?_
            refine JO.new rfl rfl rfl (.none rfl) (En.allocZ (cs := #[u8 0, .slice none 0 0]) Tryd.zeroValue30 rfl) (fun b10 hb10 => ?_)
            exact JA.weak rfl (by kernel_rfl) (by exact Keeps.k) (by exact Sub.k) (hmid0 ⟨r1, os1, q, b9, b10⟩ (by exact ⟨hr1, hok1, he1, hq⟩))
          refine JA.mid (X := Option Row × List OE × Option Row × Nat × Nat) (fun ⟨r1, os1, q, b9, b10⟩ => Row.ok 2 os1.length (oef os1) r1 ∧ (∀ o ∈ os1, o.ok) ∧ os1.map OE.e = (xs.map Et.e) ∧ OE.ok ⟨x.k, q, x.l⟩) (fun ⟨r1, os1, q, b9, b10⟩ => [(71, .agg #[.slice oa xs.length cap]), (72, .agg #[Row.v os1.length r1]), (73, .agg x.cl.toArray), (74, .agg (OE.cl ⟨x.k, q, x.l⟩).toArray), (10, .pointer (some ⟨b10, 0, none⟩)), (2, .pointer (some ⟨b2, 0, none⟩)), (3, .pointer (some ⟨b3, 0, none⟩)), (5, .bool true), (6, .pointer (some ⟨b6, 0, none⟩)), (8, .int .i64 ((xs.length : Nat) : Int))]) (fun ⟨r1, os1, q, b9, b10⟩ => ((b10, Obj.cells #[u8 0, .slice none 0 0] 30 (0, 0)) :: (Row.b 5 q ++ ((Row.b 30 r1 ++ oeD 5 os1) ++ ((b6, Obj.cells #[.slice (some ⟨R.g, 0, none⟩) xsc.length R.cap] 24 (0, 0)) :: ((Row.b 30 (some R) ++ oeD 5 osc) ++ [(b3, Obj.cells x.cl.toArray 30 (0, 0)), (b2, Obj.cells #[.slice oa xs.length cap] 24 (0, 0))])))))) 3 #[true, true, true, true, false, true, false, false] ?_ (fun hmid2 => ?_)
          · -- state [0, 1, 2, 3, 5]
            rintro ⟨r1, os1, q, b9, b10⟩ ⟨hr1, hok1, he1, hq⟩
            refine JA.one 4 ?_
            refine JO.new rfl rfl rfl (.none rfl) (En.allocZ (cs := #[.slice none 0 0]) Tryd.zeroValue24 rfl) (fun b9 hb9 => ?_)
            exact JA.weak rfl (by kernel_rfl) (by exact Keeps.k) (by exact Sub.k) (hmid0 ⟨r1, os1, q, b9, b10⟩ (by exact ⟨hr1, hok1, he1, hq⟩))
          refine JA.mid (X := Option Row × List OE × Option Row × Nat × Nat) (fun ⟨r1, os1, q, b9, b10⟩ => Row.ok 2 os1.length (oef os1) r1 ∧ (∀ o ∈ os1, o.ok) ∧ os1.map OE.e = (xs.map Et.e) ∧ OE.ok ⟨x.k, q, x.l⟩) (fun ⟨r1, os1, q, b9, b10⟩ => [(71, .agg #[.slice oa xs.length cap]), (72, .agg #[Row.v os1.length r1]), (73, .agg x.cl.toArray), (74, .agg (OE.cl ⟨x.k, q, x.l⟩).toArray), (2, .pointer (some ⟨b2, 0, none⟩)), (3, .pointer (some ⟨b3, 0, none⟩)), (5, .bool true), (6, .pointer (some ⟨b6, 0, none⟩)), (8, .int .i64 ((xs.length : Nat) : Int))]) (fun ⟨r1, os1, q, b9, b10⟩ => (Row.b 5 q ++ ((Row.b 30 r1 ++ oeD 5 os1) ++ ((b6, Obj.cells #[.slice (some ⟨R.g, 0, none⟩) xsc.length R.cap] 24 (0, 0)) :: ((Row.b 30 (some R) ++ oeD 5 osc) ++ [(b3, Obj.cells x.cl.toArray 30 (0, 0)), (b2, Obj.cells #[.slice oa xs.length cap] 24 (0, 0))]))))) 4 #[true, true, true, true, false, false, false, false] ?_ (fun hmid3 => ?_)
          · -- state [0, 1, 2, 3]
            rintro ⟨r1, os1, q, b9, b10⟩ ⟨hr1, hok1, he1, hq⟩
            refine JA.branch [4, 5] (by kernel_rfl) rfl ?_
            refine JAll.cons rfl ?_ ?_
            · -- 4
              refine JO.new rfl rfl rfl (.none rfl) (En.allocZ (cs := #[.slice none 0 0]) Tryd.zeroValue24 rfl) (fun b9 hb9 => ?_)
              exact JA.weak rfl (by kernel_rfl) (by exact Keeps.k) (by exact Sub.k) (hmid1 ⟨r1, os1, q, b9, 0⟩ (by exact ⟨hr1, hok1, he1, hq⟩))
            refine JAll.cons rfl ?_ JAll.nil
            refine JO.new rfl rfl rfl (.none rfl) (En.allocZ (cs := #[u8 0, .slice none 0 0]) Tryd.zeroValue30 rfl) (fun b10 hb10 => ?_)
            exact JA.weak rfl (by kernel_rfl) (by exact Keeps.k) (by exact Sub.k) (hmid2 ⟨r1, os1, q, 0, b10⟩ (by exact ⟨hr1, hok1, he1, hq⟩))
          refine JA.mid (X := Option Row × List OE × Option Row × Nat × Nat) (fun ⟨r1, os1, q, b9, b10⟩ => Row.ok 2 os1.length (oef os1) r1 ∧ (∀ o ∈ os1, o.ok) ∧ os1.map OE.e = (xs.map Et.e)) (fun ⟨r1, os1, q, b9, b10⟩ => [(71, .agg #[.slice oa xs.length cap]), (72, .agg #[Row.v os1.length r1]), (73, .agg x.cl.toArray), (9, .pointer (some ⟨b9, 0, none⟩)), (10, .pointer (some ⟨b10, 0, none⟩)), (2, .pointer (some ⟨b2, 0, none⟩)), (3, .pointer (some ⟨b3, 0, none⟩)), (5, .bool true), (6, .pointer (some ⟨b6, 0, none⟩)), (8, .int .i64 ((xs.length : Nat) : Int))]) (fun ⟨r1, os1, q, b9, b10⟩ => ((b10, Obj.cells #[u8 0, .slice none 0 0] 30 (0, 0)) :: ((b9, Obj.cells #[.slice none 0 0] 24 (0, 0)) :: ((Row.b 30 r1 ++ oeD 5 os1) ++ ((b6, Obj.cells #[.slice (some ⟨R.g, 0, none⟩) xsc.length R.cap] 24 (0, 0)) :: ((Row.b 30 (some R) ++ oeD 5 osc) ++ [(b3, Obj.cells x.cl.toArray 30 (0, 0)), (b2, Obj.cells #[.slice oa xs.length cap] 24 (0, 0))])))))) 3 #[true, true, true, false, true, true, false, false] ?_ (fun hmid4 => ?_)
          · -- state [0, 1, 2, 4, 5]
            rintro ⟨r1, os1, q, b9, b10⟩ ⟨hr1, hok1, he1⟩
            refine JA.one 3 ?_
            refine JO.callN rfl (.none rfl) rfl Tryd.call30 (fun w1 hw1 => etwinE_any x w1 (hx.old hw1) (by omega)) ?_
            rintro _ _ ⟨q, rfl, rfl, hq⟩
            exact JA.weak rfl (by kernel_rfl) (by exact Keeps.k) (by exact Sub.k) (hmid0 ⟨r1, os1, q, b9, b10⟩ (by exact ⟨hr1, hok1, he1, hq⟩))
          refine JA.mid (X := Option Row × List OE × Option Row × Nat × Nat) (fun ⟨r1, os1, q, b9, b10⟩ => Row.ok 2 os1.length (oef os1) r1 ∧ (∀ o ∈ os1, o.ok) ∧ os1.map OE.e = (xs.map Et.e)) (fun ⟨r1, os1, q, b9, b10⟩ => [(71, .agg #[.slice oa xs.length cap]), (72, .agg #[Row.v os1.length r1]), (73, .agg x.cl.toArray), (9, .pointer (some ⟨b9, 0, none⟩)), (2, .pointer (some ⟨b2, 0, none⟩)), (3, .pointer (some ⟨b3, 0, none⟩)), (5, .bool true), (6, .pointer (some ⟨b6, 0, none⟩)), (8, .int .i64 ((xs.length : Nat) : Int))]) (fun ⟨r1, os1, q, b9, b10⟩ => ((b9, Obj.cells #[.slice none 0 0] 24 (0, 0)) :: ((Row.b 30 r1 ++ oeD 5 os1) ++ ((b6, Obj.cells #[.slice (some ⟨R.g, 0, none⟩) xsc.length R.cap] 24 (0, 0)) :: ((Row.b 30 (some R) ++ oeD 5 osc) ++ [(b3, Obj.cells x.cl.toArray 30 (0, 0)), (b2, Obj.cells #[.slice oa xs.length cap] 24 (0, 0))]))))) 4 #[true, true, true, false, true, false, false, false] ?_ (fun hmid5 => ?_)
          · -- state [0, 1, 2, 4]
            rintro ⟨r1, os1, q, b9, b10⟩ ⟨hr1, hok1, he1⟩
            refine JA.branch [3, 5] (by kernel_rfl) rfl ?_
            refine JAll.cons rfl ?_ ?_
            · -- 3
              refine JO.callN rfl (.none rfl) rfl Tryd.call30 (fun w1 hw1 => etwinE_any x w1 (hx.old hw1) (by omega)) ?_
              rintro _ _ ⟨q, rfl, rfl, hq⟩
              exact JA.weak rfl (by kernel_rfl) (by exact Keeps.k) (by exact Sub.k) (hmid1 ⟨r1, os1, q, b9, 0⟩ (by exact ⟨hr1, hok1, he1, hq⟩))
            refine JAll.cons rfl ?_ JAll.nil
            refine JO.new rfl rfl rfl (.none rfl) (En.allocZ (cs := #[u8 0, .slice none 0 0]) Tryd.zeroValue30 rfl) (fun b10 hb10 => ?_)
            exact JA.weak rfl (by kernel_rfl) (by exact Keeps.k) (by exact Sub.k) (hmid4 ⟨r1, os1, none, b9, b10⟩ (by exact ⟨hr1, hok1, he1⟩))
          refine JA.mid (X := Option Row × List OE × Option Row × Nat × Nat) (fun ⟨r1, os1, q, b9, b10⟩ => Row.ok 2 os1.length (oef os1) r1 ∧ (∀ o ∈ os1, o.ok) ∧ os1.map OE.e = (xs.map Et.e)) (fun ⟨r1, os1, q, b9, b10⟩ => [(71, .agg #[.slice oa xs.length cap]), (72, .agg #[Row.v os1.length r1]), (73, .agg x.cl.toArray), (10, .pointer (some ⟨b10, 0, none⟩)), (2, .pointer (some ⟨b2, 0, none⟩)), (3, .pointer (some ⟨b3, 0, none⟩)), (5, .bool true), (6, .pointer (some ⟨b6, 0, none⟩)), (8, .int .i64 ((xs.length : Nat) : Int))]) (fun ⟨r1, os1, q, b9, b10⟩ => ((b10, Obj.cells #[u8 0, .slice none 0 0] 30 (0, 0)) :: ((Row.b 30 r1 ++ oeD 5 os1) ++ ((b6, Obj.cells #[.slice (some ⟨R.g, 0, none⟩) xsc.length R.cap] 24 (0, 0)) :: ((Row.b 30 (some R) ++ oeD 5 osc) ++ [(b3, Obj.cells x.cl.toArray 30 (0, 0)), (b2, Obj.cells #[.slice oa xs.length cap] 24 (0, 0))]))))) 4 #[true, true, true, false, false, true, false, false] ?_ (fun hmid6 => ?_)
          · -- state [0, 1, 2, 5]
            rintro ⟨r1, os1, q, b9, b10⟩ ⟨hr1, hok1, he1⟩
            refine JA.branch [3, 4] (by kernel_rfl) rfl ?_
            refine JAll.cons rfl ?_ ?_
            · -- 3
              refine JO.callN rfl (.none rfl) rfl Tryd.call30 (fun w1 hw1 => etwinE_any x w1 (hx.old hw1) (by omega)) ?_
              rintro _ _ ⟨q, rfl, rfl, hq⟩
              exact JA.weak rfl (by kernel_rfl) (by exact Keeps.k) (by exact Sub.k) (hmid2 ⟨r1, os1, q, 0, b10⟩ (by exact ⟨hr1, hok1, he1, hq⟩))
            refine JAll.cons rfl ?_ JAll.nil
            refine JO.new rfl rfl rfl (.none rfl) (En.allocZ (cs := #[.slice none 0 0]) Tryd.zeroValue24 rfl) (fun b9 hb9 => ?_)
            exact JA.weak rfl (by kernel_rfl) (by exact Keeps.k) (by exact Sub.k) (hmid4 ⟨r1, os1, none, b9, b10⟩ (by exact ⟨hr1, hok1, he1⟩))
          refine JA.mid (X := Option Row × List OE × Option Row × Nat × Nat) (fun ⟨r1, os1, q, b9, b10⟩ => Row.ok 2 os1.length (oef os1) r1 ∧ (∀ o ∈ os1, o.ok) ∧ os1.map OE.e = (xs.map Et.e)) (fun ⟨r1, os1, q, b9, b10⟩ => [(71, .agg #[.slice oa xs.length cap]), (72, .agg #[Row.v os1.length r1]), (73, .agg x.cl.toArray), (2, .pointer (some ⟨b2, 0, none⟩)), (3, .pointer (some ⟨b3, 0, none⟩)), (5, .bool true), (6, .pointer (some ⟨b6, 0, none⟩)), (8, .int .i64 ((xs.length : Nat) : Int))]) (fun ⟨r1, os1, q, b9, b10⟩ => ((Row.b 30 r1 ++ oeD 5 os1) ++ ((b6, Obj.cells #[.slice (some ⟨R.g, 0, none⟩) xsc.length R.cap] 24 (0, 0)) :: ((Row.b 30 (some R) ++ oeD 5 osc) ++ [(b3, Obj.cells x.cl.toArray 30 (0, 0)), (b2, Obj.cells #[.slice oa xs.length cap] 24 (0, 0))])))) 5 #[true, true, true, false, false, false, false, false] ?_ (fun hmid7 => ?_)
          · -- state [0, 1, 2]
            rintro ⟨r1, os1, q, b9, b10⟩ ⟨hr1, hok1, he1⟩
            refine JA.branch [3, 4, 5] (by kernel_rfl) rfl ?_
            refine JAll.cons rfl ?_ ?_
            · -- 3
              refine JO.callN rfl (.none rfl) rfl Tryd.call30 (fun w1 hw1 => etwinE_any x w1 (hx.old hw1) (by omega)) ?_
              rintro _ _ ⟨q, rfl, rfl, hq⟩
              exact JA.weak rfl (by kernel_rfl) (by exact Keeps.k) (by exact Sub.k) (hmid3 ⟨r1, os1, q, 0, 0⟩ (by exact ⟨hr1, hok1, he1, hq⟩))
            refine JAll.cons rfl ?_ ?_
            · -- 4
              refine JO.new rfl rfl rfl (.none rfl) (En.allocZ (cs := #[.slice none 0 0]) Tryd.zeroValue24 rfl) (fun b9 hb9 => ?_)
              exact JA.weak rfl (by kernel_rfl) (by exact Keeps.k) (by exact Sub.k) (hmid5 ⟨r1, os1, none, b9, 0⟩ (by exact ⟨hr1, hok1, he1⟩))
            refine JAll.cons rfl ?_ JAll.nil
            refine JO.new rfl rfl rfl (.none rfl) (En.allocZ (cs := #[u8 0, .slice none 0 0]) Tryd.zeroValue30 rfl) (fun b10 hb10 => ?_)
            exact JA.weak rfl (by kernel_rfl) (by exact Keeps.k) (by exact Sub.k) (hmid6 ⟨r1, os1, none, 0, b10⟩ (by exact ⟨hr1, hok1, he1⟩))
          refine JA.mid (X := Option Row × List OE × Option Row × Nat × Nat) (fun ⟨r1, os1, q, b9, b10⟩ => True) (fun ⟨r1, os1, q, b9, b10⟩ => [(71, .agg #[.slice oa xs.length cap]), (73, .agg x.cl.toArray), (9, .pointer (some ⟨b9, 0, none⟩)), (10, .pointer (some ⟨b10, 0, none⟩)), (2, .pointer (some ⟨b2, 0, none⟩)), (3, .pointer (some ⟨b3, 0, none⟩)), (5, .bool true), (6, .pointer (some ⟨b6, 0, none⟩)), (8, .int .i64 ((xs.length : Nat) : Int))]) (fun ⟨r1, os1, q, b9, b10⟩ => ((b10, Obj.cells #[u8 0, .slice none 0 0] 30 (0, 0)) :: ((b9, Obj.cells #[.slice none 0 0] 24 (0, 0)) :: ((b6, Obj.cells #[.slice (some ⟨R.g, 0, none⟩) xsc.length R.cap] 24 (0, 0)) :: ((Row.b 30 (some R) ++ oeD 5 osc) ++ [(b3, Obj.cells x.cl.toArray 30 (0, 0)), (b2, Obj.cells #[.slice oa xs.length cap] 24 (0, 0))]))))) 4 #[true, false, true, false, true, true, false, false] ?_ (fun hmid8 => ?_)
          · -- state [0, 2, 4, 5]
            rintro ⟨r1, os1, q, b9, b10⟩ _
            refine JA.one 1 ?_
            refine JO.callN rfl (.none rfl) rfl Tryd.call29 (fun w1 hw1 => ebTwin_any oa cap xs w1 (hb.old hw1) hs2 (by omega)) ?_
            rintro _ _ ⟨r1, os1, rfl, rfl, hr1, hok1, he1⟩
            exact JA.weak rfl (by kernel_rfl) (by exact Keeps.k) (by exact Sub.k) (hmid4 ⟨r1, os1, none, b9, b10⟩ (by exact ⟨hr1, hok1, he1⟩))
          refine JA.mid (X := Option Row × List OE × Option Row × Nat × Nat) (fun ⟨r1, os1, q, b9, b10⟩ => True) (fun ⟨r1, os1, q, b9, b10⟩ => [(71, .agg #[.slice oa xs.length cap]), (73, .agg x.cl.toArray), (9, .pointer (some ⟨b9, 0, none⟩)), (2, .pointer (some ⟨b2, 0, none⟩)), (3, .pointer (some ⟨b3, 0, none⟩)), (5, .bool true), (6, .pointer (some ⟨b6, 0, none⟩)), (8, .int .i64 ((xs.length : Nat) : Int))]) (fun ⟨r1, os1, q, b9, b10⟩ => ((b9, Obj.cells #[.slice none 0 0] 24 (0, 0)) :: ((b6, Obj.cells #[.slice (some ⟨R.g, 0, none⟩) xsc.length R.cap] 24 (0, 0)) :: ((Row.b 30 (some R) ++ oeD 5 osc) ++ [(b3, Obj.cells x.cl.toArray 30 (0, 0)), (b2, Obj.cells #[.slice oa xs.length cap] 24 (0, 0))])))) 5 #[true, false, true, false, true, false, false, false] ?_ (fun hmid9 => ?_)
          · -- state [0, 2, 4]
            rintro ⟨r1, os1, q, b9, b10⟩ _
            refine JA.branch [1, 5] (by kernel_rfl) rfl ?_
            refine JAll.cons rfl ?_ ?_
            · -- 1
              refine JO.callN rfl (.none rfl) rfl Tryd.call29 (fun w1 hw1 => ebTwin_any oa cap xs w1 (hb.old hw1) hs2 (by omega)) ?_
              rintro _ _ ⟨r1, os1, rfl, rfl, hr1, hok1, he1⟩
              exact JA.weak rfl (by kernel_rfl) (by exact Keeps.k) (by exact Sub.k) (hmid5 ⟨r1, os1, none, b9, 0⟩ (by exact ⟨hr1, hok1, he1⟩))
            refine JAll.cons rfl ?_ JAll.nil
            refine JO.new rfl rfl rfl (.none rfl) (En.allocZ (cs := #[u8 0, .slice none 0 0]) Tryd.zeroValue30 rfl) (fun b10 hb10 => ?_)
            exact JA.weak rfl (by kernel_rfl) (by exact Keeps.k) (by exact Sub.k) (hmid8 ⟨none, [], none, b9, b10⟩ (by trivial))
          refine JA.mid (X := Option Row × List OE × Option Row × Nat × Nat) (fun ⟨r1, os1, q, b9, b10⟩ => True) (fun ⟨r1, os1, q, b9, b10⟩ => [(71, .agg #[.slice oa xs.length cap]), (73, .agg x.cl.toArray), (10, .pointer (some ⟨b10, 0, none⟩)), (2, .pointer (some ⟨b2, 0, none⟩)), (3, .pointer (some ⟨b3, 0, none⟩)), (5, .bool true), (6, .pointer (some ⟨b6, 0, none⟩)), (8, .int .i64 ((xs.length : Nat) : Int))]) (fun ⟨r1, os1, q, b9, b10⟩ => ((b10, Obj.cells #[u8 0, .slice none 0 0] 30 (0, 0)) :: ((b6, Obj.cells #[.slice (some ⟨R.g, 0, none⟩) xsc.length R.cap] 24 (0, 0)) :: ((Row.b 30 (some R) ++ oeD 5 osc) ++ [(b3, Obj.cells x.cl.toArray 30 (0, 0)), (b2, Obj.cells #[.slice oa xs.length cap] 24 (0, 0))])))) 5 #[true, false, true, false, false, true, false, false] ?_ (fun hmid10 => ?_)
          · -- state [0, 2, 5]
            rintro ⟨r1, os1, q, b9, b10⟩ _
            refine JA.branch [1, 4] (by kernel_rfl) rfl ?_
            refine JAll.cons rfl ?_ ?_
            · -- 1
              refine JO.callN rfl (.none rfl) rfl Tryd.call29 (fun w1 hw1 => ebTwin_any oa cap xs w1 (hb.old hw1) hs2 (by omega)) ?_
              rintro _ _ ⟨r1, os1, rfl, rfl, hr1, hok1, he1⟩
              exact JA.weak rfl (by kernel_rfl) (by exact Keeps.k) (by exact Sub.k) (hmid6 ⟨r1, os1, none, 0, b10⟩ (by exact ⟨hr1, hok1, he1⟩))
            refine JAll.cons rfl ?_ JAll.nil
            refine JO.new rfl rfl rfl (.none rfl) (En.allocZ (cs := #[.slice none 0 0]) Tryd.zeroValue24 rfl) (fun b9 hb9 => ?_)
            exact JA.weak rfl (by kernel_rfl) (by exact Keeps.k) (by exact Sub.k) (hmid8 ⟨none, [], none, b9, b10⟩ (by trivial))
          refine JA.mid (X := Option Row × List OE × Option Row × Nat × Nat) (fun ⟨r1, os1, q, b9, b10⟩ => True) (fun ⟨r1, os1, q, b9, b10⟩ => [(71, .agg #[.slice oa xs.length cap]), (73, .agg x.cl.toArray), (2, .pointer (some ⟨b2, 0, none⟩)), (3, .pointer (some ⟨b3, 0, none⟩)), (5, .bool true), (6, .pointer (some ⟨b6, 0, none⟩)), (8, .int .i64 ((xs.length : Nat) : Int))]) (fun ⟨r1, os1, q, b9, b10⟩ => ((b6, Obj.cells #[.slice (some ⟨R.g, 0, none⟩) xsc.length R.cap] 24 (0, 0)) :: ((Row.b 30 (some R) ++ oeD 5 osc) ++ [(b3, Obj.cells x.cl.toArray 30 (0, 0)), (b2, Obj.cells #[.slice oa xs.length cap] 24 (0, 0))]))) 6 #[true, false, true, false, false, false, false, false] ?_ (fun hmid11 => ?_)
          · -- state [0, 2]
            rintro ⟨r1, os1, q, b9, b10⟩ _
            refine JA.branch [1, 4, 5] (by kernel_rfl) rfl ?_
            refine JAll.cons rfl ?_ ?_
            · -- 1
              refine JO.callN rfl (.none rfl) rfl Tryd.call29 (fun w1 hw1 => ebTwin_any oa cap xs w1 (hb.old hw1) hs2 (by omega)) ?_
              rintro _ _ ⟨r1, os1, rfl, rfl, hr1, hok1, he1⟩
              exact JA.weak rfl (by kernel_rfl) (by exact Keeps.k) (by exact Sub.k) (hmid7 ⟨r1, os1, none, 0, 0⟩ (by exact ⟨hr1, hok1, he1⟩))
            refine JAll.cons rfl ?_ ?_
            · -- 4
              refine JO.new rfl rfl rfl (.none rfl) (En.allocZ (cs := #[.slice none 0 0]) Tryd.zeroValue24 rfl) (fun b9 hb9 => ?_)
              exact JA.weak rfl (by kernel_rfl) (by exact Keeps.k) (by exact Sub.k) (hmid9 ⟨none, [], none, b9, 0⟩ (by trivial))
            refine JAll.cons rfl ?_ JAll.nil
            refine JO.new rfl rfl rfl (.none rfl) (En.allocZ (cs := #[u8 0, .slice none 0 0]) Tryd.zeroValue30 rfl) (fun b10 hb10 => ?_)
            exact JA.weak rfl (by kernel_rfl) (by exact Keeps.k) (by exact Sub.k) (hmid10 ⟨none, [], none, 0, b10⟩ (by trivial))
          refine JA.mid (X := Option Row × List OE × Option Row × Nat × Nat) (fun ⟨r1, os1, q, b9, b10⟩ => True) (fun ⟨r1, os1, q, b9, b10⟩ => [(73, .agg x.cl.toArray), (9, .pointer (some ⟨b9, 0, none⟩)), (10, .pointer (some ⟨b10, 0, none⟩)), (2, .pointer (some ⟨b2, 0, none⟩)), (3, .pointer (some ⟨b3, 0, none⟩)), (5, .bool true), (6, .pointer (some ⟨b6, 0, none⟩)), (8, .int .i64 ((xs.length : Nat) : Int))]) (fun ⟨r1, os1, q, b9, b10⟩ => ((b10, Obj.cells #[u8 0, .slice none 0 0] 30 (0, 0)) :: ((b9, Obj.cells #[.slice none 0 0] 24 (0, 0)) :: ((b6, Obj.cells #[.slice (some ⟨R.g, 0, none⟩) xsc.length R.cap] 24 (0, 0)) :: ((Row.b 30 (some R) ++ oeD 5 osc) ++ [(b3, Obj.cells x.cl.toArray 30 (0, 0)), (b2, Obj.cells #[.slice oa xs.length cap] 24 (0, 0))]))))) 5 #[false, false, true, false, true, true, false, false] ?_ (fun hmid12 => ?_)
          · -- state [2, 4, 5]
            rintro ⟨r1, os1, q, b9, b10⟩ _
            refine JA.one 0 ?_
            refine JO.val rfl rfl rfl (.none rfl) (Ev.lB Tryd.underlying24 Tryd.sizeOf24) ?_
            exact JA.weak rfl (by kernel_rfl) (by exact Keeps.k) (by exact Sub.k) (hmid8 ⟨none, [], none, b9, b10⟩ (by trivial))
          refine JA.mid (X := Option Row × List OE × Option Row × Nat × Nat) (fun ⟨r1, os1, q, b9, b10⟩ => True) (fun ⟨r1, os1, q, b9, b10⟩ => [(73, .agg x.cl.toArray), (9, .pointer (some ⟨b9, 0, none⟩)), (2, .pointer (some ⟨b2, 0, none⟩)), (3, .pointer (some ⟨b3, 0, none⟩)), (5, .bool true), (6, .pointer (some ⟨b6, 0, none⟩)), (8, .int .i64 ((xs.length : Nat) : Int))]) (fun ⟨r1, os1, q, b9, b10⟩ => ((b9, Obj.cells #[.slice none 0 0] 24 (0, 0)) :: ((b6, Obj.cells #[.slice (some ⟨R.g, 0, none⟩) xsc.length R.cap] 24 (0, 0)) :: ((Row.b 30 (some R) ++ oeD 5 osc) ++ [(b3, Obj.cells x.cl.toArray 30 (0, 0)), (b2, Obj.cells #[.slice oa xs.length cap] 24 (0, 0))])))) 6 #[false, false, true, false, true, false, false, false] ?_ (fun hmid13 => ?_)
          · -- state [2, 4]
            rintro ⟨r1, os1, q, b9, b10⟩ _
            refine JA.branch [0, 5] (by kernel_rfl) rfl ?_
            refine JAll.cons rfl ?_ ?_
            · -- 0
              refine JO.val rfl rfl rfl (.none rfl) (Ev.lB Tryd.underlying24 Tryd.sizeOf24) ?_
              exact JA.weak rfl (by kernel_rfl) (by exact Keeps.k) (by exact Sub.k) (hmid9 ⟨none, [], none, b9, 0⟩ (by trivial))
            refine JAll.cons rfl ?_ JAll.nil
            refine JO.new rfl rfl rfl (.none rfl) (En.allocZ (cs := #[u8 0, .slice none 0 0]) Tryd.zeroValue30 rfl) (fun b10 hb10 => ?_)
            exact JA.weak rfl (by kernel_rfl) (by exact Keeps.k) (by exact Sub.k) (hmid12 ⟨none, [], none, b9, b10⟩ (by trivial))
          refine JA.mid (X := Option Row × List OE × Option Row × Nat × Nat) (fun ⟨r1, os1, q, b9, b10⟩ => True) (fun ⟨r1, os1, q, b9, b10⟩ => [(73, .agg x.cl.toArray), (10, .pointer (some ⟨b10, 0, none⟩)), (2, .pointer (some ⟨b2, 0, none⟩)), (3, .pointer (some ⟨b3, 0, none⟩)), (5, .bool true), (6, .pointer (some ⟨b6, 0, none⟩)), (8, .int .i64 ((xs.length : Nat) : Int))]) (fun ⟨r1, os1, q, b9, b10⟩ => ((b10, Obj.cells #[u8 0, .slice none 0 0] 30 (0, 0)) :: ((b6, Obj.cells #[.slice (some ⟨R.g, 0, none⟩) xsc.length R.cap] 24 (0, 0)) :: ((Row.b 30 (some R) ++ oeD 5 osc) ++ [(b3, Obj.cells x.cl.toArray 30 (0, 0)), (b2, Obj.cells #[.slice oa xs.length cap] 24 (0, 0))])))) 6 #[false, false, true, false, false, true, false, false] ?_ (fun hmid14 => ?_)
          · -- state [2, 5]
            rintro ⟨r1, os1, q, b9, b10⟩ _
            refine JA.branch [0, 4] (by kernel_rfl) rfl ?_
            refine JAll.cons rfl ?_ ?_
            · -- 0
              refine JO.val rfl rfl rfl (.none rfl) (Ev.lB Tryd.underlying24 Tryd.sizeOf24) ?_
              exact JA.weak rfl (by kernel_rfl) (by exact Keeps.k) (by exact Sub.k) (hmid10 ⟨none, [], none, 0, b10⟩ (by trivial))
            refine JAll.cons rfl ?_ JAll.nil
            refine JO.new rfl rfl rfl (.none rfl) (En.allocZ (cs := #[.slice none 0 0]) Tryd.zeroValue24 rfl) (fun b9 hb9 => ?_)
            exact JA.weak rfl (by kernel_rfl) (by exact Keeps.k) (by exact Sub.k) (hmid12 ⟨none, [], none, b9, b10⟩ (by trivial))
          refine JA.mid (X := Option Row × List OE × Option Row × Nat × Nat) (fun ⟨r1, os1, q, b9, b10⟩ => True) (fun ⟨r1, os1, q, b9, b10⟩ => [(73, .agg x.cl.toArray), (2, .pointer (some ⟨b2, 0, none⟩)), (3, .pointer (some ⟨b3, 0, none⟩)), (5, .bool true), (6, .pointer (some ⟨b6, 0, none⟩)), (8, .int .i64 ((xs.length : Nat) : Int))]) (fun ⟨r1, os1, q, b9, b10⟩ => ((b6, Obj.cells #[.slice (some ⟨R.g, 0, none⟩) xsc.length R.cap] 24 (0, 0)) :: ((Row.b 30 (some R) ++ oeD 5 osc) ++ [(b3, Obj.cells x.cl.toArray 30 (0, 0)), (b2, Obj.cells #[.slice oa xs.length cap] 24 (0, 0))]))) 7 #[false, false, true, false, false, false, false, false] ?_ (fun hmid15 => ?_)
          · -- state [2]
            rintro ⟨r1, os1, q, b9, b10⟩ _
            refine JA.branch [0, 4, 5] (by kernel_rfl) rfl ?_
            refine JAll.cons rfl ?_ ?_
            · -- 0
              refine JO.val rfl rfl rfl (.none rfl) (Ev.lB Tryd.underlying24 Tryd.sizeOf24) ?_
              exact JA.weak rfl (by kernel_rfl) (by exact Keeps.k) (by exact Sub.k) (hmid11 ⟨none, [], none, 0, 0⟩ (by trivial))
            refine JAll.cons rfl ?_ ?_
            · -- 4
              refine JO.new rfl rfl rfl (.none rfl) (En.allocZ (cs := #[.slice none 0 0]) Tryd.zeroValue24 rfl) (fun b9 hb9 => ?_)
              exact JA.weak rfl (by kernel_rfl) (by exact Keeps.k) (by exact Sub.k) (hmid13 ⟨none, [], none, b9, 0⟩ (by trivial))
            refine JAll.cons rfl ?_ JAll.nil
            refine JO.new rfl rfl rfl (.none rfl) (En.allocZ (cs := #[u8 0, .slice none 0 0]) Tryd.zeroValue30 rfl) (fun b10 hb10 => ?_)
            exact JA.weak rfl (by kernel_rfl) (by exact Keeps.k) (by exact Sub.k) (hmid14 ⟨none, [], none, 0, b10⟩ (by trivial))
          refine JA.mid (X := Option Row × List OE × Option Row × Nat × Nat) (fun ⟨r1, os1, q, b9, b10⟩ => Row.ok 2 os1.length (oef os1) r1 ∧ (∀ o ∈ os1, o.ok) ∧ os1.map OE.e = (xs.map Et.e)) (fun ⟨r1, os1, q, b9, b10⟩ => [(71, .agg #[.slice oa xs.length cap]), (72, .agg #[Row.v os1.length r1]), (9, .pointer (some ⟨b9, 0, none⟩)), (10, .pointer (some ⟨b10, 0, none⟩)), (2, .pointer (some ⟨b2, 0, none⟩)), (3, .pointer (some ⟨b3, 0, none⟩)), (5, .bool true), (6, .pointer (some ⟨b6, 0, none⟩)), (8, .int .i64 ((xs.length : Nat) : Int))]) (fun ⟨r1, os1, q, b9, b10⟩ => ((b10, Obj.cells #[u8 0, .slice none 0 0] 30 (0, 0)) :: ((b9, Obj.cells #[.slice none 0 0] 24 (0, 0)) :: ((Row.b 30 r1 ++ oeD 5 os1) ++ ((b6, Obj.cells #[.slice (some ⟨R.g, 0, none⟩) xsc.length R.cap] 24 (0, 0)) :: ((Row.b 30 (some R) ++ oeD 5 osc) ++ [(b3, Obj.cells x.cl.toArray 30 (0, 0)), (b2, Obj.cells #[.slice oa xs.length cap] 24 (0, 0))])))))) 4 #[true, true, false, false, true, true, false, false] ?_ (fun hmid16 => ?_)
          · -- state [0, 1, 4, 5]
            rintro ⟨r1, os1, q, b9, b10⟩ ⟨hr1, hok1, he1⟩
            refine JA.one 2 ?_
            refine JO.val rfl rfl rfl (.none rfl) (Ev.lB Tryd.underlying30 Tryd.sizeOf30) ?_
            exact JA.weak rfl (by kernel_rfl) (by exact Keeps.k) (by exact Sub.k) (hmid4 ⟨r1, os1, none, b9, b10⟩ (by exact ⟨hr1, hok1, he1⟩))
          refine JA.mid (X := Option Row × List OE × Option Row × Nat × Nat) (fun ⟨r1, os1, q, b9, b10⟩ => Row.ok 2 os1.length (oef os1) r1 ∧ (∀ o ∈ os1, o.ok) ∧ os1.map OE.e = (xs.map Et.e)) (fun ⟨r1, os1, q, b9, b10⟩ => [(71, .agg #[.slice oa xs.length cap]), (72, .agg #[Row.v os1.length r1]), (9, .pointer (some ⟨b9, 0, none⟩)), (2, .pointer (some ⟨b2, 0, none⟩)), (3, .pointer (some ⟨b3, 0, none⟩)), (5, .bool true), (6, .pointer (some ⟨b6, 0, none⟩)), (8, .int .i64 ((xs.length : Nat) : Int))]) (fun ⟨r1, os1, q, b9, b10⟩ => ((b9, Obj.cells #[.slice none 0 0] 24 (0, 0)) :: ((Row.b 30 r1 ++ oeD 5 os1) ++ ((b6, Obj.cells #[.slice (some ⟨R.g, 0, none⟩) xsc.length R.cap] 24 (0, 0)) :: ((Row.b 30 (some R) ++ oeD 5 osc) ++ [(b3, Obj.cells x.cl.toArray 30 (0, 0)), (b2, Obj.cells #[.slice oa xs.length cap] 24 (0, 0))]))))) 5 #[true, true, false, false, true, false, false, false] ?_ (fun hmid17 => ?_)
          · -- state [0, 1, 4]
            rintro ⟨r1, os1, q, b9, b10⟩ ⟨hr1, hok1, he1⟩
            refine JA.branch [2, 5] (by kernel_rfl) rfl ?_
            refine JAll.cons rfl ?_ ?_
            · -- 2
              refine JO.val rfl rfl rfl (.none rfl) (Ev.lB Tryd.underlying30 Tryd.sizeOf30) ?_
              exact JA.weak rfl (by kernel_rfl) (by exact Keeps.k) (by exact Sub.k) (hmid5 ⟨r1, os1, none, b9, 0⟩ (by exact ⟨hr1, hok1, he1⟩))
            refine JAll.cons rfl ?_ JAll.nil
            refine JO.new rfl rfl rfl (.none rfl) (En.allocZ (cs := #[u8 0, .slice none 0 0]) Tryd.zeroValue30 rfl) (fun b10 hb10 => ?_)
            exact JA.weak rfl (by kernel_rfl) (by exact Keeps.k) (by exact Sub.k) (hmid16 ⟨r1, os1, none, b9, b10⟩ (by exact ⟨hr1, hok1, he1⟩))
          refine JA.mid (X := Option Row × List OE × Option Row × Nat × Nat) (fun ⟨r1, os1, q, b9, b10⟩ => Row.ok 2 os1.length (oef os1) r1 ∧ (∀ o ∈ os1, o.ok) ∧ os1.map OE.e = (xs.map Et.e)) (fun ⟨r1, os1, q, b9, b10⟩ => [(71, .agg #[.slice oa xs.length cap]), (72, .agg #[Row.v os1.length r1]), (10, .pointer (some ⟨b10, 0, none⟩)), (2, .pointer (some ⟨b2, 0, none⟩)), (3, .pointer (some ⟨b3, 0, none⟩)), (5, .bool true), (6, .pointer (some ⟨b6, 0, none⟩)), (8, .int .i64 ((xs.length : Nat) : Int))]) (fun ⟨r1, os1, q, b9, b10⟩ => ((b10, Obj.cells #[u8 0, .slice none 0 0] 30 (0, 0)) :: ((Row.b 30 r1 ++ oeD 5 os1) ++ ((b6, Obj.cells #[.slice (some ⟨R.g, 0, none⟩) xsc.length R.cap] 24 (0, 0)) :: ((Row.b 30 (some R) ++ oeD 5 osc) ++ [(b3, Obj.cells x.cl.toArray 30 (0, 0)), (b2, Obj.cells #[.slice oa xs.length cap] 24 (0, 0))]))))) 5 #[true, true, false, false, false, true, false, false] ?_ (fun hmid18 => ?_)
          · -- state [0, 1, 5]
            rintro ⟨r1, os1, q, b9, b10⟩ ⟨hr1, hok1, he1⟩
            refine JA.branch [2, 4] (by kernel_rfl) rfl ?_
            refine JAll.cons rfl ?_ ?_
            · -- 2
              refine JO.val rfl rfl rfl (.none rfl) (Ev.lB Tryd.underlying30 Tryd.sizeOf30) ?_
              exact JA.weak rfl (by kernel_rfl) (by exact Keeps.k) (by exact Sub.k) (hmid6 ⟨r1, os1, none, 0, b10⟩ (by exact ⟨hr1, hok1, he1⟩))
            refine JAll.cons rfl ?_ JAll.nil
            refine JO.new rfl rfl rfl (.none rfl) (En.allocZ (cs := #[.slice none 0 0]) Tryd.zeroValue24 rfl) (fun b9 hb9 => ?_)
            exact JA.weak rfl (by kernel_rfl) (by exact Keeps.k) (by exact Sub.k) (hmid16 ⟨r1, os1, none, b9, b10⟩ (by exact ⟨hr1, hok1, he1⟩))
          refine JA.mid (X := Option Row × List OE × Option Row × Nat × Nat) (fun ⟨r1, os1, q, b9, b10⟩ => Row.ok 2 os1.length (oef os1) r1 ∧ (∀ o ∈ os1, o.ok) ∧ os1.map OE.e = (xs.map Et.e)) (fun ⟨r1, os1, q, b9, b10⟩ => [(71, .agg #[.slice oa xs.length cap]), (72, .agg #[Row.v os1.length r1]), (2, .pointer (some ⟨b2, 0, none⟩)), (3, .pointer (some ⟨b3, 0, none⟩)), (5, .bool true), (6, .pointer (some ⟨b6, 0, none⟩)), (8, .int .i64 ((xs.length : Nat) : Int))]) (fun ⟨r1, os1, q, b9, b10⟩ => ((Row.b 30 r1 ++ oeD 5 os1) ++ ((b6, Obj.cells #[.slice (some ⟨R.g, 0, none⟩) xsc.length R.cap] 24 (0, 0)) :: ((Row.b 30 (some R) ++ oeD 5 osc) ++ [(b3, Obj.cells x.cl.toArray 30 (0, 0)), (b2, Obj.cells #[.slice oa xs.length cap] 24 (0, 0))])))) 6 #[true, true, false, false, false, false, false, false] ?_ (fun hmid19 => ?_)
          · -- state [0, 1]
            rintro ⟨r1, os1, q, b9, b10⟩ ⟨hr1, hok1, he1⟩
            refine JA.branch [2, 4, 5] (by kernel_rfl) rfl ?_
            refine JAll.cons rfl ?_ ?_
            · -- 2
              refine JO.val rfl rfl rfl (.none rfl) (Ev.lB Tryd.underlying30 Tryd.sizeOf30) ?_
              exact JA.weak rfl (by kernel_rfl) (by exact Keeps.k) (by exact Sub.k) (hmid7 ⟨r1, os1, none, 0, 0⟩ (by exact ⟨hr1, hok1, he1⟩))
            refine JAll.cons rfl ?_ ?_
            · -- 4
              refine JO.new rfl rfl rfl (.none rfl) (En.allocZ (cs := #[.slice none 0 0]) Tryd.zeroValue24 rfl) (fun b9 hb9 => ?_)
              exact JA.weak rfl (by kernel_rfl) (by exact Keeps.k) (by exact Sub.k) (hmid17 ⟨r1, os1, none, b9, 0⟩ (by exact ⟨hr1, hok1, he1⟩))
            refine JAll.cons rfl ?_ JAll.nil
            refine JO.new rfl rfl rfl (.none rfl) (En.allocZ (cs := #[u8 0, .slice none 0 0]) Tryd.zeroValue30 rfl) (fun b10 hb10 => ?_)
            exact JA.weak rfl (by kernel_rfl) (by exact Keeps.k) (by exact Sub.k) (hmid18 ⟨r1, os1, none, 0, b10⟩ (by exact ⟨hr1, hok1, he1⟩))
          refine JA.mid (X := Option Row × List OE × Option Row × Nat × Nat) (fun ⟨r1, os1, q, b9, b10⟩ => True) (fun ⟨r1, os1, q, b9, b10⟩ => [(71, .agg #[.slice oa xs.length cap]), (9, .pointer (some ⟨b9, 0, none⟩)), (10, .pointer (some ⟨b10, 0, none⟩)), (2, .pointer (some ⟨b2, 0, none⟩)), (3, .pointer (some ⟨b3, 0, none⟩)), (5, .bool true), (6, .pointer (some ⟨b6, 0, none⟩)), (8, .int .i64 ((xs.length : Nat) : Int))]) (fun ⟨r1, os1, q, b9, b10⟩ => ((b10, Obj.cells #[u8 0, .slice none 0 0] 30 (0, 0)) :: ((b9, Obj.cells #[.slice none 0 0] 24 (0, 0)) :: ((b6, Obj.cells #[.slice (some ⟨R.g, 0, none⟩) xsc.length R.cap] 24 (0, 0)) :: ((Row.b 30 (some R) ++ oeD 5 osc) ++ [(b3, Obj.cells x.cl.toArray 30 (0, 0)), (b2, Obj.cells #[.slice oa xs.length cap] 24 (0, 0))]))))) 5 #[true, false, false, false, true, true, false, false] ?_ (fun hmid20 => ?_)
          · -- state [0, 4, 5]
            rintro ⟨r1, os1, q, b9, b10⟩ _
            refine JA.branch [1, 2] (by kernel_rfl) rfl ?_
            refine JAll.cons rfl ?_ ?_
            · -- 1
              refine JO.callN rfl (.none rfl) rfl Tryd.call29 (fun w1 hw1 => ebTwin_any oa cap xs w1 (hb.old hw1) hs2 (by omega)) ?_
              rintro _ _ ⟨r1, os1, rfl, rfl, hr1, hok1, he1⟩
              exact JA.weak rfl (by kernel_rfl) (by exact Keeps.k) (by exact Sub.k) (hmid16 ⟨r1, os1, none, b9, b10⟩ (by exact ⟨hr1, hok1, he1⟩))
            refine JAll.cons rfl ?_ JAll.nil
            refine JO.val rfl rfl rfl (.none rfl) (Ev.lB Tryd.underlying30 Tryd.sizeOf30) ?_
            exact JA.weak rfl (by kernel_rfl) (by exact Keeps.k) (by exact Sub.k) (hmid8 ⟨none, [], none, b9, b10⟩ (by trivial))
          refine JA.mid (X := Option Row × List OE × Option Row × Nat × Nat) (fun ⟨r1, os1, q, b9, b10⟩ => True) (fun ⟨r1, os1, q, b9, b10⟩ => [(71, .agg #[.slice oa xs.length cap]), (9, .pointer (some ⟨b9, 0, none⟩)), (2, .pointer (some ⟨b2, 0, none⟩)), (3, .pointer (some ⟨b3, 0, none⟩)), (5, .bool true), (6, .pointer (some ⟨b6, 0, none⟩)), (8, .int .i64 ((xs.length : Nat) : Int))]) (fun ⟨r1, os1, q, b9, b10⟩ => ((b9, Obj.cells #[.slice none 0 0] 24 (0, 0)) :: ((b6, Obj.cells #[.slice (some ⟨R.g, 0, none⟩) xsc.length R.cap] 24 (0, 0)) :: ((Row.b 30 (some R) ++ oeD 5 osc) ++ [(b3, Obj.cells x.cl.toArray 30 (0, 0)), (b2, Obj.cells #[.slice oa xs.length cap] 24 (0, 0))])))) 6 #[true, false, false, false, true, false, false, false] ?_ (fun hmid21 => ?_)
          · -- state [0, 4]
            rintro ⟨r1, os1, q, b9, b10⟩ _
            refine JA.branch [1, 2, 5] (by kernel_rfl) rfl ?_
            refine JAll.cons rfl ?_ ?_
            · -- 1
              refine JO.callN rfl (.none rfl) rfl Tryd.call29 (fun w1 hw1 => ebTwin_any oa cap xs w1 (hb.old hw1) hs2 (by omega)) ?_
              rintro _ _ ⟨r1, os1, rfl, rfl, hr1, hok1, he1⟩
              exact JA.weak rfl (by kernel_rfl) (by exact Keeps.k) (by exact Sub.k) (hmid17 ⟨r1, os1, none, b9, 0⟩ (by exact ⟨hr1, hok1, he1⟩))
            refine JAll.cons rfl ?_ ?_
            · -- 2
              refine JO.val rfl rfl rfl (.none rfl) (Ev.lB Tryd.underlying30 Tryd.sizeOf30) ?_
              exact JA.weak rfl (by kernel_rfl) (by exact Keeps.k) (by exact Sub.k) (hmid9 ⟨none, [], none, b9, 0⟩ (by trivial))
            refine JAll.cons rfl ?_ JAll.nil
            refine JO.new rfl rfl rfl (.none rfl) (En.allocZ (cs := #[u8 0, .slice none 0 0]) Tryd.zeroValue30 rfl) (fun b10 hb10 => ?_)
            exact JA.weak rfl (by kernel_rfl) (by exact Keeps.k) (by exact Sub.k) (hmid20 ⟨none, [], none, b9, b10⟩ (by trivial))
          refine JA.mid (X := Option Row × List OE × Option Row × Nat × Nat) (fun ⟨r1, os1, q, b9, b10⟩ => True) (fun ⟨r1, os1, q, b9, b10⟩ => [(71, .agg #[.slice oa xs.length cap]), (10, .pointer (some ⟨b10, 0, none⟩)), (2, .pointer (some ⟨b2, 0, none⟩)), (3, .pointer (some ⟨b3, 0, none⟩)), (5, .bool true), (6, .pointer (some ⟨b6, 0, none⟩)), (8, .int .i64 ((xs.length : Nat) : Int))]) (fun ⟨r1, os1, q, b9, b10⟩ => ((b10, Obj.cells #[u8 0, .slice none 0 0] 30 (0, 0)) :: ((b6, Obj.cells #[.slice (some ⟨R.g, 0, none⟩) xsc.length R.cap] 24 (0, 0)) :: ((Row.b 30 (some R) ++ oeD 5 osc) ++ [(b3, Obj.cells x.cl.toArray 30 (0, 0)), (b2, Obj.cells #[.slice oa xs.length cap] 24 (0, 0))])))) 6 #[true, false, false, false, false, true, false, false] ?_ (fun hmid22 => ?_)
          · -- state [0, 5]
            rintro ⟨r1, os1, q, b9, b10⟩ _
            refine JA.branch [1, 2, 4] (by kernel_rfl) rfl ?_
            refine JAll.cons rfl ?_ ?_
            · -- 1
              refine JO.callN rfl (.none rfl) rfl Tryd.call29 (fun w1 hw1 => ebTwin_any oa cap xs w1 (hb.old hw1) hs2 (by omega)) ?_
              rintro _ _ ⟨r1, os1, rfl, rfl, hr1, hok1, he1⟩
              exact JA.weak rfl (by kernel_rfl) (by exact Keeps.k) (by exact Sub.k) (hmid18 ⟨r1, os1, none, 0, b10⟩ (by exact ⟨hr1, hok1, he1⟩))
            refine JAll.cons rfl ?_ ?_
            · -- 2
              refine JO.val rfl rfl rfl (.none rfl) (Ev.lB Tryd.underlying30 Tryd.sizeOf30) ?_
              exact JA.weak rfl (by kernel_rfl) (by exact Keeps.k) (by exact Sub.k) (hmid10 ⟨none, [], none, 0, b10⟩ (by trivial))
            refine JAll.cons rfl ?_ JAll.nil
            refine JO.new rfl rfl rfl (.none rfl) (En.allocZ (cs := #[.slice none 0 0]) Tryd.zeroValue24 rfl) (fun b9 hb9 => ?_)
            exact JA.weak rfl (by kernel_rfl) (by exact Keeps.k) (by exact Sub.k) (hmid20 ⟨none, [], none, b9, b10⟩ (by trivial))
          refine JA.mid (X := Option Row × List OE × Option Row × Nat × Nat) (fun ⟨r1, os1, q, b9, b10⟩ => True) (fun ⟨r1, os1, q, b9, b10⟩ => [(71, .agg #[.slice oa xs.length cap]), (2, .pointer (some ⟨b2, 0, none⟩)), (3, .pointer (some ⟨b3, 0, none⟩)), (5, .bool true), (6, .pointer (some ⟨b6, 0, none⟩)), (8, .int .i64 ((xs.length : Nat) : Int))]) (fun ⟨r1, os1, q, b9, b10⟩ => ((b6, Obj.cells #[.slice (some ⟨R.g, 0, none⟩) xsc.length R.cap] 24 (0, 0)) :: ((Row.b 30 (some R) ++ oeD 5 osc) ++ [(b3, Obj.cells x.cl.toArray 30 (0, 0)), (b2, Obj.cells #[.slice oa xs.length cap] 24 (0, 0))]))) 7 #[true, false, false, false, false, false, false, false] ?_ (fun hmid23 => ?_)
          · -- state [0]
            rintro ⟨r1, os1, q, b9, b10⟩ _
            refine JA.branch [1, 2, 4, 5] (by kernel_rfl) rfl ?_
            refine JAll.cons rfl ?_ ?_
            · -- 1
              refine JO.callN rfl (.none rfl) rfl Tryd.call29 (fun w1 hw1 => ebTwin_any oa cap xs w1 (hb.old hw1) hs2 (by omega)) ?_
              rintro _ _ ⟨r1, os1, rfl, rfl, hr1, hok1, he1⟩
              exact JA.weak rfl (by kernel_rfl) (by exact Keeps.k) (by exact Sub.k) (hmid19 ⟨r1, os1, none, 0, 0⟩ (by exact ⟨hr1, hok1, he1⟩))
            refine JAll.cons rfl ?_ ?_
            · -- 2
              refine JO.val rfl rfl rfl (.none rfl) (Ev.lB Tryd.underlying30 Tryd.sizeOf30) ?_
              exact JA.weak rfl (by kernel_rfl) (by exact Keeps.k) (by exact Sub.k) (hmid11 ⟨none, [], none, 0, 0⟩ (by trivial))
            refine JAll.cons rfl ?_ ?_
            · -- 4
              refine JO.new rfl rfl rfl (.none rfl) (En.allocZ (cs := #[.slice none 0 0]) Tryd.zeroValue24 rfl) (fun b9 hb9 => ?_)
              exact JA.weak rfl (by kernel_rfl) (by exact Keeps.k) (by exact Sub.k) (hmid21 ⟨none, [], none, b9, 0⟩ (by trivial))
            refine JAll.cons rfl ?_ JAll.nil
            refine JO.new rfl rfl rfl (.none rfl) (En.allocZ (cs := #[u8 0, .slice none 0 0]) Tryd.zeroValue30 rfl) (fun b10 hb10 => ?_)
            exact JA.weak rfl (by kernel_rfl) (by exact Keeps.k) (by exact Sub.k) (hmid22 ⟨none, [], none, 0, b10⟩ (by trivial))
          refine JA.mid (X := Option Row × List OE × Option Row × Nat × Nat) (fun ⟨r1, os1, q, b9, b10⟩ => True) (fun ⟨r1, os1, q, b9, b10⟩ => [(9, .pointer (some ⟨b9, 0, none⟩)), (10, .pointer (some ⟨b10, 0, none⟩)), (2, .pointer (some ⟨b2, 0, none⟩)), (3, .pointer (some ⟨b3, 0, none⟩)), (5, .bool true), (6, .pointer (some ⟨b6, 0, none⟩)), (8, .int .i64 ((xs.length : Nat) : Int))]) (fun ⟨r1, os1, q, b9, b10⟩ => ((b10, Obj.cells #[u8 0, .slice none 0 0] 30 (0, 0)) :: ((b9, Obj.cells #[.slice none 0 0] 24 (0, 0)) :: ((b6, Obj.cells #[.slice (some ⟨R.g, 0, none⟩) xsc.length R.cap] 24 (0, 0)) :: ((Row.b 30 (some R) ++ oeD 5 osc) ++ [(b3, Obj.cells x.cl.toArray 30 (0, 0)), (b2, Obj.cells #[.slice oa xs.length cap] 24 (0, 0))]))))) 6 #[false, false, false, false, true, true, false, false] ?_ (fun hmid24 => ?_)
          · -- state [4, 5]
            rintro ⟨r1, os1, q, b9, b10⟩ _
            refine JA.branch [0, 2] (by kernel_rfl) rfl ?_
            refine JAll.cons rfl ?_ ?_
            · -- 0
              refine JO.val rfl rfl rfl (.none rfl) (Ev.lB Tryd.underlying24 Tryd.sizeOf24) ?_
              exact JA.weak rfl (by kernel_rfl) (by exact Keeps.k) (by exact Sub.k) (hmid20 ⟨none, [], none, b9, b10⟩ (by trivial))
            refine JAll.cons rfl ?_ JAll.nil
            refine JO.val rfl rfl rfl (.none rfl) (Ev.lB Tryd.underlying30 Tryd.sizeOf30) ?_
            exact JA.weak rfl (by kernel_rfl) (by exact Keeps.k) (by exact Sub.k) (hmid12 ⟨none, [], none, b9, b10⟩ (by trivial))
          refine JA.mid (X := Option Row × List OE × Option Row × Nat × Nat) (fun ⟨r1, os1, q, b9, b10⟩ => True) (fun ⟨r1, os1, q, b9, b10⟩ => [(9, .pointer (some ⟨b9, 0, none⟩)), (2, .pointer (some ⟨b2, 0, none⟩)), (3, .pointer (some ⟨b3, 0, none⟩)), (5, .bool true), (6, .pointer (some ⟨b6, 0, none⟩)), (8, .int .i64 ((xs.length : Nat) : Int))]) (fun ⟨r1, os1, q, b9, b10⟩ => ((b9, Obj.cells #[.slice none 0 0] 24 (0, 0)) :: ((b6, Obj.cells #[.slice (some ⟨R.g, 0, none⟩) xsc.length R.cap] 24 (0, 0)) :: ((Row.b 30 (some R) ++ oeD 5 osc) ++ [(b3, Obj.cells x.cl.toArray 30 (0, 0)), (b2, Obj.cells #[.slice oa xs.length cap] 24 (0, 0))])))) 7 #[false, false, false, false, true, false, false, false] ?_ (fun hmid25 => ?_)
          · -- state [4]
            rintro ⟨r1, os1, q, b9, b10⟩ _
            refine JA.branch [0, 2, 5] (by kernel_rfl) rfl ?_
            refine JAll.cons rfl ?_ ?_
            · -- 0
              refine JO.val rfl rfl rfl (.none rfl) (Ev.lB Tryd.underlying24 Tryd.sizeOf24) ?_
              exact JA.weak rfl (by kernel_rfl) (by exact Keeps.k) (by exact Sub.k) (hmid21 ⟨none, [], none, b9, 0⟩ (by trivial))
            refine JAll.cons rfl ?_ ?_
            · -- 2
              refine JO.val rfl rfl rfl (.none rfl) (Ev.lB Tryd.underlying30 Tryd.sizeOf30) ?_
              exact JA.weak rfl (by kernel_rfl) (by exact Keeps.k) (by exact Sub.k) (hmid13 ⟨none, [], none, b9, 0⟩ (by trivial))
            refine JAll.cons rfl ?_ JAll.nil
            refine JO.new rfl rfl rfl (.none rfl) (En.allocZ (cs := #[u8 0, .slice none 0 0]) Tryd.zeroValue30 rfl) (fun b10 hb10 => ?_)
            exact JA.weak rfl (by kernel_rfl) (by exact Keeps.k) (by exact Sub.k) (hmid24 ⟨none, [], none, b9, b10⟩ (by trivial))
          refine JA.mid (X := Option Row × List OE × Option Row × Nat × Nat) (fun ⟨r1, os1, q, b9, b10⟩ => True) (fun ⟨r1, os1, q, b9, b10⟩ => [(10, .pointer (some ⟨b10, 0, none⟩)), (2, .pointer (some ⟨b2, 0, none⟩)), (3, .pointer (some ⟨b3, 0, none⟩)), (5, .bool true), (6, .pointer (some ⟨b6, 0, none⟩)), (8, .int .i64 ((xs.length : Nat) : Int))]) (fun ⟨r1, os1, q, b9, b10⟩ => ((b10, Obj.cells #[u8 0, .slice none 0 0] 30 (0, 0)) :: ((b6, Obj.cells #[.slice (some ⟨R.g, 0, none⟩) xsc.length R.cap] 24 (0, 0)) :: ((Row.b 30 (some R) ++ oeD 5 osc) ++ [(b3, Obj.cells x.cl.toArray 30 (0, 0)), (b2, Obj.cells #[.slice oa xs.length cap] 24 (0, 0))])))) 7 #[false, false, false, false, false, true, false, false] ?_ (fun hmid26 => ?_)
          · -- state [5]
            rintro ⟨r1, os1, q, b9, b10⟩ _
            refine JA.branch [0, 2, 4] (by kernel_rfl) rfl ?_
            refine JAll.cons rfl ?_ ?_
            · -- 0
              refine JO.val rfl rfl rfl (.none rfl) (Ev.lB Tryd.underlying24 Tryd.sizeOf24) ?_
              exact JA.weak rfl (by kernel_rfl) (by exact Keeps.k) (by exact Sub.k) (hmid22 ⟨none, [], none, 0, b10⟩ (by trivial))
            refine JAll.cons rfl ?_ ?_
            · -- 2
              refine JO.val rfl rfl rfl (.none rfl) (Ev.lB Tryd.underlying30 Tryd.sizeOf30) ?_
              exact JA.weak rfl (by kernel_rfl) (by exact Keeps.k) (by exact Sub.k) (hmid14 ⟨none, [], none, 0, b10⟩ (by trivial))
            refine JAll.cons rfl ?_ JAll.nil
            refine JO.new rfl rfl rfl (.none rfl) (En.allocZ (cs := #[.slice none 0 0]) Tryd.zeroValue24 rfl) (fun b9 hb9 => ?_)
            exact JA.weak rfl (by kernel_rfl) (by exact Keeps.k) (by exact Sub.k) (hmid24 ⟨none, [], none, b9, b10⟩ (by trivial))
          refine JA.branch [0, 2, 4, 5] (by kernel_rfl) rfl ?_
          refine JAll.cons rfl ?_ ?_
          · -- 0
            refine JO.val rfl rfl rfl (.none rfl) (Ev.lB Tryd.underlying24 Tryd.sizeOf24) ?_
            exact JA.weak rfl (by kernel_rfl) (by exact Keeps.k) (by exact Sub.k) (hmid23 ⟨none, [], none, 0, 0⟩ (by trivial))
          refine JAll.cons rfl ?_ ?_
          · -- 2
            refine JO.val rfl rfl rfl (.none rfl) (Ev.lB Tryd.underlying30 Tryd.sizeOf30) ?_
            exact JA.weak rfl (by kernel_rfl) (by exact Keeps.k) (by exact Sub.k) (hmid15 ⟨none, [], none, 0, 0⟩ (by trivial))
          refine JAll.cons rfl ?_ ?_
          · -- 4
            refine JO.new rfl rfl rfl (.none rfl) (En.allocZ (cs := #[.slice none 0 0]) Tryd.zeroValue24 rfl) (fun b9 hb9 => ?_)
            exact JA.weak rfl (by kernel_rfl) (by exact Keeps.k) (by exact Sub.k) (hmid25 ⟨none, [], none, b9, 0⟩ (by trivial))
          refine JAll.cons rfl ?_ JAll.nil
          refine JO.new rfl rfl rfl (.none rfl) (En.allocZ (cs := #[u8 0, .slice none 0 0]) Tryd.zeroValue30 rfl) (fun b10 hb10 => ?_)
          exact JA.weak rfl (by kernel_rfl) (by exact Keeps.k) (by exact Sub.k) (hmid26 ⟨none, [], none, 0, b10⟩ (by trivial))
        rintro ⟨⟨r1, os1, q, b9, b10⟩, hr1, hok1, he1, hq⟩
        obtain ⟨o1, c1, xs1, _, ev1, em1, hB1⟩ := own_bd (e := 30) (t := 5) hr1 hok1
        refine JQ.reH (b := b9) (o' := Obj.cells #[.slice o1 xs1.length c1] 24 (0, 0)) (by repeat (first | exact .here | apply Upd.there | apply Upd.assoc | apply Upd.left)) (by rw [ev1]) ?_
        have hxe1 : xs1.map Et.e = (xs.map Et.e) := em1.trans he1
        refine JQ.reH (b := b10) (o' := Obj.cells (OE.et ⟨x.k, q, x.l⟩).cl.toArray 30 (0, 0)) (by repeat (first | exact .here | apply Upd.there | apply Upd.assoc | apply Upd.left)) (by rw [OE.et_cl hq]) ?_
        refine JQ.thenN ?_
        refine JC.seq ?_
        refine JC.seq ?_
        refine JC.region ?_
        refine JL.asg ?_
        refine JL.nil ?_
        refine JQ.thenN ?_
        refine JC.block ?_
        refine JC.loop (X := Nat × List OE × Array Value)
          (fun ⟨i, os, cs⟩ => [(2, .pointer (some ⟨b2, 0, none⟩)), (3, .pointer (some ⟨b3, 0, none⟩)), (5, .bool true), (6, .pointer (some ⟨b6, 0, none⟩)), (8, .int .i64 ((xs.length : Nat) : Int)), (9, .pointer (some ⟨b9, 0, none⟩)), (10, .pointer (some ⟨b10, 0, none⟩)), (11, .int .i64 (i : Int))])
          (fun ⟨i, os, cs⟩ => (b6, Obj.cells #[.slice (some ⟨R.g, 0, none⟩) xsc.length R.cap] 24 (0, 0)) :: (R.g, Obj.cells cs 30 (0, 0)) :: (oeD 5 os ++ ((b9, Obj.cells #[.slice o1 xs1.length c1] 24 (0, 0)) :: (b10, Obj.cells (OE.et ⟨x.k, q, x.l⟩).cl.toArray 30 (0, 0)) :: ((Row.b 30 r1 ++ oeD 5 os1) ++ (Row.b 5 q ++ [(b3, Obj.cells x.cl.toArray 30 (0, 0)), (b2, Obj.cells #[.slice oa xs.length cap] 24 (0, 0))])))))
          (fun ⟨i, os, cs⟩ => i ≤ xs.length + 1 ∧ os.length = xs.length + 1 ∧ Row.ok 2 os.length (oef os) (some ⟨R.g, R.cap, cs⟩) ∧ ∀ o ∈ os, o.ok)
          (fun ⟨i, os, cs⟩ => xs.length + 1 - i) (0, osc, R.cs) ?_ ?_ ?_ ?_
        · exact Keeps.k
        · exact Sub.of_cnt (fun a => by (try dsimp only); simp only [cntA]; omega)
        · exact ⟨by omega, hol, hrc, hokc⟩
        rintro ⟨i, os, cs⟩ ⟨hi, hlO, hrO, hokO⟩
        refine JC.seq ?_
        refine JC.seq ?_
        refine JC.region ?_
        refine JL.mv ?_
        refine JL.mv ?_
        refine JL.val rfl rfl rfl (.none rfl) (Ev.bin rfl rfl leq_int) ?_
        refine JL.nil ?_
        refine JQ.thenN ?_
        refine JC.cond rfl (fun hc2 => ?_) (fun hc2 => ?_)
        · -- t77 True
          replace hc2 := of_decide_eq_true hc2
          obtain ⟨A, o, B, rfl, hAl⟩ := split_at (l := os) (i := i) (by omega)
          subst hAl
          refine JC.subH2 (H' := (b6, Obj.cells #[.slice (some ⟨R.g, 0, none⟩) xsc.length R.cap] 24 (0, 0)) :: (R.g, Obj.cells cs 30 (0, 0)) :: (Row.b 5 o.q ++ (oeD 5 A ++ (oeD 5 B ++ ((b9, Obj.cells #[.slice o1 xs1.length c1] 24 (0, 0)) :: (b10, Obj.cells (OE.et ⟨x.k, q, x.l⟩).cl.toArray 30 (0, 0)) :: ((Row.b 30 r1 ++ oeD 5 os1) ++ (Row.b 5 q ++ [(b3, Obj.cells x.cl.toArray 30 (0, 0)), (b2, Obj.cells #[.slice oa xs.length cap] 24 (0, 0))]))))))) (Sub.of_cnt (fun a => by have := oeD_mid 5 A o B a; (try dsimp only); simp only [cntA] at this ⊢; omega)) ?_
          have hoo : o.ok := hokO o (by simp)
          have hcell := own_cell hrO
          have hcz := own_size hrO
          refine JC.skip ?_
          refine JQ.thenN ?_
          refine JC.seq ?_
          refine JC.block ?_
          refine JC.seq ?_
          refine JC.seq ?_
          refine JC.region ?_
          refine JL.asg ?_
          refine JL.nil ?_
          refine JQ.thenN ?_
          refine JC.block ?_
          refine JC.loop (X := Nat × Option Row × List UInt8)
            (fun ⟨j, p, l⟩ => [(2, .pointer (some ⟨b2, 0, none⟩)), (3, .pointer (some ⟨b3, 0, none⟩)), (5, .bool true), (6, .pointer (some ⟨b6, 0, none⟩)), (8, .int .i64 ((xs.length : Nat) : Int)), (9, .pointer (some ⟨b9, 0, none⟩)), (10, .pointer (some ⟨b10, 0, none⟩)), (11, .int .i64 ((A.length : Nat) : Int)), (12, .int .i64 (j : Int))])
            (fun ⟨j, p, l⟩ => (b6, Obj.cells #[.slice (some ⟨R.g, 0, none⟩) xsc.length R.cap] 24 (0, 0)) :: (R.g, Obj.cells cs 30 (0, 0)) :: (Row.b 5 p ++ (oeD 5 A ++ (oeD 5 B ++ ((b9, Obj.cells #[.slice o1 xs1.length c1] 24 (0, 0)) :: (b10, Obj.cells (OE.et ⟨x.k, q, x.l⟩).cl.toArray 30 (0, 0)) :: ((Row.b 30 r1 ++ oeD 5 os1) ++ (Row.b 5 q ++ [(b3, Obj.cells x.cl.toArray 30 (0, 0)), (b2, Obj.cells #[.slice oa xs.length cap] 24 (0, 0))])))))))
            (fun ⟨j, p, l⟩ => j ≤ l.length ∧ l.length = o.l.length ∧ Row.ok 1 l.length (l.map u8) p ∧ Row.v l.length p = Row.v o.l.length o.q)
            (fun ⟨j, p, l⟩ => l.length - j) (0, o.q, o.l) ?_ ?_ ?_ ?_
          · exact Keeps.k
          · exact Sub.k
          · exact ⟨Nat.zero_le _, rfl, hoo, rfl⟩
          rintro ⟨j, p, l⟩ ⟨hj, hll, hp, hv⟩
          refine JC.seq ?_
          refine JC.seq ?_
          refine JC.region ?_
          refine JL.mv ?_
          refine JL.val rfl rfl rfl (.none rfl) (Ev.fld 0 rfl (fun _ _ => by kernel_rfl)) ?_
          refine JL.val rfl rfl rfl (.none rfl) (Ev.load1 rfl Tryd.underlying22 rfl (Rd.own memK rfl)) ?_
          refine JL.mv ?_
          refine JL.val rfl rfl rfl (.none rfl) (Ev.idxS0k (s := 2) rfl rfl Tryd.underlying22 Tryd.sizeOf30 (k := A.length) rfl (by omega)) ?_
          refine JL.val rfl rfl rfl (.none rfl) (Ev.fld 1 rfl (fun _ _ => by kernel_rfl)) ?_
          refine JL.val rfl rfl rfl (.none rfl) (Ev.load1 rfl Tryd.underlying28 rfl (Rd.own memK hcell)) ?_
          refine JL.val rfl rfl rfl (.none rfl) (Ev.lenRow2 rfl Tryd.underlying28 hoo) ?_
          refine JL.val rfl rfl rfl (.none rfl) (Ev.bin rfl rfl lss_int) ?_
          refine JL.nil ?_
          refine JQ.thenN ?_
          refine JC.cond rfl (fun hc3 => ?_) (fun hc3 => ?_)
          · -- t88 True
            replace hc3 := of_decide_eq_true hc3
            have hjl : j < l.length := by omega
            obtain ⟨Q, rfl⟩ : ∃ Q, p = some Q := by cases p with | none => (have := hp.1; omega) | some Q => exact ⟨Q, rfl⟩
            obtain ⟨y, hy⟩ := get_some hjl
            have hm1 := hp.2.1
            have hm2 : Q.cap ≤ 9223372036854775807 := hp.2.2.1
            refine JC.skip ?_
            refine JQ.thenN ?_
            refine JC.seq ?_
            refine JC.block ?_
            refine JC.region ?_
            refine JL.val rfl rfl rfl (.none rfl) (Ev.fld 0 rfl (fun _ _ => by kernel_rfl)) ?_
            refine JL.val rfl rfl rfl (.none rfl) (Ev.load1 rfl Tryd.underlying22 rfl (Rd.own memK rfl)) ?_
            refine JL.mv ?_
            refine JL.val rfl rfl rfl (.none rfl) (Ev.idxS0k (s := 2) rfl rfl Tryd.underlying22 Tryd.sizeOf30 (k := A.length) rfl (by omega)) ?_
            refine JL.val rfl rfl rfl (.none rfl) (Ev.fld 1 rfl (fun _ _ => by kernel_rfl)) ?_
            refine JL.val rfl rfl rfl (.none rfl) (Ev.load1 rfl Tryd.underlying28 rfl (Rd.own memK hcell)) ?_
            refine JL.re (d := 96) (v' := .slice (some ⟨Q.g, 0, none⟩) l.length Q.cap) rfl hv.symm ?_
            refine JL.mv ?_
            refine JL.val rfl rfl rfl (.none rfl) (Ev.idxS0 rfl rfl Tryd.underlying28 Tryd.sizeOf5 (k := j) rfl (by omega)) ?_
            refine JL.val rfl rfl rfl (.none rfl) (Ev.load1 rfl Tryd.underlying5 rfl (Row.rd hp memK hy)) ?_
            refine JL.val rfl rfl rfl (.none rfl) (Ev.bin rfl rfl (add8 (y := 1))) ?_
            refine JL.val rfl rfl rfl (.none rfl) (Ev.idxS0 rfl rfl Tryd.underlying28 Tryd.sizeOf5 (k := j) rfl (by omega)) ?_
            refine JL.sto rfl rfl (.none rfl) (Es.store1 rfl rfl Tryd.sizeOf5 rfl rfl Upd.k (by have := hp.2.2.2.1; have := hp.2.1; omega)) ?_
            refine JL.nil ?_
            refine JQ.blockN ?_
            refine JQ.thenN ?_
            refine JC.region ?_
            refine JL.mv ?_
            refine JL.val rfl rfl rfl (.none rfl) (Ev.bin rfl rfl (add_i64 (by omega))) ?_
            refine JL.asg ?_
            refine JL.nil ?_
            refine JQ.loopN (j + 1, some { Q with cs := Q.cs.setIfInBounds j (u8 (y + 1)) }, l.set j (y + 1)) ?_ ?_ ?_ ?_
            · exact Keeps.k
            · exact Sub.k
            · exact ⟨by rw [List.length_set]; omega, by rw [List.length_set]; exact hll, by rw [List.length_set]; exact Row.setAt (y + 1) hp hjl, by rw [List.length_set]; exact hv⟩
            · show (l.set j (y + 1)).length - (j + 1) < l.length - j; rw [List.length_set]; omega
          · -- t88 False
            replace hc3 := of_decide_eq_false hc3
            refine JC.exit ?_
            refine JQ.thenE ?_
            refine JQ.thenE ?_
            refine JQ.blockE ?_
            refine JQ.thenN ?_
            refine JC.region ?_
            refine JL.val rfl rfl rfl (.none rfl) (Ev.fld 0 rfl (fun _ _ => by kernel_rfl)) ?_
            refine JL.val rfl rfl rfl (.none rfl) (Ev.load1 rfl Tryd.underlying22 rfl (Rd.own memK rfl)) ?_
            refine JL.mv ?_
            refine JL.val rfl rfl rfl (.none rfl) (Ev.idxS0k (s := 2) rfl rfl Tryd.underlying22 Tryd.sizeOf30 (k := A.length) rfl (by omega)) ?_
            refine JL.val rfl rfl rfl (.none rfl) (Ev.fld 0 rfl (fun _ _ => by kernel_rfl)) ?_
            refine JL.sto rfl rfl (.none rfl) (Es.store1 rfl rfl Tryd.sizeOf5 rfl rfl Upd.k (by omega)) ?_
            refine JL.reH (b := R.g) (o' := Obj.cells (cs.setIfInBounds (A.length * 2) (u8 0)) 30 (0, 0)) (by repeat (first | exact .here | apply Upd.there | apply Upd.assoc | apply Upd.left)) rfl ?_
            refine JL.nil ?_
            refine JQ.blockN ?_
            refine JQ.thenN ?_
            refine JC.region ?_
            refine JL.mv ?_
            refine JL.val rfl rfl rfl (.none rfl) (Ev.bin rfl rfl (add_i64 (by omega))) ?_
            refine JL.asg ?_
            refine JL.nil ?_
            refine JQ.loopN (A.length + 1, A ++ ⟨0, p, l⟩ :: B, cs.setIfInBounds (A.length * 2) (u8 0)) ?_ ?_ ?_ ?_
            · exact Keeps.k
            · exact Sub.of_cnt (fun a => by have := oeD_mid 5 A ⟨0, p, l⟩ B a; (try dsimp only); simp only [cntA] at this ⊢; omega)
            · exact ⟨by omega, by simpa using hlO, own_kind hrO hv, own_put hokO hp⟩
            · show xs.length + 1 - (A.length + 1) < xs.length + 1 - A.length; omega
        · -- t77 False
          replace hc2 := of_decide_eq_false hc2
          refine JC.exit ?_
          refine JQ.thenE ?_
          refine JQ.thenE ?_
          refine JQ.blockE ?_
          refine JQ.thenN ?_
          refine JC.seq ?_
          refine JC.region ?_
          refine JL.mv ?_
          refine JL.mv ?_
          refine JL.know (d := 108) (b := true) rfl ?_ ?_
          · rfl
          refine JL.val rfl rfl rfl (.yes rfl rfl rfl) (Ev.lB Tryd.underlying24 Tryd.sizeOf24) ?_
          refine JL.val rfl rfl rfl (.yes rfl rfl rfl) (Ev.lB Tryd.underlying24 Tryd.sizeOf24) ?_
          refine JL.callV rfl (.yes rfl rfl rfl) rfl Tryd.call27 (fun w1 hw1 => ebSame_any o1 oa c1 cap xs1 xs w1 (hB1 w1 hw1 (fun p hp => by rcases List.mem_append.1 hp with hp | hp <;> simp [hp])) (hb.old hw1)) ?_
          refine JL.val rfl rfl rfl (.none rfl) (Ev.pickT rfl rfl) ?_
          refine JL.mv ?_
          refine JL.know (d := 113) (b := true) rfl ?_ ?_
          · exact decide_eq_true hxe1
          refine JL.val rfl rfl rfl (.yes rfl rfl rfl) (Ev.lB Tryd.underlying30 Tryd.sizeOf30) ?_
          refine JL.val rfl rfl rfl (.yes rfl rfl rfl) (Ev.lB Tryd.underlying30 Tryd.sizeOf30) ?_
          refine JL.callV rfl (.yes rfl rfl rfl) rfl Tryd.call28 (fun w1 hw1 => sameE_any (OE.et ⟨x.k, q, x.l⟩) x w1 (own_bs (t := 5) hq w1 hw1 (fun p hp => by simp [hp])) (hx.old hw1)) ?_
          refine JL.val rfl rfl rfl (.none rfl) (Ev.pickT rfl rfl) ?_
          refine JL.asg ?_
          refine JL.nil ?_
          refine JQ.thenN ?_
          refine JC.ret ?_
          refine JQ.end1 (H' := []) (.inl rfl) rfl (.tmp rfl) ?_ ?_
          · exact Sub.k
          · first | rfl | exact congrArg Value.bool (decide_eq_true rfl) | exact congrArg Value.bool (decide_eq_true (OE.et_e _))

end Go.Proofs.YtopaednfjjjnbaaDoor
