/-
  Heads of boards: their text, signed and verified; the law of signed heads.
-/
import Derived.Test.YtopaednfjjjnbaaDoorOrdNm
namespace Go.Proofs.YtopaednfjjjnbaaDoor
open Go Go.RowKit
set_option maxRecDepth 100000

theorem JO.re {c : Cx} {ops : Array Oper} {σ : Slots} {H : Blocks} {o : Oper} {K : Act → World → Prop} {Q : Post1} {d : Nat} {v v' : Value} (h : look σ d = some v) (hv : v = v') (h1 : JO c ops ((d, v') :: σ) H o K Q) : JO c ops σ H o K Q := by
  subst hv
  exact fun a w hf hw => h1 a w (hf.over h) hw
/-- A size as the text holds it. -/
def sz (n : Int) : UInt32 := UInt32.ofNat (n % 4294967296).toNat
theorem convw {P : Program} {s d : TypeId} {n : Int} (hs : P.underlying s = some (.int .i64)) (hd : P.underlying d = some (.int .u32)) : Conv1 P s d (.int .i64 n) (u32 (sz n)) := by
  have h := conv_int (P := P) (s := s) (d := d) (k0 := .i64) (n := n) hs hd
  have e : IntKind.u32.wrap n = ((sz n).toNat : Int) := by
    rw [IntKind.wrap_u32', sz, UInt32.toNat_ofNat']
    omega
  rw [e] at h
  exact h
/-- The bytes of a head that are signed. -/
def txt (h : Hd) : List UInt8 := [(sz h.n >>> UInt32.ofNat 24).toUInt8, (sz h.n >>> UInt32.ofNat 16).toUInt8, (sz h.n >>> UInt32.ofNat 8).toUInt8, (sz h.n).toUInt8] ++ h.root.1
theorem txt_length (h : Hd) : (txt h).length = 36 := by rw [txt, List.length_append, h.root.2]; rfl
theorem txt_ok {h : Hd} {r : Option Row} (hr : Row.ok 1 (4 + 32) ([u8 (sz h.n >>> UInt32.ofNat 24).toUInt8, u8 (sz h.n >>> UInt32.ofNat 16).toUInt8, u8 (sz h.n >>> UInt32.ofNat 8).toUInt8, u8 (sz h.n).toUInt8] ++ h.root.1.map u8) r) : Row.ok 1 (txt h).length ((txt h).map u8) r := by
  have e : (txt h).map u8 = [u8 (sz h.n >>> UInt32.ofNat 24).toUInt8, u8 (sz h.n >>> UInt32.ofNat 16).toUInt8, u8 (sz h.n >>> UInt32.ofNat 8).toUInt8, u8 (sz h.n).toUInt8] ++ h.root.1.map u8 := by
    rw [txt, List.map_append]
    rfl
  rw [txt_length, e]
  exact hr
theorem Hd.sign (n : Int) (d : Dig) (a b : UInt64) : over (Hd.cl ⟨n, d, 0, 0⟩).toArray (0 + 33) [u64 a, u64 b] = (Hd.cl ⟨n, d, a, b⟩).toArray := by
  unfold over
  apply Array.toList_inj.1
  have e1 : (Hd.cl ⟨n, d, 0, 0⟩).toArray.toList = (.int .i64 n :: d.1.map u8) ++ [u64 0, u64 0] := rfl
  have hl : (Value.int .i64 n :: d.1.map u8).length = 33 := by rw [List.length_cons, List.length_map, d.2]
  show (Hd.cl ⟨n, d, 0, 0⟩).toArray.toList.take (0 + 33) ++ [u64 a, u64 b] ++ (Hd.cl ⟨n, d, 0, 0⟩).toArray.toList.drop (0 + 33 + 2) = _
  rw [e1, List.take_left' (by rw [hl]), List.drop_eq_nil_of_le (by rw [List.length_append, hl]; exact Nat.le_refl _), List.append_nil]
  rfl
def sgE (g : Gp) (x : UInt64) (xs : List Ent) : Int := if okB xs then kyE g x else 8
def sgH (g : Gp) (x : UInt64) (xs : List Ent) : Hd := if okB xs ∧ kyE g x = 0 then ⟨((xs.length : Nat) : Int), brV xs, (sigR g x (txt ⟨((xs.length : Nat) : Int), brV xs, 0, 0⟩)).1, (sigR g x (txt ⟨((xs.length : Nat) : Int), brV xs, 0, 0⟩)).2⟩ else ⟨0, zeroD, 0, 0⟩
section
variable {g : Gp} {x : UInt64} {xs : List Et}
theorem sgE_bad (h : ¬ okB (xs.map Et.e)) : sgE g x (xs.map Et.e) = 8 := if_neg h
theorem sgE_ok (h : okB (xs.map Et.e)) : sgE g x (xs.map Et.e) = kyE g x := if_pos h
theorem sgH_bad (h : ¬ okB (xs.map Et.e)) : sgH g x (xs.map Et.e) = ⟨0, zeroD, 0, 0⟩ := if_neg (fun h2 => h h2.1)
theorem sgH_key (_ : okB (xs.map Et.e)) (h1 : ¬ kyE g x = 0) : sgH g x (xs.map Et.e) = ⟨0, zeroD, 0, 0⟩ := if_neg (fun h2 => h1 h2.2)
theorem sgH_ok (h : okB (xs.map Et.e)) (h1 : kyE g x = 0) : sgH g x (xs.map Et.e) = ⟨((xs.length : Nat) : Int), brV (xs.map Et.e), (sigR g x (txt ⟨((xs.length : Nat) : Int), brV (xs.map Et.e), 0, 0⟩)).1, (sigR g x (txt ⟨((xs.length : Nat) : Int), brV (xs.map Et.e), 0, 0⟩)).2⟩ := by
  rw [sgH, if_pos ⟨h, h1⟩, List.length_map]
end

theorem bText_any (h : Hd) (w : World) :
    Calls Tryd.prog 14 #[.agg h.cl.toArray] w (Ret w (fun v H => ∃ r : Option Row, v = Row.v (txt h).length r ∧ H = Row.b 5 r ∧ Row.ok 1 (txt h).length ((txt h).map u8) r)) := by
  refine enter (vs := [.agg h.cl.toArray]) Tryd.func14 rfl Tryd.ntmps14 rfl ?_
  refine JC.seq ?_
  refine JC.region ?_
  refine JL.new rfl rfl rfl (.none rfl) (En.boxA rfl) (fun b1 hb1 => ?_)
  refine JL.asg ?_
  refine JL.nil ?_
  refine JQ.thenN ?_
  refine JC.seq ?_
  refine JC.region ?_
  refine JL.val rfl rfl rfl (.none rfl) (Ev.fld 0 rfl (fun _ _ => by kernel_rfl)) ?_
  refine JL.val rfl rfl rfl (.none rfl) (Ev.load1 rfl Tryd.underlying3 rfl (Rd.own memK (Hd.get0 h))) ?_
  refine JL.val rfl rfl rfl (.none rfl) (Ev.conv rfl (convw Tryd.underlying3 Tryd.underlying102)) ?_
  refine JL.asg ?_
  refine JL.nil ?_
  refine JQ.thenN ?_
  refine JC.seq ?_
  refine JC.region ?_
  refine JL.mv ?_
  refine JL.val rfl rfl rfl (.none rfl) (Ev.bin rfl rfl (shr_u32 (n := 24) (by decide))) ?_
  refine JL.val rfl rfl rfl (.none rfl) (Ev.conv rfl (conv_u32_u8 Tryd.underlying102 Tryd.underlying5)) ?_
  refine JL.mv ?_
  refine JL.val rfl rfl rfl (.none rfl) (Ev.bin rfl rfl (shr_u32 (n := 16) (by decide))) ?_
  refine JL.val rfl rfl rfl (.none rfl) (Ev.conv rfl (conv_u32_u8 Tryd.underlying102 Tryd.underlying5)) ?_
  refine JL.mv ?_
  refine JL.val rfl rfl rfl (.none rfl) (Ev.bin rfl rfl (shr_u32 (n := 8) (by decide))) ?_
  refine JL.val rfl rfl rfl (.none rfl) (Ev.conv rfl (conv_u32_u8 Tryd.underlying102 Tryd.underlying5)) ?_
  refine JL.mv ?_
  refine JL.val rfl rfl rfl (.none rfl) (Ev.conv rfl (conv_u32_u8 Tryd.underlying102 Tryd.underlying5)) ?_
  refine JL.new rfl rfl rfl (.none rfl) (En.bsN (e := 5) rfl (fun _ => by kernel_rfl)) (fun b18 hb18 => ?_)
  refine JL.val rfl rfl rfl (.none rfl) (Ev.fld 1 rfl (fun _ _ => by kernel_rfl)) ?_
  refine JL.val rfl rfl rfl (.none rfl) (Ev.sliceA rfl Tryd.underlying33 Tryd.sizeOf5) ?_
  refine JL.gen rfl rfl rfl (.none rfl) (Eg.append (r := (some ⟨b18, 4, #[u8 (sz h.n >>> UInt32.ofNat 24).toUInt8, u8 (sz h.n >>> UInt32.ofNat 16).toUInt8, u8 (sz h.n >>> UInt32.ofNat 8).toUInt8, u8 (sz h.n).toUInt8]⟩)) (n := 4) (m := 32) (xs := [u8 (sz h.n >>> UInt32.ofNat 24).toUInt8, u8 (sz h.n >>> UInt32.ofNat 16).toUInt8, u8 (sz h.n >>> UInt32.ofNat 8).toUInt8, u8 (sz h.n).toUInt8]) (news := h.root.1.map u8) (z := (.int .u8 0)) (s := 1) (bytes := 1) rfl rfl rfl Cut.k Tryd.underlying28 (by kernel_rfl) rfl (by decide) (by decide) ⟨rfl, by simp, by simp [maxLen], rfl, rfl⟩ (by rw [List.length_map, h.root.2]) (fun a ha => by cases ha; exact Hd.rds memK) (fun hh => by cases hh) (u8s_one _) (by decide)) ?_
  rintro _ _ ⟨r, rfl, rfl, hr, _⟩
  refine JL.asg ?_
  refine JL.nil ?_
  refine JQ.thenN ?_
  refine JC.ret ?_
  refine JQ.end1 (H' := (Row.b 5 r)) (.inl rfl) rfl (.tmp rfl) ?_ ?_
  · exact Sub.k
  · exact ⟨r, by rw [txt_length], rfl, txt_ok hr⟩

theorem bSign_any (g : Gp) (x : UInt64) (oa : Option Addr) (cap : Nat) (xs : List Et) (w : World) (hb : Bd w oa cap xs) (hk : KMem 1 w) (hf : FMem 0 w) :
    Calls Tryd.prog 21 #[.agg g.cl.toArray, u64 x, .agg #[.slice oa xs.length cap]] w (Ret w (fun v _ => v = .tuple #[.agg (Hd.cl (sgH g x (xs.map Et.e))).toArray, .int .i64 (sgE g x (xs.map Et.e))])) := by
  refine enter (vs := [.agg g.cl.toArray, u64 x, .agg #[.slice oa xs.length cap]]) Tryd.func21 rfl Tryd.ntmps21 rfl ?_
  refine JC.seq ?_
  refine JC.region ?_
  refine JL.new rfl rfl rfl (.none rfl) (En.boxA rfl) (fun b3 hb3 => ?_)
  refine JL.new rfl rfl rfl (.none rfl) (En.boxA rfl) (fun b5 hb5 => ?_)
  refine JL.new rfl rfl rfl (.none rfl) (En.allocZ (cs := (Hd.cl ⟨0, zeroD, 0, 0⟩).toArray) Tryd.zeroValue38 rfl) (fun b6 hb6 => ?_)
  refine JL.asg ?_
  refine JL.nil ?_
  refine JQ.thenN ?_
  refine JC.seq ?_
  refine JC.region ?_
  refine JL.val rfl rfl rfl (.none rfl) (Ev.lB Tryd.underlying24 Tryd.sizeOf24) ?_
  refine JL.callV rfl (.none rfl) rfl Tryd.call34 (fun w1 hw1 => bRoot_any oa cap xs w1 (hb.old hw1) (hk.old hw1) (hf.old hw1)) ?_
  refine JL.mv ?_
  refine JL.val rfl rfl rfl (.none rfl) (Ev.ex0 rfl) ?_
  refine JL.val rfl rfl rfl (.none rfl) (Ev.ex1 rfl) ?_
  refine JL.new rfl rfl rfl (.none rfl) (En.allocZ (cs := arr8 (List.replicate 32 0)) Tryd.zeroValue33 rfl) (fun b8 hb8 => ?_)
  refine JL.sto rfl rfl (.none rfl) (Es.sA Tryd.sizeOf33) ?_
  refine JL.asg ?_
  refine JL.nil ?_
  refine JQ.thenN ?_
  refine JC.seq ?_
  refine JC.seq ?_
  refine JC.region ?_
  refine JL.mv ?_
  refine JL.val rfl rfl rfl (.none rfl) (Ev.bin rfl rfl neq_int) ?_
  refine JL.nil ?_
  refine JQ.thenN ?_
  refine JC.cond rfl (fun hc => ?_) (fun hc => ?_)
  · -- t18 True
    have hbad : ¬ okB (xs.map Et.e) := fun h => by rw [ckE_ok h] at hc; simp at hc
    refine JC.seq ?_
    refine JC.region ?_
    refine JL.val rfl rfl rfl (.none rfl) (Ev.build (parts := []) (vs := []) (cs := (Hd.cl ⟨0, zeroD, 0, 0⟩).toArray) (fun _ _ => rfl) (fun _ => by kernel_rfl)) ?_
    refine JL.mv ?_
    refine JL.sto rfl rfl (.none rfl) (Es.storeA rfl rfl Tryd.sizeOf38 Upd.k (Hd.size _) (Hd.size _) (Hd.one _)) ?_
    refine JL.asg ?_
    refine JL.nil ?_
    refine JQ.thenN ?_
    refine JC.ret ?_
    refine JQ.thenR ?_
    refine JQ.end2 (H' := []) (.inl rfl) rfl (.agg rfl memK Tryd.underlying38 rfl Tryd.sizeOf38 (Hd.size _)) (.tmp rfl) ?_ ?_
    · exact Sub.k
    · rw [sgH_bad hbad, sgE_bad hbad, ckE_bad hbad]
  · -- t18 False
    have hok : okB (xs.map Et.e) := Classical.byContradiction fun h => by rw [ckE_bad h] at hc; simp at hc
    refine JC.skip ?_
    refine JQ.thenN ?_
    refine JC.seq ?_
    refine JC.region ?_
    refine JL.val rfl rfl rfl (.none rfl) (Ev.fld 0 rfl (fun _ _ => by kernel_rfl)) ?_
    refine JL.val rfl rfl rfl (.none rfl) (Ev.load1 rfl Tryd.underlying22 rfl (Rd.own memK rfl)) ?_
    refine JL.val rfl rfl rfl (.none rfl) (Ev.lenS rfl Tryd.underlying22) ?_
    refine JL.val rfl rfl rfl (.none rfl) (Ev.lB Tryd.underlying33 Tryd.sizeOf33) ?_
    refine JL.val rfl rfl rfl (.none rfl) (Ev.buH (n := ((xs.length : Nat) : Int)) (d := brV (xs.map Et.e)) rfl rfl Tryd.underlying38 (fun _ => by kernel_rfl) Tryd.zeroValue38) ?_
    refine JL.new rfl rfl rfl (.none rfl) (En.allocZ (cs := (Hd.cl ⟨0, zeroD, 0, 0⟩).toArray) Tryd.zeroValue38 rfl) (fun b10 hb10 => ?_)
    refine JL.sto rfl rfl (.none rfl) (Es.storeA rfl rfl Tryd.sizeOf38 Upd.k (Hd.size _) (Hd.size _) (Hd.one _)) ?_
    refine JL.nil ?_
    refine JQ.thenN ?_
    refine JC.seq ?_
    refine JC.cut (X := Nat) (fun b11 => [(6, .pointer (some ⟨b6, 0, none⟩)), (10, .pointer (some ⟨b10, 0, none⟩)), (11, .pointer (some ⟨b11, 0, none⟩)), (9, .int .i64 (kyE g x))]) (fun b11 => [(b11, Obj.cells #[u64 (if kyE g x = 0 then (sigR g x (txt ⟨((xs.length : Nat) : Int), brV (xs.map Et.e), 0, 0⟩)).1 else 0), u64 (if kyE g x = 0 then (sigR g x (txt ⟨((xs.length : Nat) : Int), brV (xs.map Et.e), 0, 0⟩)).2 else 0)] 36 (0, 0)), (b10, Obj.cells (Hd.cl ⟨((xs.length : Nat) : Int), brV (xs.map Et.e), 0, 0⟩).toArray 38 (0, 0)), (b6, Obj.cells (Hd.cl ⟨0, zeroD, 0, 0⟩).toArray 38 (0, 0))]) ?_ ?_
    · refine JC.regionA (by kernel_rfl) ?_
      refine JA.mid (X := Option Row × Nat) (fun ⟨rT, b11⟩ => True) (fun ⟨rT, b11⟩ => [(11, .pointer (some ⟨b11, 0, none⟩)), (33, .int .i64 (kyE g x)), (32, .agg #[u64 (if kyE g x = 0 then (sigR g x (txt ⟨((xs.length : Nat) : Int), brV (xs.map Et.e), 0, 0⟩)).1 else 0), u64 (if kyE g x = 0 then (sigR g x (txt ⟨((xs.length : Nat) : Int), brV (xs.map Et.e), 0, 0⟩)).2 else 0)]), (26, .tuple #[.agg #[u64 (if kyE g x = 0 then (sigR g x (txt ⟨((xs.length : Nat) : Int), brV (xs.map Et.e), 0, 0⟩)).1 else 0), u64 (if kyE g x = 0 then (sigR g x (txt ⟨((xs.length : Nat) : Int), brV (xs.map Et.e), 0, 0⟩)).2 else 0)], .int .i64 (kyE g x)]), (31, .tuple #[.agg #[u64 (if kyE g x = 0 then (sigR g x (txt ⟨((xs.length : Nat) : Int), brV (xs.map Et.e), 0, 0⟩)).1 else 0), u64 (if kyE g x = 0 then (sigR g x (txt ⟨((xs.length : Nat) : Int), brV (xs.map Et.e), 0, 0⟩)).2 else 0)], .int .i64 (kyE g x)]), (29, .agg (Hd.cl ⟨((xs.length : Nat) : Int), brV (xs.map Et.e), 0, 0⟩).toArray), (28, u64 x), (27, .agg g.cl.toArray), (3, .pointer (some ⟨b3, 0, none⟩)), (1, u64 x), (6, .pointer (some ⟨b6, 0, none⟩)), (10, .pointer (some ⟨b10, 0, none⟩))]) (fun ⟨rT, b11⟩ => ((b11, Obj.cells #[u64 0, u64 0] 36 (0, 0)) :: [(b10, Obj.cells (Hd.cl ⟨((xs.length : Nat) : Int), brV (xs.map Et.e), 0, 0⟩).toArray 38 (0, 0)), (b6, Obj.cells (Hd.cl ⟨0, zeroD, 0, 0⟩).toArray 38 (0, 0)), (b3, Obj.cells g.cl.toArray 53 (0, 0))])) 2 #[true, true, true, true, true, true, true, true, true, false, false] ?_ (fun hmid0 => ?_)
      · -- state [0, 1, 2, 3, 4, 5, 6, 7, 8]
        rintro ⟨rT, b11⟩ _
        refine JA.one 9 ?_
        refine JO.sto rfl rfl (.none rfl) (Es.storeA rfl rfl Tryd.sizeOf36 Upd.k rfl rfl (sig_one _ _)) ?_
        refine JA.tkc 10 rfl (.none rfl) (fun _ => (Ev.assign rfl)) ?_
        refine JA.done (by kernel_rfl) ?_
        refine JQ.cutN b11 ?_ ?_
        · exact Keeps.k
        · exact Sub.k
      refine JA.mid (X := Option Row × Nat) (fun ⟨rT, b11⟩ => True) (fun ⟨rT, b11⟩ => [(33, .int .i64 (kyE g x)), (32, .agg #[u64 (if kyE g x = 0 then (sigR g x (txt ⟨((xs.length : Nat) : Int), brV (xs.map Et.e), 0, 0⟩)).1 else 0), u64 (if kyE g x = 0 then (sigR g x (txt ⟨((xs.length : Nat) : Int), brV (xs.map Et.e), 0, 0⟩)).2 else 0)]), (26, .tuple #[.agg #[u64 (if kyE g x = 0 then (sigR g x (txt ⟨((xs.length : Nat) : Int), brV (xs.map Et.e), 0, 0⟩)).1 else 0), u64 (if kyE g x = 0 then (sigR g x (txt ⟨((xs.length : Nat) : Int), brV (xs.map Et.e), 0, 0⟩)).2 else 0)], .int .i64 (kyE g x)]), (31, .tuple #[.agg #[u64 (if kyE g x = 0 then (sigR g x (txt ⟨((xs.length : Nat) : Int), brV (xs.map Et.e), 0, 0⟩)).1 else 0), u64 (if kyE g x = 0 then (sigR g x (txt ⟨((xs.length : Nat) : Int), brV (xs.map Et.e), 0, 0⟩)).2 else 0)], .int .i64 (kyE g x)]), (29, .agg (Hd.cl ⟨((xs.length : Nat) : Int), brV (xs.map Et.e), 0, 0⟩).toArray), (28, u64 x), (27, .agg g.cl.toArray), (3, .pointer (some ⟨b3, 0, none⟩)), (1, u64 x), (6, .pointer (some ⟨b6, 0, none⟩)), (10, .pointer (some ⟨b10, 0, none⟩))]) (fun ⟨rT, b11⟩ => ([(b10, Obj.cells (Hd.cl ⟨((xs.length : Nat) : Int), brV (xs.map Et.e), 0, 0⟩).toArray 38 (0, 0)), (b6, Obj.cells (Hd.cl ⟨0, zeroD, 0, 0⟩).toArray 38 (0, 0)), (b3, Obj.cells g.cl.toArray 53 (0, 0))])) 3 #[true, true, true, true, true, true, true, true, false, false, false] ?_ (fun hmid1 => ?_)
      · -- state [0, 1, 2, 3, 4, 5, 6, 7]
        rintro ⟨rT, b11⟩ _
        refine JA.one 8 ?_
        refine JO.new rfl rfl rfl (.none rfl) (En.allocZ (cs := #[u64 0, u64 0]) Tryd.zeroValue36 rfl) (fun b11 hb11 => ?_)
        exact JA.weak rfl (by kernel_rfl) (by exact Keeps.k) (by exact Sub.k) (hmid0 (none, b11) (by trivial))
      refine JA.mid (X := Option Row × Nat) (fun ⟨rT, b11⟩ => Row.ok 1 (txt ⟨((xs.length : Nat) : Int), brV (xs.map Et.e), 0, 0⟩).length ((txt ⟨((xs.length : Nat) : Int), brV (xs.map Et.e), 0, 0⟩).map u8) rT) (fun ⟨rT, b11⟩ => [(11, .pointer (some ⟨b11, 0, none⟩)), (30, Row.v (txt ⟨((xs.length : Nat) : Int), brV (xs.map Et.e), 0, 0⟩).length rT), (29, .agg (Hd.cl ⟨((xs.length : Nat) : Int), brV (xs.map Et.e), 0, 0⟩).toArray), (28, u64 x), (27, .agg g.cl.toArray), (3, .pointer (some ⟨b3, 0, none⟩)), (1, u64 x), (6, .pointer (some ⟨b6, 0, none⟩)), (10, .pointer (some ⟨b10, 0, none⟩))]) (fun ⟨rT, b11⟩ => ((b11, Obj.cells #[u64 0, u64 0] 36 (0, 0)) :: Row.b 5 rT ++ [(b10, Obj.cells (Hd.cl ⟨((xs.length : Nat) : Int), brV (xs.map Et.e), 0, 0⟩).toArray 38 (0, 0)), (b6, Obj.cells (Hd.cl ⟨0, zeroD, 0, 0⟩).toArray 38 (0, 0)), (b3, Obj.cells g.cl.toArray 53 (0, 0))])) 6 #[true, true, true, true, false, false, false, false, true, false, false] ?_ (fun hmid2 => ?_)
      · -- state [0, 1, 2, 3, 8]
        rintro ⟨rT, b11⟩ hrT
        refine JA.one 4 ?_
        obtain ⟨oT, cT, eT, _, hCT⟩ := Row.vw (e := 5) hrT
        refine JO.re (d := 30) rfl eT ?_
        refine JO.callV rfl (.none rfl) rfl Tryd.call65 (fun w1 hw1 => sSign_any g x oT cT (txt ⟨((xs.length : Nat) : Int), brV (xs.map Et.e), 0, 0⟩) w1 ((hCT w1 hw1 (fun p hp => by simp [hp])).bs rfl) (by rw [txt_length]; decide) (hk.old hw1) (hf.old hw1)) ?_
        refine JA.tkc 5 rfl (.none rfl) (fun _ => (Ev.move rfl)) ?_
        refine JA.tkc 6 rfl (.none rfl) (fun _ => (Ev.ex0 rfl)) ?_
        refine JA.tkc 7 rfl (.none rfl) (fun _ => (Ev.ex1 rfl)) ?_
        exact JA.weak rfl (by kernel_rfl) (by exact Keeps.k) (by exact Sub.k) (hmid0 (none, b11) (by trivial))
      refine JA.mid (X := Option Row × Nat) (fun ⟨rT, b11⟩ => Row.ok 1 (txt ⟨((xs.length : Nat) : Int), brV (xs.map Et.e), 0, 0⟩).length ((txt ⟨((xs.length : Nat) : Int), brV (xs.map Et.e), 0, 0⟩).map u8) rT) (fun ⟨rT, b11⟩ => [(30, Row.v (txt ⟨((xs.length : Nat) : Int), brV (xs.map Et.e), 0, 0⟩).length rT), (29, .agg (Hd.cl ⟨((xs.length : Nat) : Int), brV (xs.map Et.e), 0, 0⟩).toArray), (28, u64 x), (27, .agg g.cl.toArray), (3, .pointer (some ⟨b3, 0, none⟩)), (1, u64 x), (6, .pointer (some ⟨b6, 0, none⟩)), (10, .pointer (some ⟨b10, 0, none⟩))]) (fun ⟨rT, b11⟩ => (Row.b 5 rT ++ [(b10, Obj.cells (Hd.cl ⟨((xs.length : Nat) : Int), brV (xs.map Et.e), 0, 0⟩).toArray 38 (0, 0)), (b6, Obj.cells (Hd.cl ⟨0, zeroD, 0, 0⟩).toArray 38 (0, 0)), (b3, Obj.cells g.cl.toArray 53 (0, 0))])) 7 #[true, true, true, true, false, false, false, false, false, false, false] ?_ (fun hmid3 => ?_)
      · -- state [0, 1, 2, 3]
        rintro ⟨rT, b11⟩ hrT
        refine JA.branch [4, 8] (by kernel_rfl) rfl ?_
        refine JAll.cons rfl ?_ ?_
        · -- 4
          obtain ⟨oT, cT, eT, _, hCT⟩ := Row.vw (e := 5) hrT
          refine JO.re (d := 30) rfl eT ?_
          refine JO.callV rfl (.none rfl) rfl Tryd.call65 (fun w1 hw1 => sSign_any g x oT cT (txt ⟨((xs.length : Nat) : Int), brV (xs.map Et.e), 0, 0⟩) w1 ((hCT w1 hw1 (fun p hp => by simp [hp])).bs rfl) (by rw [txt_length]; decide) (hk.old hw1) (hf.old hw1)) ?_
          refine JA.tkc 5 rfl (.none rfl) (fun _ => (Ev.move rfl)) ?_
          refine JA.tkc 6 rfl (.none rfl) (fun _ => (Ev.ex0 rfl)) ?_
          refine JA.tkc 7 rfl (.none rfl) (fun _ => (Ev.ex1 rfl)) ?_
          exact JA.weak rfl (by kernel_rfl) (by exact Keeps.k) (by exact Sub.k) (hmid1 (none, 0) (by trivial))
        refine JAll.cons rfl ?_ JAll.nil
        refine JO.new rfl rfl rfl (.none rfl) (En.allocZ (cs := #[u64 0, u64 0]) Tryd.zeroValue36 rfl) (fun b11 hb11 => ?_)
        exact JA.weak rfl (by kernel_rfl) (by exact Keeps.k) (by exact Sub.k) (hmid2 (rT, b11) (by exact hrT))
      refine JA.mid (X := Option Row × Nat) (fun ⟨rT, b11⟩ => True) (fun ⟨rT, b11⟩ => [(11, .pointer (some ⟨b11, 0, none⟩)), (29, .agg (Hd.cl ⟨((xs.length : Nat) : Int), brV (xs.map Et.e), 0, 0⟩).toArray), (28, u64 x), (27, .agg g.cl.toArray), (3, .pointer (some ⟨b3, 0, none⟩)), (1, u64 x), (6, .pointer (some ⟨b6, 0, none⟩)), (10, .pointer (some ⟨b10, 0, none⟩))]) (fun ⟨rT, b11⟩ => ((b11, Obj.cells #[u64 0, u64 0] 36 (0, 0)) :: [(b10, Obj.cells (Hd.cl ⟨((xs.length : Nat) : Int), brV (xs.map Et.e), 0, 0⟩).toArray 38 (0, 0)), (b6, Obj.cells (Hd.cl ⟨0, zeroD, 0, 0⟩).toArray 38 (0, 0)), (b3, Obj.cells g.cl.toArray 53 (0, 0))])) 7 #[true, true, true, false, false, false, false, false, true, false, false] ?_ (fun hmid4 => ?_)
      · -- state [0, 1, 2, 8]
        rintro ⟨rT, b11⟩ _
        refine JA.one 3 ?_
        refine JO.callN rfl (.none rfl) rfl Tryd.call14 (fun w1 hw1 => bText_any ⟨((xs.length : Nat) : Int), brV (xs.map Et.e), 0, 0⟩ w1) ?_
        rintro _ _ ⟨rT, rfl, rfl, hrT⟩
        exact JA.weak rfl (by kernel_rfl) (by exact Keeps.k) (by exact Sub.k) (hmid2 (rT, b11) (by exact hrT))
      refine JA.mid (X := Option Row × Nat) (fun ⟨rT, b11⟩ => Row.ok 1 (txt ⟨((xs.length : Nat) : Int), brV (xs.map Et.e), 0, 0⟩).length ((txt ⟨((xs.length : Nat) : Int), brV (xs.map Et.e), 0, 0⟩).map u8) rT) (fun ⟨rT, b11⟩ => [(11, .pointer (some ⟨b11, 0, none⟩)), (30, Row.v (txt ⟨((xs.length : Nat) : Int), brV (xs.map Et.e), 0, 0⟩).length rT), (29, .agg (Hd.cl ⟨((xs.length : Nat) : Int), brV (xs.map Et.e), 0, 0⟩).toArray), (28, u64 x), (3, .pointer (some ⟨b3, 0, none⟩)), (1, u64 x), (6, .pointer (some ⟨b6, 0, none⟩)), (10, .pointer (some ⟨b10, 0, none⟩))]) (fun ⟨rT, b11⟩ => ((b11, Obj.cells #[u64 0, u64 0] 36 (0, 0)) :: Row.b 5 rT ++ [(b10, Obj.cells (Hd.cl ⟨((xs.length : Nat) : Int), brV (xs.map Et.e), 0, 0⟩).toArray 38 (0, 0)), (b6, Obj.cells (Hd.cl ⟨0, zeroD, 0, 0⟩).toArray 38 (0, 0)), (b3, Obj.cells g.cl.toArray 53 (0, 0))])) 7 #[false, true, true, true, false, false, false, false, true, false, false] ?_ (fun hmid5 => ?_)
      · -- state [1, 2, 3, 8]
        rintro ⟨rT, b11⟩ hrT
        refine JA.one 0 ?_
        refine JO.val rfl rfl rfl (.none rfl) (Ev.lB Tryd.underlying53 Tryd.sizeOf53) ?_
        exact JA.weak rfl (by kernel_rfl) (by exact Keeps.k) (by exact Sub.k) (hmid2 (rT, b11) (by exact hrT))
      refine JA.mid (X := Option Row × Nat) (fun ⟨rT, b11⟩ => True) (fun ⟨rT, b11⟩ => [(29, .agg (Hd.cl ⟨((xs.length : Nat) : Int), brV (xs.map Et.e), 0, 0⟩).toArray), (28, u64 x), (27, .agg g.cl.toArray), (3, .pointer (some ⟨b3, 0, none⟩)), (1, u64 x), (6, .pointer (some ⟨b6, 0, none⟩)), (10, .pointer (some ⟨b10, 0, none⟩))]) (fun ⟨rT, b11⟩ => ([(b10, Obj.cells (Hd.cl ⟨((xs.length : Nat) : Int), brV (xs.map Et.e), 0, 0⟩).toArray 38 (0, 0)), (b6, Obj.cells (Hd.cl ⟨0, zeroD, 0, 0⟩).toArray 38 (0, 0)), (b3, Obj.cells g.cl.toArray 53 (0, 0))])) 8 #[true, true, true, false, false, false, false, false, false, false, false] ?_ (fun hmid6 => ?_)
      · -- state [0, 1, 2]
        rintro ⟨rT, b11⟩ _
        refine JA.branch [3, 8] (by kernel_rfl) rfl ?_
        refine JAll.cons rfl ?_ ?_
        · -- 3
          refine JO.callN rfl (.none rfl) rfl Tryd.call14 (fun w1 hw1 => bText_any ⟨((xs.length : Nat) : Int), brV (xs.map Et.e), 0, 0⟩ w1) ?_
          rintro _ _ ⟨rT, rfl, rfl, hrT⟩
          exact JA.weak rfl (by kernel_rfl) (by exact Keeps.k) (by exact Sub.k) (hmid3 (rT, 0) (by exact hrT))
        refine JAll.cons rfl ?_ JAll.nil
        refine JO.new rfl rfl rfl (.none rfl) (En.allocZ (cs := #[u64 0, u64 0]) Tryd.zeroValue36 rfl) (fun b11 hb11 => ?_)
        exact JA.weak rfl (by kernel_rfl) (by exact Keeps.k) (by exact Sub.k) (hmid4 (none, b11) (by trivial))
      refine JA.mid (X := Option Row × Nat) (fun ⟨rT, b11⟩ => True) (fun ⟨rT, b11⟩ => [(11, .pointer (some ⟨b11, 0, none⟩)), (28, u64 x), (27, .agg g.cl.toArray), (3, .pointer (some ⟨b3, 0, none⟩)), (1, u64 x), (6, .pointer (some ⟨b6, 0, none⟩)), (10, .pointer (some ⟨b10, 0, none⟩))]) (fun ⟨rT, b11⟩ => ((b11, Obj.cells #[u64 0, u64 0] 36 (0, 0)) :: [(b10, Obj.cells (Hd.cl ⟨((xs.length : Nat) : Int), brV (xs.map Et.e), 0, 0⟩).toArray 38 (0, 0)), (b6, Obj.cells (Hd.cl ⟨0, zeroD, 0, 0⟩).toArray 38 (0, 0)), (b3, Obj.cells g.cl.toArray 53 (0, 0))])) 8 #[true, true, false, false, false, false, false, false, true, false, false] ?_ (fun hmid7 => ?_)
      · -- state [0, 1, 8]
        rintro ⟨rT, b11⟩ _
        refine JA.one 2 ?_
        refine JO.val rfl rfl rfl (.none rfl) (Ev.loadB rfl memK Tryd.underlying38 rfl Tryd.sizeOf38 (Hd.size _)) ?_
        exact JA.weak rfl (by kernel_rfl) (by exact Keeps.k) (by exact Sub.k) (hmid4 (none, b11) (by trivial))
      refine JA.mid (X := Option Row × Nat) (fun ⟨rT, b11⟩ => Row.ok 1 (txt ⟨((xs.length : Nat) : Int), brV (xs.map Et.e), 0, 0⟩).length ((txt ⟨((xs.length : Nat) : Int), brV (xs.map Et.e), 0, 0⟩).map u8) rT) (fun ⟨rT, b11⟩ => [(30, Row.v (txt ⟨((xs.length : Nat) : Int), brV (xs.map Et.e), 0, 0⟩).length rT), (29, .agg (Hd.cl ⟨((xs.length : Nat) : Int), brV (xs.map Et.e), 0, 0⟩).toArray), (28, u64 x), (3, .pointer (some ⟨b3, 0, none⟩)), (1, u64 x), (6, .pointer (some ⟨b6, 0, none⟩)), (10, .pointer (some ⟨b10, 0, none⟩))]) (fun ⟨rT, b11⟩ => (Row.b 5 rT ++ [(b10, Obj.cells (Hd.cl ⟨((xs.length : Nat) : Int), brV (xs.map Et.e), 0, 0⟩).toArray 38 (0, 0)), (b6, Obj.cells (Hd.cl ⟨0, zeroD, 0, 0⟩).toArray 38 (0, 0)), (b3, Obj.cells g.cl.toArray 53 (0, 0))])) 8 #[false, true, true, true, false, false, false, false, false, false, false] ?_ (fun hmid8 => ?_)
      · -- state [1, 2, 3]
        rintro ⟨rT, b11⟩ hrT
        refine JA.branch [0, 8] (by kernel_rfl) rfl ?_
        refine JAll.cons rfl ?_ ?_
        · -- 0
          refine JO.val rfl rfl rfl (.none rfl) (Ev.lB Tryd.underlying53 Tryd.sizeOf53) ?_
          exact JA.weak rfl (by kernel_rfl) (by exact Keeps.k) (by exact Sub.k) (hmid3 (rT, 0) (by exact hrT))
        refine JAll.cons rfl ?_ JAll.nil
        refine JO.new rfl rfl rfl (.none rfl) (En.allocZ (cs := #[u64 0, u64 0]) Tryd.zeroValue36 rfl) (fun b11 hb11 => ?_)
        exact JA.weak rfl (by kernel_rfl) (by exact Keeps.k) (by exact Sub.k) (hmid5 (rT, b11) (by exact hrT))
      refine JA.mid (X := Option Row × Nat) (fun ⟨rT, b11⟩ => True) (fun ⟨rT, b11⟩ => [(11, .pointer (some ⟨b11, 0, none⟩)), (29, .agg (Hd.cl ⟨((xs.length : Nat) : Int), brV (xs.map Et.e), 0, 0⟩).toArray), (28, u64 x), (3, .pointer (some ⟨b3, 0, none⟩)), (1, u64 x), (6, .pointer (some ⟨b6, 0, none⟩)), (10, .pointer (some ⟨b10, 0, none⟩))]) (fun ⟨rT, b11⟩ => ((b11, Obj.cells #[u64 0, u64 0] 36 (0, 0)) :: [(b10, Obj.cells (Hd.cl ⟨((xs.length : Nat) : Int), brV (xs.map Et.e), 0, 0⟩).toArray 38 (0, 0)), (b6, Obj.cells (Hd.cl ⟨0, zeroD, 0, 0⟩).toArray 38 (0, 0)), (b3, Obj.cells g.cl.toArray 53 (0, 0))])) 8 #[false, true, true, false, false, false, false, false, true, false, false] ?_ (fun hmid9 => ?_)
      · -- state [1, 2, 8]
        rintro ⟨rT, b11⟩ _
        refine JA.branch [0, 3] (by kernel_rfl) rfl ?_
        refine JAll.cons rfl ?_ ?_
        · -- 0
          refine JO.val rfl rfl rfl (.none rfl) (Ev.lB Tryd.underlying53 Tryd.sizeOf53) ?_
          exact JA.weak rfl (by kernel_rfl) (by exact Keeps.k) (by exact Sub.k) (hmid4 (none, b11) (by trivial))
        refine JAll.cons rfl ?_ JAll.nil
        refine JO.callN rfl (.none rfl) rfl Tryd.call14 (fun w1 hw1 => bText_any ⟨((xs.length : Nat) : Int), brV (xs.map Et.e), 0, 0⟩ w1) ?_
        rintro _ _ ⟨rT, rfl, rfl, hrT⟩
        exact JA.weak rfl (by kernel_rfl) (by exact Keeps.k) (by exact Sub.k) (hmid5 (rT, b11) (by exact hrT))
      refine JA.mid (X := Option Row × Nat) (fun ⟨rT, b11⟩ => True) (fun ⟨rT, b11⟩ => [(28, u64 x), (27, .agg g.cl.toArray), (3, .pointer (some ⟨b3, 0, none⟩)), (1, u64 x), (6, .pointer (some ⟨b6, 0, none⟩)), (10, .pointer (some ⟨b10, 0, none⟩))]) (fun ⟨rT, b11⟩ => ([(b10, Obj.cells (Hd.cl ⟨((xs.length : Nat) : Int), brV (xs.map Et.e), 0, 0⟩).toArray 38 (0, 0)), (b6, Obj.cells (Hd.cl ⟨0, zeroD, 0, 0⟩).toArray 38 (0, 0)), (b3, Obj.cells g.cl.toArray 53 (0, 0))])) 9 #[true, true, false, false, false, false, false, false, false, false, false] ?_ (fun hmid10 => ?_)
      · -- state [0, 1]
        rintro ⟨rT, b11⟩ _
        refine JA.branch [2, 8] (by kernel_rfl) rfl ?_
        refine JAll.cons rfl ?_ ?_
        · -- 2
          refine JO.val rfl rfl rfl (.none rfl) (Ev.loadB rfl memK Tryd.underlying38 rfl Tryd.sizeOf38 (Hd.size _)) ?_
          exact JA.weak rfl (by kernel_rfl) (by exact Keeps.k) (by exact Sub.k) (hmid6 (none, 0) (by trivial))
        refine JAll.cons rfl ?_ JAll.nil
        refine JO.new rfl rfl rfl (.none rfl) (En.allocZ (cs := #[u64 0, u64 0]) Tryd.zeroValue36 rfl) (fun b11 hb11 => ?_)
        exact JA.weak rfl (by kernel_rfl) (by exact Keeps.k) (by exact Sub.k) (hmid7 (none, b11) (by trivial))
      refine JA.mid (X := Option Row × Nat) (fun ⟨rT, b11⟩ => True) (fun ⟨rT, b11⟩ => [(29, .agg (Hd.cl ⟨((xs.length : Nat) : Int), brV (xs.map Et.e), 0, 0⟩).toArray), (28, u64 x), (3, .pointer (some ⟨b3, 0, none⟩)), (1, u64 x), (6, .pointer (some ⟨b6, 0, none⟩)), (10, .pointer (some ⟨b10, 0, none⟩))]) (fun ⟨rT, b11⟩ => ([(b10, Obj.cells (Hd.cl ⟨((xs.length : Nat) : Int), brV (xs.map Et.e), 0, 0⟩).toArray 38 (0, 0)), (b6, Obj.cells (Hd.cl ⟨0, zeroD, 0, 0⟩).toArray 38 (0, 0)), (b3, Obj.cells g.cl.toArray 53 (0, 0))])) 9 #[false, true, true, false, false, false, false, false, false, false, false] ?_ (fun hmid11 => ?_)
      · -- state [1, 2]
        rintro ⟨rT, b11⟩ _
        refine JA.branch [0, 3, 8] (by kernel_rfl) rfl ?_
        refine JAll.cons rfl ?_ ?_
        · -- 0
          refine JO.val rfl rfl rfl (.none rfl) (Ev.lB Tryd.underlying53 Tryd.sizeOf53) ?_
          exact JA.weak rfl (by kernel_rfl) (by exact Keeps.k) (by exact Sub.k) (hmid6 (none, 0) (by trivial))
        refine JAll.cons rfl ?_ ?_
        · -- 3
          refine JO.callN rfl (.none rfl) rfl Tryd.call14 (fun w1 hw1 => bText_any ⟨((xs.length : Nat) : Int), brV (xs.map Et.e), 0, 0⟩ w1) ?_
          rintro _ _ ⟨rT, rfl, rfl, hrT⟩
          exact JA.weak rfl (by kernel_rfl) (by exact Keeps.k) (by exact Sub.k) (hmid8 (rT, 0) (by exact hrT))
        refine JAll.cons rfl ?_ JAll.nil
        refine JO.new rfl rfl rfl (.none rfl) (En.allocZ (cs := #[u64 0, u64 0]) Tryd.zeroValue36 rfl) (fun b11 hb11 => ?_)
        exact JA.weak rfl (by kernel_rfl) (by exact Keeps.k) (by exact Sub.k) (hmid9 (none, b11) (by trivial))
      refine JA.mid (X := Option Row × Nat) (fun ⟨rT, b11⟩ => True) (fun ⟨rT, b11⟩ => [(11, .pointer (some ⟨b11, 0, none⟩)), (28, u64 x), (3, .pointer (some ⟨b3, 0, none⟩)), (1, u64 x), (6, .pointer (some ⟨b6, 0, none⟩)), (10, .pointer (some ⟨b10, 0, none⟩))]) (fun ⟨rT, b11⟩ => ((b11, Obj.cells #[u64 0, u64 0] 36 (0, 0)) :: [(b10, Obj.cells (Hd.cl ⟨((xs.length : Nat) : Int), brV (xs.map Et.e), 0, 0⟩).toArray 38 (0, 0)), (b6, Obj.cells (Hd.cl ⟨0, zeroD, 0, 0⟩).toArray 38 (0, 0)), (b3, Obj.cells g.cl.toArray 53 (0, 0))])) 9 #[false, true, false, false, false, false, false, false, true, false, false] ?_ (fun hmid12 => ?_)
      · -- state [1, 8]
        rintro ⟨rT, b11⟩ _
        refine JA.branch [0, 2] (by kernel_rfl) rfl ?_
        refine JAll.cons rfl ?_ ?_
        · -- 0
          refine JO.val rfl rfl rfl (.none rfl) (Ev.lB Tryd.underlying53 Tryd.sizeOf53) ?_
          exact JA.weak rfl (by kernel_rfl) (by exact Keeps.k) (by exact Sub.k) (hmid7 (none, b11) (by trivial))
        refine JAll.cons rfl ?_ JAll.nil
        refine JO.val rfl rfl rfl (.none rfl) (Ev.loadB rfl memK Tryd.underlying38 rfl Tryd.sizeOf38 (Hd.size _)) ?_
        exact JA.weak rfl (by kernel_rfl) (by exact Keeps.k) (by exact Sub.k) (hmid9 (none, b11) (by trivial))
      refine JA.tkc 1 rfl (.none rfl) (fun _ => (Ev.move rfl)) ?_
      refine JA.branch [0, 2, 8] (by kernel_rfl) rfl ?_
      refine JAll.cons rfl ?_ ?_
      · -- 0
        refine JO.val rfl rfl rfl (.none rfl) (Ev.lB Tryd.underlying53 Tryd.sizeOf53) ?_
        exact JA.weak rfl (by kernel_rfl) (by exact Keeps.k) (by exact Sub.k) (hmid10 (none, 0) (by trivial))
      refine JAll.cons rfl ?_ ?_
      · -- 2
        refine JO.val rfl rfl rfl (.none rfl) (Ev.loadB rfl memK Tryd.underlying38 rfl Tryd.sizeOf38 (Hd.size _)) ?_
        exact JA.weak rfl (by kernel_rfl) (by exact Keeps.k) (by exact Sub.k) (hmid11 (none, 0) (by trivial))
      refine JAll.cons rfl ?_ JAll.nil
      refine JO.new rfl rfl rfl (.none rfl) (En.allocZ (cs := #[u64 0, u64 0]) Tryd.zeroValue36 rfl) (fun b11 hb11 => ?_)
      exact JA.weak rfl (by kernel_rfl) (by exact Keeps.k) (by exact Sub.k) (hmid12 (none, b11) (by trivial))
    rintro b11
    refine JQ.thenN ?_
    refine JC.seq ?_
    refine JC.seq ?_
    refine JC.region ?_
    refine JL.mv ?_
    refine JL.val rfl rfl rfl (.none rfl) (Ev.bin rfl rfl neq_int) ?_
    refine JL.nil ?_
    refine JQ.thenN ?_
    refine JC.cond rfl (fun hc2 => ?_) (fun hc2 => ?_)
    · -- t35 True
      replace hc2 := of_decide_eq_true hc2
      have hne : ¬ kyE g x = 0 := by omega
      refine JC.seq ?_
      refine JC.region ?_
      refine JL.val rfl rfl rfl (.none rfl) (Ev.build (parts := []) (vs := []) (cs := (Hd.cl ⟨0, zeroD, 0, 0⟩).toArray) (fun _ _ => rfl) (fun _ => by kernel_rfl)) ?_
      refine JL.mv ?_
      refine JL.sto rfl rfl (.none rfl) (Es.storeA rfl rfl Tryd.sizeOf38 Upd.k (Hd.size _) (Hd.size _) (Hd.one _)) ?_
      refine JL.asg ?_
      refine JL.nil ?_
      refine JQ.thenN ?_
      refine JC.ret ?_
      refine JQ.thenR ?_
      refine JQ.end2 (H' := []) (.inl rfl) rfl (.agg rfl memK Tryd.underlying38 rfl Tryd.sizeOf38 (Hd.size _)) (.tmp rfl) ?_ ?_
      · exact Sub.k
      · rw [sgH_key hok hne, sgE_ok hok]
    · -- t35 False
      replace hc2 := of_decide_eq_false hc2
      have hz : kyE g x = 0 := by omega
      refine JC.skip ?_
      refine JQ.thenN ?_
      refine JC.seq ?_
      refine JC.region ?_
      refine JL.val rfl rfl rfl (.none rfl) (Ev.loadB rfl memK Tryd.underlying36 rfl Tryd.sizeOf36 rfl) ?_
      refine JL.val rfl rfl rfl (.none rfl) (Ev.fld 33 rfl (fun _ _ => by kernel_rfl)) ?_
      refine JL.sto rfl rfl (.none rfl) (Es.store (cs := (Hd.cl ⟨((xs.length : Nat) : Int), brV (xs.map Et.e), 0, 0⟩).toArray) rfl rfl Tryd.sizeOf36 Upd.k rfl (by rw [Hd.size]; decide) (sig_one _ _)) ?_
      refine JL.reH (b := b10) (o' := Obj.cells (Hd.cl ⟨((xs.length : Nat) : Int), brV (xs.map Et.e), (sigR g x (txt ⟨((xs.length : Nat) : Int), brV (xs.map Et.e), 0, 0⟩)).1, (sigR g x (txt ⟨((xs.length : Nat) : Int), brV (xs.map Et.e), 0, 0⟩)).2⟩).toArray 38 (0, 0)) (by repeat (first | exact .here | apply Upd.there | apply Upd.assoc | apply Upd.left)) (by rw [if_pos hz, if_pos hz]; exact congrArg (fun c => Obj.cells c 38 (0, 0)) (Hd.sign _ _ _ _)) ?_
      refine JL.nil ?_
      refine JQ.thenN ?_
      refine JC.seq ?_
      refine JC.region ?_
      refine JL.val rfl rfl rfl (.none rfl) (Ev.loadB rfl memK Tryd.underlying38 rfl Tryd.sizeOf38 (Hd.size _)) ?_
      refine JL.sto rfl rfl (.none rfl) (Es.storeA rfl rfl Tryd.sizeOf38 Upd.k (Hd.size _) (Hd.size _) (Hd.one _)) ?_
      refine JL.asg ?_
      refine JL.nil ?_
      refine JQ.thenN ?_
      refine JC.ret ?_
      refine JQ.end2 (H' := []) (.inl rfl) rfl (.agg rfl memK Tryd.underlying38 rfl Tryd.sizeOf38 (Hd.size _)) (.tmp rfl) ?_ ?_
      · exact Sub.k
      · first | (rw [sgH_ok hok hz, sgE_ok hok, hz]; done) | (rw [sgH_ok hok hz, sgE_ok hok, hz]; rfl)

end Go.Proofs.YtopaednfjjjnbaaDoor
