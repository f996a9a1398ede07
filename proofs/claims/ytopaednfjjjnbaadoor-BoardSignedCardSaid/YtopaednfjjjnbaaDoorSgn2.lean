/-
  Boards: the law of signed heads.
-/
import Derived.Test.YtopaednfjjjnbaaDoorSgn1
namespace Go.Proofs.YtopaednfjjjnbaaDoor
open Go Go.RowKit
set_option maxRecDepth 100000

theorem Hd.sign2 (h : Hd) (a b : UInt64) : over h.cl.toArray (0 + 33) [u64 a, u64 b] = (Hd.cl ⟨h.n, h.root, a, b⟩).toArray := by
  unfold over
  apply Array.toList_inj.1
  have e1 : h.cl.toArray.toList = (.int .i64 h.n :: h.root.1.map u8) ++ [u64 h.r, u64 h.s] := rfl
  have hl : (Value.int .i64 h.n :: h.root.1.map u8).length = 33 := by rw [List.length_cons, List.length_map, h.root.2]
  show h.cl.toArray.toList.take (0 + 33) ++ [u64 a, u64 b] ++ h.cl.toArray.toList.drop (0 + 33 + 2) = _
  rw [e1, List.take_left' (by rw [hl]), List.drop_eq_nil_of_le (by rw [List.length_append, hl]; exact Nat.le_refl _), List.append_nil]
  rfl
section
variable {g : Gp} {x : UInt64}
theorem Valid.sv (h : Valid g) (_ : x.toNat < g.q.toNat) (t : List UInt8) : scE g [(sigR g x t).2] [pw g.g x g.p, (sigR g x t).1] = 0 := by
  refine scE_ok h.form (fun z hz => ?_) fun z hz => ?_
  · obtain rfl := List.mem_singleton.1 hz
    show ((_ + _) % g.q).toNat < _
    rw [UInt64.toNat_mod]
    exact Nat.mod_lt _ (by have := form_q h.form; omega)
  · simp only [List.mem_cons, List.not_mem_nil, or_false] at hz
    rcases hz with rfl | rfl
    · exact pw_lt _ _ h.p0
    · exact pw_lt _ _ h.p0
theorem Valid.sc (h : Valid g) (t : List UInt8) : scE g [] [pw g.g x g.p, (sigR g x t).1] = 0 := by
  refine scE_ok h.form (fun z hz => by cases hz) fun z hz => ?_
  simp only [List.mem_cons, List.not_mem_nil, or_false] at hz
  rcases hz with rfl | rfl
  · exact pw_lt _ _ h.p0
  · exact pw_lt _ _ h.p0
theorem Valid.vf (h : Valid g) (hx : x.toNat < g.q.toNat) (h0 : x.toNat ≠ 0) (t u : List UInt8) : vfR g (pw g.g x g.p) u (sigR g x t).1 (sigR g x t).2 = decide (chalR g (pw g.g x g.p) (sigR g x t).1 t = chalR g (pw g.g x g.p) (sigR g x t).1 u) := by
  rw [vfR_yes (h.sv hx t) (h.mem x) (h.mem (nonceR g x t))]
  exact h.only hx h0 t (chal_lt h.form)
end
theorem sign_end {a : Bool} {c d : UInt64} (h : a = decide (c = d)) : (a == decide ((c.toNat : Int) = (d.toNat : Int))) = true := by
  have e : decide ((c.toNat : Int) = (d.toNat : Int)) = decide (c = d) := decide_eq_decide.2 ⟨fun h => UInt64.toNat_inj.1 (by omega), fun h => by rw [h]⟩
  rw [e, h]
  exact beq_self_eq_true _

theorem lawSigned_any (g : Gp) (x : UInt64) (oa : Option Addr) (cap : Nat) (xs : List Et) (o : Hd) (w : World) (hb : Bd w oa cap xs) (hk : KMem 1 w) (hf : FMem 0 w) :
    Calls Tryd.prog 11 #[.agg g.cl.toArray, u64 x, .agg #[.slice oa xs.length cap], .agg o.cl.toArray] w (Ret w (fun v _ => v = .bool true)) := by
  refine enter (vs := [.agg g.cl.toArray, u64 x, .agg #[.slice oa xs.length cap], .agg o.cl.toArray]) Tryd.func11 rfl Tryd.ntmps11 rfl ?_
  refine JC.seq ?_
  refine JC.region ?_
  refine JL.new rfl rfl rfl (.none rfl) (En.boxA rfl) (fun b4 hb4 => ?_)
  refine JL.new rfl rfl rfl (.none rfl) (En.boxA rfl) (fun b6 hb6 => ?_)
  refine JL.new rfl rfl rfl (.none rfl) (En.boxA rfl) (fun b7 hb7 => ?_)
  refine JL.asg ?_
  refine JL.nil ?_
  refine JQ.thenN ?_
  refine JC.seq ?_
  refine JC.region ?_
  refine JL.callV rfl (.none rfl) rfl Tryd.call23 (fun w1 hw1 => balive_any w1 (hk.old hw1) (hf.old hw1)) ?_
  refine JL.asg ?_
  refine JL.nil ?_
  refine JQ.thenN ?_
  refine JC.seq ?_
  refine JC.seq ?_
  refine JC.region ?_
  refine JL.val rfl rfl rfl (.none rfl) (Ev.lB Tryd.underlying53 Tryd.sizeOf53) ?_
  refine JL.callN rfl (.none rfl) rfl Tryd.call53 (fun w1 hw1 => gCheck_any g w1) ?_
  rintro _ _ ⟨ge, rfl, hge⟩
  refine JL.val rfl rfl rfl (.none rfl) (Ev.bin rfl rfl neq_int) ?_
  refine JL.mv ?_
  refine JL.split (d := 27) rfl (fun hA => ?_) (fun hA => ?_)
  · -- guard 27 true
    refine JL.skip rfl rfl (.noF rfl rfl rfl) ?_
    refine JL.skip rfl rfl (.noF rfl rfl rfl) ?_
    refine JL.val rfl rfl rfl (.none rfl) (Ev.pickT rfl rfl) ?_
    refine JL.mv ?_
    refine JL.skip rfl rfl (.noF rfl rfl rfl) ?_
    refine JL.skip rfl rfl (.noF rfl rfl rfl) ?_
    refine JL.skip rfl rfl (.noF rfl rfl rfl) ?_
    refine JL.skip rfl rfl (.noF rfl rfl rfl) ?_
    refine JL.val rfl rfl rfl (.none rfl) (Ev.pickT rfl rfl) ?_
    refine JL.mv ?_
    refine JL.skip rfl rfl (.noF rfl rfl rfl) ?_
    refine JL.skip rfl rfl (.noF rfl rfl rfl) ?_
    refine JL.val rfl rfl rfl (.none rfl) (Ev.pickT rfl rfl) ?_
    refine JL.mv ?_
    refine JL.skip rfl rfl (.noF rfl rfl rfl) ?_
    refine JL.skip rfl rfl (.noF rfl rfl rfl) ?_
    refine JL.skip rfl rfl (.noF rfl rfl rfl) ?_
    refine JL.val rfl rfl rfl (.none rfl) (Ev.pickT rfl rfl) ?_
    refine JL.mv ?_
    refine JL.skip rfl rfl (.noF rfl rfl rfl) ?_
    refine JL.skip rfl rfl (.noF rfl rfl rfl) ?_
    refine JL.val rfl rfl rfl (.none rfl) (Ev.pickT rfl rfl) ?_
    refine JL.nil ?_
    refine JQ.thenN ?_
    refine JC.condT rfl ?_
    refine JC.seq ?_
    refine JC.region ?_
    refine JL.mv ?_
    refine JL.asg ?_
    refine JL.nil ?_
    refine JQ.thenN ?_
    refine JC.ret ?_
    refine JQ.thenR ?_
    refine JQ.end1 (H' := []) (.inl rfl) rfl (.tmp rfl) ?_ ?_
    · exact Sub.k
    · first | rfl | exact congrArg Value.bool (sign_end hfin)
  · -- guard 27 false
    have hval := hge (by simpa using hA)
    refine JL.val rfl rfl rfl (.yes rfl rfl rfl) (Ev.move rfl) ?_
    refine JL.val rfl rfl rfl (.yes rfl rfl rfl) (Ev.bin rfl rfl lss_int) ?_
    refine JL.val rfl rfl rfl (.none rfl) (Ev.pickF rfl rfl) ?_
    refine JL.mv ?_
    refine JL.split (d := 31) rfl (fun hB => ?_) (fun hB => ?_)
    · -- guard 31 true
      refine JL.skip rfl rfl (.noF rfl rfl rfl) ?_
      refine JL.skip rfl rfl (.noF rfl rfl rfl) ?_
      refine JL.skip rfl rfl (.noF rfl rfl rfl) ?_
      refine JL.skip rfl rfl (.noF rfl rfl rfl) ?_
      refine JL.val rfl rfl rfl (.none rfl) (Ev.pickT rfl rfl) ?_
      refine JL.mv ?_
      refine JL.skip rfl rfl (.noF rfl rfl rfl) ?_
      refine JL.skip rfl rfl (.noF rfl rfl rfl) ?_
      refine JL.val rfl rfl rfl (.none rfl) (Ev.pickT rfl rfl) ?_
      refine JL.mv ?_
      refine JL.skip rfl rfl (.noF rfl rfl rfl) ?_
      refine JL.skip rfl rfl (.noF rfl rfl rfl) ?_
      refine JL.skip rfl rfl (.noF rfl rfl rfl) ?_
      refine JL.val rfl rfl rfl (.none rfl) (Ev.pickT rfl rfl) ?_
      refine JL.mv ?_
      refine JL.skip rfl rfl (.noF rfl rfl rfl) ?_
      refine JL.skip rfl rfl (.noF rfl rfl rfl) ?_
      refine JL.val rfl rfl rfl (.none rfl) (Ev.pickT rfl rfl) ?_
      refine JL.nil ?_
      refine JQ.thenN ?_
      refine JC.condT rfl ?_
      refine JC.seq ?_
      refine JC.region ?_
      refine JL.mv ?_
      refine JL.asg ?_
      refine JL.nil ?_
      refine JQ.thenN ?_
      refine JC.ret ?_
      refine JQ.thenR ?_
      refine JQ.end1 (H' := []) (.inl rfl) rfl (.tmp rfl) ?_ ?_
      · exact Sub.k
      · first | rfl | exact congrArg Value.bool (sign_end hfin)
    · -- guard 31 false
      have hB := of_decide_eq_false hB
      refine JL.val rfl rfl rfl (.yes rfl rfl rfl) (Ev.move rfl) ?_
      refine JL.val rfl rfl rfl (.yes rfl rfl rfl) (Ev.fld 1 rfl (fun _ _ => by kernel_rfl)) ?_
      refine JL.val rfl rfl rfl (.yes rfl rfl rfl) (Ev.load1 rfl Tryd.underlying34 rfl (Rd.own memK rfl)) ?_
      refine JL.val rfl rfl rfl (.yes rfl rfl rfl) (Ev.bin rfl rfl geq_int) ?_
      refine JL.val rfl rfl rfl (.none rfl) (Ev.pickF rfl rfl) ?_
      refine JL.mv ?_
      refine JL.split (d := 37) rfl (fun hC => ?_) (fun hC => ?_)
      · -- guard 37 true
        refine JL.skip rfl rfl (.noF rfl rfl rfl) ?_
        refine JL.skip rfl rfl (.noF rfl rfl rfl) ?_
        refine JL.val rfl rfl rfl (.none rfl) (Ev.pickT rfl rfl) ?_
        refine JL.mv ?_
        refine JL.skip rfl rfl (.noF rfl rfl rfl) ?_
        refine JL.skip rfl rfl (.noF rfl rfl rfl) ?_
        refine JL.skip rfl rfl (.noF rfl rfl rfl) ?_
        refine JL.val rfl rfl rfl (.none rfl) (Ev.pickT rfl rfl) ?_
        refine JL.mv ?_
        refine JL.skip rfl rfl (.noF rfl rfl rfl) ?_
        refine JL.skip rfl rfl (.noF rfl rfl rfl) ?_
        refine JL.val rfl rfl rfl (.none rfl) (Ev.pickT rfl rfl) ?_
        refine JL.nil ?_
        refine JQ.thenN ?_
        refine JC.condT rfl ?_
        refine JC.seq ?_
        refine JC.region ?_
        refine JL.mv ?_
        refine JL.asg ?_
        refine JL.nil ?_
        refine JQ.thenN ?_
        refine JC.ret ?_
        refine JQ.thenR ?_
        refine JQ.end1 (H' := []) (.inl rfl) rfl (.tmp rfl) ?_ ?_
        · exact Sub.k
        · first | rfl | exact congrArg Value.bool (sign_end hfin)
      · -- guard 37 false
        have hC := of_decide_eq_false hC
        have hxq : x.toNat < g.q.toNat := by omega
        have hx0 : x.toNat ≠ 0 := by omega
        have hz : kyE g x = 0 := kyE_ok (scE_ok hval.form (fun z hz => by obtain rfl := List.mem_singleton.1 hz; exact hxq) (fun z hz => by cases hz)) hx0
        refine JL.val rfl rfl rfl (.yes rfl rfl rfl) (Ev.lB Tryd.underlying24 Tryd.sizeOf24) ?_
        refine JL.callN rfl (.yes rfl rfl rfl) rfl Tryd.call26 (fun w1 hw1 => bgreat_any oa cap xs w1 (hb.old hw1)) ?_
        rintro _ _ ⟨gr, rfl, hgr⟩
        refine JL.val rfl rfl rfl (.none rfl) (Ev.pickF rfl rfl) ?_
        refine JL.mv ?_
        refine JL.split (d := 41) rfl (fun hD => ?_) (fun hD => ?_)
        · -- guard 41 true
          refine JL.skip rfl rfl (.noF rfl rfl rfl) ?_
          refine JL.skip rfl rfl (.noF rfl rfl rfl) ?_
          refine JL.skip rfl rfl (.noF rfl rfl rfl) ?_
          refine JL.val rfl rfl rfl (.none rfl) (Ev.pickT rfl rfl) ?_
          refine JL.mv ?_
          refine JL.skip rfl rfl (.noF rfl rfl rfl) ?_
          refine JL.skip rfl rfl (.noF rfl rfl rfl) ?_
          refine JL.val rfl rfl rfl (.none rfl) (Ev.pickT rfl rfl) ?_
          refine JL.nil ?_
          refine JQ.thenN ?_
          refine JC.condT rfl ?_
          refine JC.seq ?_
          refine JC.region ?_
          refine JL.mv ?_
          refine JL.asg ?_
          refine JL.nil ?_
          refine JQ.thenN ?_
          refine JC.ret ?_
          refine JQ.thenR ?_
          refine JQ.end1 (H' := []) (.inl rfl) rfl (.tmp rfl) ?_ ?_
          · exact Sub.k
          · first | rfl | exact congrArg Value.bool (sign_end hfin)
        · -- guard 41 false
          refine JL.val rfl rfl rfl (.yes rfl rfl rfl) (Ev.lB Tryd.underlying24 Tryd.sizeOf24) ?_
          refine JL.callV rfl (.yes rfl rfl rfl) rfl Tryd.call25 (fun w1 hw1 => bCheck_any oa cap xs w1 (hb.old hw1)) ?_
          refine JL.val rfl rfl rfl (.yes rfl rfl rfl) (Ev.bin rfl rfl neq_int) ?_
          refine JL.val rfl rfl rfl (.none rfl) (Ev.pickF rfl rfl) ?_
          refine JL.mv ?_
          refine JL.split (d := 46) rfl (fun hE => ?_) (fun hE => ?_)
          · -- guard 46 true
            refine JL.skip rfl rfl (.noF rfl rfl rfl) ?_
            refine JL.skip rfl rfl (.noF rfl rfl rfl) ?_
            refine JL.val rfl rfl rfl (.none rfl) (Ev.pickT rfl rfl) ?_
            refine JL.nil ?_
            refine JQ.thenN ?_
            refine JC.condT rfl ?_
            refine JC.seq ?_
            refine JC.region ?_
            refine JL.mv ?_
            refine JL.asg ?_
            refine JL.nil ?_
            refine JQ.thenN ?_
            refine JC.ret ?_
            refine JQ.thenR ?_
            refine JQ.end1 (H' := []) (.inl rfl) rfl (.tmp rfl) ?_ ?_
            · exact Sub.k
            · first | rfl | exact congrArg Value.bool (sign_end hfin)
          · -- guard 46 false
            have hok : okB (xs.map Et.e) := Classical.byContradiction fun h => by rw [ckE_bad h] at hE; simp at hE
            have hvf := hval.vf hxq hx0 (txt ⟨((xs.length : Nat) : Int), brV (xs.map Et.e), 0, 0⟩) (txt ⟨((xs.length : Nat) : Int), brV (xs.map Et.e), 0, 0⟩)
            rw [decide_eq_true rfl] at hvf
            have hfin := hval.vf hxq hx0 (txt ⟨((xs.length : Nat) : Int), brV (xs.map Et.e), 0, 0⟩) (txt ⟨o.n, o.root, (sigR g x (txt ⟨((xs.length : Nat) : Int), brV (xs.map Et.e), 0, 0⟩)).1, (sigR g x (txt ⟨((xs.length : Nat) : Int), brV (xs.map Et.e), 0, 0⟩)).2⟩)
            have hsv := hval.sv hxq (txt ⟨((xs.length : Nat) : Int), brV (xs.map Et.e), 0, 0⟩)
            have hsc := hval.sc (x := x) (txt ⟨((xs.length : Nat) : Int), brV (xs.map Et.e), 0, 0⟩)
            refine JL.val rfl rfl rfl (.yes rfl rfl rfl) (Ev.move rfl) ?_
            refine JL.val rfl rfl rfl (.yes rfl rfl rfl) (Ev.not rfl) ?_
            refine JL.val rfl rfl rfl (.none rfl) (Ev.pickF rfl rfl) ?_
            refine JL.nil ?_
            refine JQ.thenN ?_
            refine JC.knowF rfl ?_ ?_
            · rfl
            refine JC.skip ?_
            refine JQ.thenN ?_
            refine JC.seq ?_
            refine JC.region ?_
            refine JL.val rfl rfl rfl (.none rfl) (Ev.lB Tryd.underlying53 Tryd.sizeOf53) ?_
            refine JL.mv ?_
            refine JL.callV rfl (.none rfl) rfl Tryd.call54 (fun w1 hw1 => sPublicKey_any g x w1) ?_
            refine JL.mv ?_
            refine JL.val rfl rfl rfl (.none rfl) (Ev.ex0 rfl) ?_
            refine JL.val rfl rfl rfl (.none rfl) (Ev.ex1 rfl) ?_
            refine JL.asg ?_
            refine JL.asg ?_
            refine JL.nil ?_
            refine JQ.thenN ?_
            refine JC.seq ?_
            refine JC.region ?_
            refine JL.val rfl rfl rfl (.none rfl) (Ev.lB Tryd.underlying53 Tryd.sizeOf53) ?_
            refine JL.mv ?_
            refine JL.val rfl rfl rfl (.none rfl) (Ev.lB Tryd.underlying24 Tryd.sizeOf24) ?_
            refine JL.callV rfl (.none rfl) rfl Tryd.call21 (fun w1 hw1 => bSign_any g x oa cap xs w1 (hb.old hw1) (hk.old hw1) (hf.old hw1)) ?_
            refine JL.mv ?_
            refine JL.val rfl rfl rfl (.none rfl) (Ev.ex0 rfl) ?_
            refine JL.val rfl rfl rfl (.none rfl) (Ev.ex1 rfl) ?_
            refine JL.new rfl rfl rfl (.none rfl) (En.allocZ (cs := (Hd.cl ⟨0, zeroD, 0, 0⟩).toArray) Tryd.zeroValue38 rfl) (fun b12 hb12 => ?_)
            refine JL.sto rfl rfl (.none rfl) (Es.storeA rfl rfl Tryd.sizeOf38 Upd.k (Hd.size _) (Hd.size _) (Hd.one _)) ?_
            refine JL.reH (b := b12) (o' := Obj.cells (Hd.cl ⟨((xs.length : Nat) : Int), brV (xs.map Et.e), (sigR g x (txt ⟨((xs.length : Nat) : Int), brV (xs.map Et.e), 0, 0⟩)).1, (sigR g x (txt ⟨((xs.length : Nat) : Int), brV (xs.map Et.e), 0, 0⟩)).2⟩).toArray 38 (0, 0)) (by repeat (first | exact .here | apply Upd.there | apply Upd.assoc | apply Upd.left)) (congrArg (fun h : Hd => Obj.cells h.cl.toArray 38 (0, 0)) (sgH_ok hok hz)) ?_
            refine JL.asg ?_
            refine JL.nil ?_
            refine JQ.thenN ?_
            refine JC.seq ?_
            refine JC.region ?_
            refine JL.val rfl rfl rfl (.none rfl) (Ev.lB Tryd.underlying24 Tryd.sizeOf24) ?_
            refine JL.callV rfl (.none rfl) rfl Tryd.call34 (fun w1 hw1 => bRoot_any oa cap xs w1 (hb.old hw1) (hk.old hw1) (hf.old hw1)) ?_
            refine JL.mv ?_
            refine JL.val rfl rfl rfl (.none rfl) (Ev.ex0 rfl) ?_
            refine JL.val rfl rfl rfl (.none rfl) (Ev.ex1 rfl) ?_
            refine JL.new rfl rfl rfl (.none rfl) (En.allocZ (cs := arr8 (List.replicate 32 0)) Tryd.zeroValue33 rfl) (fun b14 hb14 => ?_)
            refine JL.sto rfl rfl (.none rfl) (Es.sA Tryd.sizeOf33) ?_
            refine JL.asg ?_
            refine JL.nil ?_
            refine JQ.thenN ?_
            refine JC.seq ?_
            refine JC.region ?_
            refine JL.re (d := 10) (v' := u64 (pw g.g x g.p)) rfl (congrArg u64 (if_pos hz)) ?_
            refine JL.val rfl rfl rfl (.none rfl) (Ev.lB Tryd.underlying53 Tryd.sizeOf53) ?_
            refine JL.mv ?_
            refine JL.val rfl rfl rfl (.none rfl) (Ev.loadB rfl memK Tryd.underlying38 rfl Tryd.sizeOf38 (Hd.size _)) ?_
            refine JL.callV rfl (.none rfl) rfl Tryd.call46 (fun w1 hw1 => bVerify_any g (pw g.g x g.p) ⟨((xs.length : Nat) : Int), brV (xs.map Et.e), (sigR g x (txt ⟨((xs.length : Nat) : Int), brV (xs.map Et.e), 0, 0⟩)).1, (sigR g x (txt ⟨((xs.length : Nat) : Int), brV (xs.map Et.e), 0, 0⟩)).2⟩ w1 (hk.old hw1) (hf.old hw1)) ?_
            refine JL.mv ?_
            refine JL.val rfl rfl rfl (.none rfl) (Ev.ex0 rfl) ?_
            refine JL.val rfl rfl rfl (.none rfl) (Ev.ex1 rfl) ?_
            refine JL.asg ?_
            refine JL.asg ?_
            refine JL.nil ?_
            refine JQ.thenN ?_
            refine JC.seq ?_
            refine JC.seq ?_
            refine JC.region ?_
            refine JL.re (d := 11) (v' := .int .i64 0) rfl (congrArg (Value.int .i64) (hz)) ?_
            refine JL.re (d := 13) (v' := .int .i64 0) rfl (congrArg (Value.int .i64) (by rw [sgE_ok hok, hz])) ?_
            refine JL.re (d := 15) (v' := .int .i64 0) rfl (congrArg (Value.int .i64) (ckE_ok hok)) ?_
            refine JL.re (d := 17) (v' := .int .i64 0) rfl (congrArg (Value.int .i64) (hsv)) ?_
            refine JL.re (d := 16) (v' := .bool true) rfl (congrArg Value.bool hvf) ?_
            refine JL.mv ?_
            refine JL.val rfl rfl rfl (.none rfl) (Ev.bin rfl rfl neq_int) ?_
            refine JL.mv ?_
            refine JL.know (d := 78) (b := false) rfl ?_ ?_
            · first | rfl | exact decide_eq_true rfl | exact decide_eq_true hsc | exact decide_eq_false (by simp)
            refine JL.val rfl rfl rfl (.yes rfl rfl rfl) (Ev.move rfl) ?_
            refine JL.val rfl rfl rfl (.yes rfl rfl rfl) (Ev.bin rfl rfl neq_int) ?_
            refine JL.val rfl rfl rfl (.none rfl) (Ev.pickF rfl rfl) ?_
            refine JL.mv ?_
            refine JL.know (d := 82) (b := false) rfl ?_ ?_
            · first | rfl | exact decide_eq_true rfl | exact decide_eq_true hsc | exact decide_eq_false (by simp)
            refine JL.val rfl rfl rfl (.yes rfl rfl rfl) (Ev.move rfl) ?_
            refine JL.val rfl rfl rfl (.yes rfl rfl rfl) (Ev.bin rfl rfl neq_int) ?_
            refine JL.val rfl rfl rfl (.none rfl) (Ev.pickF rfl rfl) ?_
            refine JL.mv ?_
            refine JL.know (d := 86) (b := false) rfl ?_ ?_
            · first | rfl | exact decide_eq_true rfl | exact decide_eq_true hsc | exact decide_eq_false (by simp)
            refine JL.val rfl rfl rfl (.yes rfl rfl rfl) (Ev.move rfl) ?_
            refine JL.val rfl rfl rfl (.yes rfl rfl rfl) (Ev.bin rfl rfl neq_int) ?_
            refine JL.val rfl rfl rfl (.none rfl) (Ev.pickF rfl rfl) ?_
            refine JL.mv ?_
            refine JL.know (d := 90) (b := false) rfl ?_ ?_
            · first | rfl | exact decide_eq_true rfl | exact decide_eq_true hsc | exact decide_eq_false (by simp)
            refine JL.val rfl rfl rfl (.yes rfl rfl rfl) (Ev.move rfl) ?_
            refine JL.val rfl rfl rfl (.yes rfl rfl rfl) (Ev.not rfl) ?_
            refine JL.val rfl rfl rfl (.none rfl) (Ev.pickF rfl rfl) ?_
            refine JL.mv ?_
            refine JL.know (d := 94) (b := false) rfl ?_ ?_
            · first | rfl | exact decide_eq_true rfl | exact decide_eq_true hsc | exact decide_eq_false (by simp)
            refine JL.val rfl rfl rfl (.yes rfl rfl rfl) (Ev.fld 0 rfl (fun _ _ => by kernel_rfl)) ?_
            refine JL.val rfl rfl rfl (.yes rfl rfl rfl) (Ev.load1 rfl Tryd.underlying3 rfl (Rd.own memK (Hd.get0 ⟨((xs.length : Nat) : Int), brV (xs.map Et.e), (sigR g x (txt ⟨((xs.length : Nat) : Int), brV (xs.map Et.e), 0, 0⟩)).1, (sigR g x (txt ⟨((xs.length : Nat) : Int), brV (xs.map Et.e), 0, 0⟩)).2⟩))) ?_
            refine JL.val rfl rfl rfl (.yes rfl rfl rfl) (Ev.fld 0 rfl (fun _ _ => by kernel_rfl)) ?_
            refine JL.val rfl rfl rfl (.yes rfl rfl rfl) (Ev.load1 rfl Tryd.underlying22 rfl (Rd.own memK rfl)) ?_
            refine JL.val rfl rfl rfl (.yes rfl rfl rfl) (Ev.lenS rfl Tryd.underlying22) ?_
            refine JL.val rfl rfl rfl (.yes rfl rfl rfl) (Ev.bin rfl rfl neq_int) ?_
            refine JL.val rfl rfl rfl (.none rfl) (Ev.pickF rfl rfl) ?_
            refine JL.mv ?_
            refine JL.know (d := 102) (b := false) rfl ?_ ?_
            · first | rfl | exact decide_eq_true rfl | exact decide_eq_true hsc | exact decide_eq_false (by simp)
            refine JL.val rfl rfl rfl (.yes rfl rfl rfl) (Ev.fld 1 rfl (fun _ _ => by kernel_rfl)) ?_
            refine JL.val rfl rfl rfl (.yes rfl rfl rfl) (Ev.loadA (l := (brV (xs.map Et.e)).1.map u8) rfl Tryd.underlying33 rfl Tryd.sizeOf33 (Hd.rds (h := ⟨((xs.length : Nat) : Int), brV (xs.map Et.e), (sigR g x (txt ⟨((xs.length : Nat) : Int), brV (xs.map Et.e), 0, 0⟩)).1, (sigR g x (txt ⟨((xs.length : Nat) : Int), brV (xs.map Et.e), 0, 0⟩)).2⟩) memK) (by rw [List.length_map]; exact (brV (xs.map Et.e)).2)) ?_
            refine JL.val rfl rfl rfl (.yes rfl rfl rfl) (Ev.lB Tryd.underlying33 Tryd.sizeOf33) ?_
            refine JL.val rfl rfl rfl (.yes rfl rfl rfl) (Ev.bin rfl rfl (neq_arr8 (n := 32) Tryd.underlying33 Tryd.underlying5 (by kernel_rfl) (by kernel_rfl) (by first | rfl | exact dig_len _ | assumption | exact sha_length _ | exact shaO_length _) (by first | rfl | exact dig_len _ | assumption | exact sha_length _ | exact shaO_length _))) ?_
            refine JL.val rfl rfl rfl (.none rfl) (Ev.pickF rfl rfl) ?_
            refine JL.nil ?_
            refine JQ.thenN ?_
            refine JC.knowF rfl ?_ ?_
            · first | rfl | exact decide_eq_false (fun h => h rfl) | simp
            refine JC.skip ?_
            refine JQ.thenN ?_
            refine JC.seq ?_
            refine JC.region ?_
            refine JL.val rfl rfl rfl (.none rfl) (Ev.fld 33 rfl (fun _ _ => by kernel_rfl)) ?_
            refine JL.val rfl rfl rfl (.none rfl) (Ev.loadA (l := [u64 ((sigR g x (txt ⟨((xs.length : Nat) : Int), brV (xs.map Et.e), 0, 0⟩)).1), u64 ((sigR g x (txt ⟨((xs.length : Nat) : Int), brV (xs.map Et.e), 0, 0⟩)).2)]) rfl Tryd.underlying36 rfl Tryd.sizeOf36 (Hd.rdsS (h := ⟨((xs.length : Nat) : Int), brV (xs.map Et.e), (sigR g x (txt ⟨((xs.length : Nat) : Int), brV (xs.map Et.e), 0, 0⟩)).1, (sigR g x (txt ⟨((xs.length : Nat) : Int), brV (xs.map Et.e), 0, 0⟩)).2⟩) memK) rfl) ?_
            refine JL.val rfl rfl rfl (.none rfl) (Ev.fld 33 rfl (fun _ _ => by kernel_rfl)) ?_
            refine JL.sto rfl rfl (.none rfl) (Es.store (cs := o.cl.toArray) rfl rfl Tryd.sizeOf36 Upd.k rfl (by rw [Hd.size]; decide) (sig_one _ _)) ?_
            refine JL.reH (b := b7) (o' := Obj.cells (Hd.cl ⟨o.n, o.root, (sigR g x (txt ⟨((xs.length : Nat) : Int), brV (xs.map Et.e), 0, 0⟩)).1, (sigR g x (txt ⟨((xs.length : Nat) : Int), brV (xs.map Et.e), 0, 0⟩)).2⟩).toArray 38 (0, 0)) (by repeat (first | exact .here | apply Upd.there | apply Upd.assoc | apply Upd.left)) (congrArg (fun c => Obj.cells c 38 (0, 0)) (Hd.sign2 o _ _)) ?_
            refine JL.nil ?_
            refine JQ.thenN ?_
            refine JC.seq ?_
            refine JC.cut (X := Unit) (fun _ => [(4, .pointer (some ⟨b4, 0, none⟩)), (7, .pointer (some ⟨b7, 0, none⟩)), (12, .pointer (some ⟨b12, 0, none⟩)), (9, .bool true), (10, u64 (pw g.g x g.p)), (18, u64 (if scE g [] [(pw g.g x g.p), (sigR g x (txt ⟨((xs.length : Nat) : Int), brV (xs.map Et.e), 0, 0⟩)).1] = 0 then chalR g (pw g.g x g.p) ((sigR g x (txt ⟨((xs.length : Nat) : Int), brV (xs.map Et.e), 0, 0⟩)).1) (txt ⟨((xs.length : Nat) : Int), brV (xs.map Et.e), (sigR g x (txt ⟨((xs.length : Nat) : Int), brV (xs.map Et.e), 0, 0⟩)).1, (sigR g x (txt ⟨((xs.length : Nat) : Int), brV (xs.map Et.e), 0, 0⟩)).2⟩) else 0)), (19, .int .i64 (scE g [] [(pw g.g x g.p), (sigR g x (txt ⟨((xs.length : Nat) : Int), brV (xs.map Et.e), 0, 0⟩)).1]))]) (fun _ => [(b12, Obj.cells (Hd.cl ⟨((xs.length : Nat) : Int), brV (xs.map Et.e), (sigR g x (txt ⟨((xs.length : Nat) : Int), brV (xs.map Et.e), 0, 0⟩)).1, (sigR g x (txt ⟨((xs.length : Nat) : Int), brV (xs.map Et.e), 0, 0⟩)).2⟩).toArray 38 (0, 0)), (b7, Obj.cells (Hd.cl ⟨o.n, o.root, (sigR g x (txt ⟨((xs.length : Nat) : Int), brV (xs.map Et.e), 0, 0⟩)).1, (sigR g x (txt ⟨((xs.length : Nat) : Int), brV (xs.map Et.e), 0, 0⟩)).2⟩).toArray 38 (0, 0)), (b4, Obj.cells g.cl.toArray 53 (0, 0))]) ?_ ?_
            · refine JC.regionA (by kernel_rfl) ?_
              refine JA.mid (X := Option Row) (fun rT => Row.ok 1 (txt ⟨((xs.length : Nat) : Int), brV (xs.map Et.e), (sigR g x (txt ⟨((xs.length : Nat) : Int), brV (xs.map Et.e), 0, 0⟩)).1, (sigR g x (txt ⟨((xs.length : Nat) : Int), brV (xs.map Et.e), 0, 0⟩)).2⟩).length ((txt ⟨((xs.length : Nat) : Int), brV (xs.map Et.e), (sigR g x (txt ⟨((xs.length : Nat) : Int), brV (xs.map Et.e), 0, 0⟩)).1, (sigR g x (txt ⟨((xs.length : Nat) : Int), brV (xs.map Et.e), 0, 0⟩)).2⟩).map u8) rT) (fun rT => [(118, Row.v (txt ⟨((xs.length : Nat) : Int), brV (xs.map Et.e), (sigR g x (txt ⟨((xs.length : Nat) : Int), brV (xs.map Et.e), 0, 0⟩)).1, (sigR g x (txt ⟨((xs.length : Nat) : Int), brV (xs.map Et.e), 0, 0⟩)).2⟩).length rT), (117, .agg (Hd.cl ⟨((xs.length : Nat) : Int), brV (xs.map Et.e), (sigR g x (txt ⟨((xs.length : Nat) : Int), brV (xs.map Et.e), 0, 0⟩)).1, (sigR g x (txt ⟨((xs.length : Nat) : Int), brV (xs.map Et.e), 0, 0⟩)).2⟩).toArray), (116, u64 ((sigR g x (txt ⟨((xs.length : Nat) : Int), brV (xs.map Et.e), 0, 0⟩)).1)), (115, .pointer (some ⟨b12, 0 + 33 + 0, none⟩)), (114, .pointer (some ⟨b12, 0 + 33, none⟩)), (113, u64 (pw g.g x g.p)), (112, .agg g.cl.toArray), (4, .pointer (some ⟨b4, 0, none⟩)), (7, .pointer (some ⟨b7, 0, none⟩)), (12, .pointer (some ⟨b12, 0, none⟩)), (9, .bool true), (10, u64 (pw g.g x g.p))]) (fun rT => (Row.b 5 rT ++ [(b12, Obj.cells (Hd.cl ⟨((xs.length : Nat) : Int), brV (xs.map Et.e), (sigR g x (txt ⟨((xs.length : Nat) : Int), brV (xs.map Et.e), 0, 0⟩)).1, (sigR g x (txt ⟨((xs.length : Nat) : Int), brV (xs.map Et.e), 0, 0⟩)).2⟩).toArray 38 (0, 0)), (b7, Obj.cells (Hd.cl ⟨o.n, o.root, (sigR g x (txt ⟨((xs.length : Nat) : Int), brV (xs.map Et.e), 0, 0⟩)).1, (sigR g x (txt ⟨((xs.length : Nat) : Int), brV (xs.map Et.e), 0, 0⟩)).2⟩).toArray 38 (0, 0)), (b4, Obj.cells g.cl.toArray 53 (0, 0))])) 6 #[true, true, true, true, true, true, true, false, false, false, false, false, false] ?_ (fun hmid0 => ?_)
              · -- state [0, 1, 2, 3, 4, 5, 6]
                rintro rT hrT
                refine JA.one 7 ?_
                obtain ⟨oT, cT, eT, _, hCT⟩ := Row.vw (e := 5) hrT
                refine JO.re (d := 118) rfl eT ?_
                refine JO.callV rfl (.none rfl) rfl Tryd.call55 (fun w1 hw1 => sChallenge_any g (pw g.g x g.p) ((sigR g x (txt ⟨((xs.length : Nat) : Int), brV (xs.map Et.e), 0, 0⟩)).1) oT cT (txt ⟨((xs.length : Nat) : Int), brV (xs.map Et.e), (sigR g x (txt ⟨((xs.length : Nat) : Int), brV (xs.map Et.e), 0, 0⟩)).1, (sigR g x (txt ⟨((xs.length : Nat) : Int), brV (xs.map Et.e), 0, 0⟩)).2⟩) w1 ((hCT w1 hw1 (fun p hp => by simp [hp])).bs rfl) (by rw [txt_length]; decide) (hk.old hw1) (hf.old hw1)) ?_
                refine JA.tkc 8 rfl (.none rfl) (fun _ => (Ev.move rfl)) ?_
                refine JA.tkc 9 rfl (.none rfl) (fun _ => (Ev.ex0 rfl)) ?_
                refine JA.tkc 10 rfl (.none rfl) (fun _ => (Ev.ex1 rfl)) ?_
                refine JA.tkc 11 rfl (.none rfl) (fun _ => (Ev.assign rfl)) ?_
                refine JA.tkc 12 rfl (.none rfl) (fun _ => (Ev.assign rfl)) ?_
                refine JA.done (by kernel_rfl) ?_
                refine JQ.cutN () ?_ ?_
                · exact Keeps.k
                · exact Sub.k
              refine JA.mid (X := Option Row) (fun rT => True) (fun rT => [(117, .agg (Hd.cl ⟨((xs.length : Nat) : Int), brV (xs.map Et.e), (sigR g x (txt ⟨((xs.length : Nat) : Int), brV (xs.map Et.e), 0, 0⟩)).1, (sigR g x (txt ⟨((xs.length : Nat) : Int), brV (xs.map Et.e), 0, 0⟩)).2⟩).toArray), (116, u64 ((sigR g x (txt ⟨((xs.length : Nat) : Int), brV (xs.map Et.e), 0, 0⟩)).1)), (115, .pointer (some ⟨b12, 0 + 33 + 0, none⟩)), (114, .pointer (some ⟨b12, 0 + 33, none⟩)), (113, u64 (pw g.g x g.p)), (112, .agg g.cl.toArray), (4, .pointer (some ⟨b4, 0, none⟩)), (7, .pointer (some ⟨b7, 0, none⟩)), (12, .pointer (some ⟨b12, 0, none⟩)), (9, .bool true), (10, u64 (pw g.g x g.p))]) (fun rT => ([(b12, Obj.cells (Hd.cl ⟨((xs.length : Nat) : Int), brV (xs.map Et.e), (sigR g x (txt ⟨((xs.length : Nat) : Int), brV (xs.map Et.e), 0, 0⟩)).1, (sigR g x (txt ⟨((xs.length : Nat) : Int), brV (xs.map Et.e), 0, 0⟩)).2⟩).toArray 38 (0, 0)), (b7, Obj.cells (Hd.cl ⟨o.n, o.root, (sigR g x (txt ⟨((xs.length : Nat) : Int), brV (xs.map Et.e), 0, 0⟩)).1, (sigR g x (txt ⟨((xs.length : Nat) : Int), brV (xs.map Et.e), 0, 0⟩)).2⟩).toArray 38 (0, 0)), (b4, Obj.cells g.cl.toArray 53 (0, 0))])) 7 #[true, true, true, true, true, true, false, false, false, false, false, false, false] ?_ (fun hmid1 => ?_)
              · -- state [0, 1, 2, 3, 4, 5]
                rintro rT _
                refine JA.one 6 ?_
                refine JO.callN rfl (.none rfl) rfl Tryd.call14 (fun w1 hw1 => bText_any ⟨((xs.length : Nat) : Int), brV (xs.map Et.e), (sigR g x (txt ⟨((xs.length : Nat) : Int), brV (xs.map Et.e), 0, 0⟩)).1, (sigR g x (txt ⟨((xs.length : Nat) : Int), brV (xs.map Et.e), 0, 0⟩)).2⟩ w1) ?_
                rintro _ _ ⟨rT, rfl, rfl, hrT⟩
                exact JA.weak rfl (by kernel_rfl) (by exact Keeps.k) (by exact Sub.k) (hmid0 rT (by exact hrT))
              refine JA.mid (X := Option Row) (fun rT => Row.ok 1 (txt ⟨((xs.length : Nat) : Int), brV (xs.map Et.e), (sigR g x (txt ⟨((xs.length : Nat) : Int), brV (xs.map Et.e), 0, 0⟩)).1, (sigR g x (txt ⟨((xs.length : Nat) : Int), brV (xs.map Et.e), 0, 0⟩)).2⟩).length ((txt ⟨((xs.length : Nat) : Int), brV (xs.map Et.e), (sigR g x (txt ⟨((xs.length : Nat) : Int), brV (xs.map Et.e), 0, 0⟩)).1, (sigR g x (txt ⟨((xs.length : Nat) : Int), brV (xs.map Et.e), 0, 0⟩)).2⟩).map u8) rT) (fun rT => [(118, Row.v (txt ⟨((xs.length : Nat) : Int), brV (xs.map Et.e), (sigR g x (txt ⟨((xs.length : Nat) : Int), brV (xs.map Et.e), 0, 0⟩)).1, (sigR g x (txt ⟨((xs.length : Nat) : Int), brV (xs.map Et.e), 0, 0⟩)).2⟩).length rT), (117, .agg (Hd.cl ⟨((xs.length : Nat) : Int), brV (xs.map Et.e), (sigR g x (txt ⟨((xs.length : Nat) : Int), brV (xs.map Et.e), 0, 0⟩)).1, (sigR g x (txt ⟨((xs.length : Nat) : Int), brV (xs.map Et.e), 0, 0⟩)).2⟩).toArray), (115, .pointer (some ⟨b12, 0 + 33 + 0, none⟩)), (114, .pointer (some ⟨b12, 0 + 33, none⟩)), (113, u64 (pw g.g x g.p)), (112, .agg g.cl.toArray), (4, .pointer (some ⟨b4, 0, none⟩)), (7, .pointer (some ⟨b7, 0, none⟩)), (12, .pointer (some ⟨b12, 0, none⟩)), (9, .bool true), (10, u64 (pw g.g x g.p))]) (fun rT => (Row.b 5 rT ++ [(b12, Obj.cells (Hd.cl ⟨((xs.length : Nat) : Int), brV (xs.map Et.e), (sigR g x (txt ⟨((xs.length : Nat) : Int), brV (xs.map Et.e), 0, 0⟩)).1, (sigR g x (txt ⟨((xs.length : Nat) : Int), brV (xs.map Et.e), 0, 0⟩)).2⟩).toArray 38 (0, 0)), (b7, Obj.cells (Hd.cl ⟨o.n, o.root, (sigR g x (txt ⟨((xs.length : Nat) : Int), brV (xs.map Et.e), 0, 0⟩)).1, (sigR g x (txt ⟨((xs.length : Nat) : Int), brV (xs.map Et.e), 0, 0⟩)).2⟩).toArray 38 (0, 0)), (b4, Obj.cells g.cl.toArray 53 (0, 0))])) 7 #[true, true, true, true, false, true, true, false, false, false, false, false, false] ?_ (fun hmid2 => ?_)
              · -- state [0, 1, 2, 3, 5, 6]
                rintro rT hrT
                refine JA.one 4 ?_
                refine JO.val rfl rfl rfl (.none rfl) (Ev.load1 rfl Tryd.underlying34 rfl (Rd.own memK (Hd.get33 ⟨((xs.length : Nat) : Int), brV (xs.map Et.e), (sigR g x (txt ⟨((xs.length : Nat) : Int), brV (xs.map Et.e), 0, 0⟩)).1, (sigR g x (txt ⟨((xs.length : Nat) : Int), brV (xs.map Et.e), 0, 0⟩)).2⟩))) ?_
                exact JA.weak rfl (by kernel_rfl) (by exact Keeps.k) (by exact Sub.k) (hmid0 rT (by exact hrT))
              refine JA.mid (X := Option Row) (fun rT => Row.ok 1 (txt ⟨((xs.length : Nat) : Int), brV (xs.map Et.e), (sigR g x (txt ⟨((xs.length : Nat) : Int), brV (xs.map Et.e), 0, 0⟩)).1, (sigR g x (txt ⟨((xs.length : Nat) : Int), brV (xs.map Et.e), 0, 0⟩)).2⟩).length ((txt ⟨((xs.length : Nat) : Int), brV (xs.map Et.e), (sigR g x (txt ⟨((xs.length : Nat) : Int), brV (xs.map Et.e), 0, 0⟩)).1, (sigR g x (txt ⟨((xs.length : Nat) : Int), brV (xs.map Et.e), 0, 0⟩)).2⟩).map u8) rT) (fun rT => [(118, Row.v (txt ⟨((xs.length : Nat) : Int), brV (xs.map Et.e), (sigR g x (txt ⟨((xs.length : Nat) : Int), brV (xs.map Et.e), 0, 0⟩)).1, (sigR g x (txt ⟨((xs.length : Nat) : Int), brV (xs.map Et.e), 0, 0⟩)).2⟩).length rT), (117, .agg (Hd.cl ⟨((xs.length : Nat) : Int), brV (xs.map Et.e), (sigR g x (txt ⟨((xs.length : Nat) : Int), brV (xs.map Et.e), 0, 0⟩)).1, (sigR g x (txt ⟨((xs.length : Nat) : Int), brV (xs.map Et.e), 0, 0⟩)).2⟩).toArray), (116, u64 ((sigR g x (txt ⟨((xs.length : Nat) : Int), brV (xs.map Et.e), 0, 0⟩)).1)), (115, .pointer (some ⟨b12, 0 + 33 + 0, none⟩)), (114, .pointer (some ⟨b12, 0 + 33, none⟩)), (113, u64 (pw g.g x g.p)), (4, .pointer (some ⟨b4, 0, none⟩)), (7, .pointer (some ⟨b7, 0, none⟩)), (12, .pointer (some ⟨b12, 0, none⟩)), (9, .bool true), (10, u64 (pw g.g x g.p))]) (fun rT => (Row.b 5 rT ++ [(b12, Obj.cells (Hd.cl ⟨((xs.length : Nat) : Int), brV (xs.map Et.e), (sigR g x (txt ⟨((xs.length : Nat) : Int), brV (xs.map Et.e), 0, 0⟩)).1, (sigR g x (txt ⟨((xs.length : Nat) : Int), brV (xs.map Et.e), 0, 0⟩)).2⟩).toArray 38 (0, 0)), (b7, Obj.cells (Hd.cl ⟨o.n, o.root, (sigR g x (txt ⟨((xs.length : Nat) : Int), brV (xs.map Et.e), 0, 0⟩)).1, (sigR g x (txt ⟨((xs.length : Nat) : Int), brV (xs.map Et.e), 0, 0⟩)).2⟩).toArray 38 (0, 0)), (b4, Obj.cells g.cl.toArray 53 (0, 0))])) 7 #[false, true, true, true, true, true, true, false, false, false, false, false, false] ?_ (fun hmid3 => ?_)
              · -- state [1, 2, 3, 4, 5, 6]
                rintro rT hrT
                refine JA.one 0 ?_
                refine JO.val rfl rfl rfl (.none rfl) (Ev.lB Tryd.underlying53 Tryd.sizeOf53) ?_
                exact JA.weak rfl (by kernel_rfl) (by exact Keeps.k) (by exact Sub.k) (hmid0 rT (by exact hrT))
              refine JA.mid (X := Option Row) (fun rT => True) (fun rT => [(116, u64 ((sigR g x (txt ⟨((xs.length : Nat) : Int), brV (xs.map Et.e), 0, 0⟩)).1)), (115, .pointer (some ⟨b12, 0 + 33 + 0, none⟩)), (114, .pointer (some ⟨b12, 0 + 33, none⟩)), (113, u64 (pw g.g x g.p)), (112, .agg g.cl.toArray), (4, .pointer (some ⟨b4, 0, none⟩)), (7, .pointer (some ⟨b7, 0, none⟩)), (12, .pointer (some ⟨b12, 0, none⟩)), (9, .bool true), (10, u64 (pw g.g x g.p))]) (fun rT => ([(b12, Obj.cells (Hd.cl ⟨((xs.length : Nat) : Int), brV (xs.map Et.e), (sigR g x (txt ⟨((xs.length : Nat) : Int), brV (xs.map Et.e), 0, 0⟩)).1, (sigR g x (txt ⟨((xs.length : Nat) : Int), brV (xs.map Et.e), 0, 0⟩)).2⟩).toArray 38 (0, 0)), (b7, Obj.cells (Hd.cl ⟨o.n, o.root, (sigR g x (txt ⟨((xs.length : Nat) : Int), brV (xs.map Et.e), 0, 0⟩)).1, (sigR g x (txt ⟨((xs.length : Nat) : Int), brV (xs.map Et.e), 0, 0⟩)).2⟩).toArray 38 (0, 0)), (b4, Obj.cells g.cl.toArray 53 (0, 0))])) 8 #[true, true, true, true, true, false, false, false, false, false, false, false, false] ?_ (fun hmid4 => ?_)
              · -- state [0, 1, 2, 3, 4]
                rintro rT _
                refine JA.one 5 ?_
                refine JO.val rfl rfl rfl (.none rfl) (Ev.loadB rfl memK Tryd.underlying38 rfl Tryd.sizeOf38 (Hd.size _)) ?_
                exact JA.weak rfl (by kernel_rfl) (by exact Keeps.k) (by exact Sub.k) (hmid1 none (by trivial))
              refine JA.mid (X := Option Row) (fun rT => True) (fun rT => [(117, .agg (Hd.cl ⟨((xs.length : Nat) : Int), brV (xs.map Et.e), (sigR g x (txt ⟨((xs.length : Nat) : Int), brV (xs.map Et.e), 0, 0⟩)).1, (sigR g x (txt ⟨((xs.length : Nat) : Int), brV (xs.map Et.e), 0, 0⟩)).2⟩).toArray), (115, .pointer (some ⟨b12, 0 + 33 + 0, none⟩)), (114, .pointer (some ⟨b12, 0 + 33, none⟩)), (113, u64 (pw g.g x g.p)), (112, .agg g.cl.toArray), (4, .pointer (some ⟨b4, 0, none⟩)), (7, .pointer (some ⟨b7, 0, none⟩)), (12, .pointer (some ⟨b12, 0, none⟩)), (9, .bool true), (10, u64 (pw g.g x g.p))]) (fun rT => ([(b12, Obj.cells (Hd.cl ⟨((xs.length : Nat) : Int), brV (xs.map Et.e), (sigR g x (txt ⟨((xs.length : Nat) : Int), brV (xs.map Et.e), 0, 0⟩)).1, (sigR g x (txt ⟨((xs.length : Nat) : Int), brV (xs.map Et.e), 0, 0⟩)).2⟩).toArray 38 (0, 0)), (b7, Obj.cells (Hd.cl ⟨o.n, o.root, (sigR g x (txt ⟨((xs.length : Nat) : Int), brV (xs.map Et.e), 0, 0⟩)).1, (sigR g x (txt ⟨((xs.length : Nat) : Int), brV (xs.map Et.e), 0, 0⟩)).2⟩).toArray 38 (0, 0)), (b4, Obj.cells g.cl.toArray 53 (0, 0))])) 8 #[true, true, true, true, false, true, false, false, false, false, false, false, false] ?_ (fun hmid5 => ?_)
              · -- state [0, 1, 2, 3, 5]
                rintro rT _
                refine JA.branch [4, 6] (by kernel_rfl) rfl ?_
                refine JAll.cons rfl ?_ ?_
                · -- 4
                  refine JO.val rfl rfl rfl (.none rfl) (Ev.load1 rfl Tryd.underlying34 rfl (Rd.own memK (Hd.get33 ⟨((xs.length : Nat) : Int), brV (xs.map Et.e), (sigR g x (txt ⟨((xs.length : Nat) : Int), brV (xs.map Et.e), 0, 0⟩)).1, (sigR g x (txt ⟨((xs.length : Nat) : Int), brV (xs.map Et.e), 0, 0⟩)).2⟩))) ?_
                  exact JA.weak rfl (by kernel_rfl) (by exact Keeps.k) (by exact Sub.k) (hmid1 none (by trivial))
                refine JAll.cons rfl ?_ JAll.nil
                refine JO.callN rfl (.none rfl) rfl Tryd.call14 (fun w1 hw1 => bText_any ⟨((xs.length : Nat) : Int), brV (xs.map Et.e), (sigR g x (txt ⟨((xs.length : Nat) : Int), brV (xs.map Et.e), 0, 0⟩)).1, (sigR g x (txt ⟨((xs.length : Nat) : Int), brV (xs.map Et.e), 0, 0⟩)).2⟩ w1) ?_
                rintro _ _ ⟨rT, rfl, rfl, hrT⟩
                exact JA.weak rfl (by kernel_rfl) (by exact Keeps.k) (by exact Sub.k) (hmid2 rT (by exact hrT))
              refine JA.mid (X := Option Row) (fun rT => True) (fun rT => [(117, .agg (Hd.cl ⟨((xs.length : Nat) : Int), brV (xs.map Et.e), (sigR g x (txt ⟨((xs.length : Nat) : Int), brV (xs.map Et.e), 0, 0⟩)).1, (sigR g x (txt ⟨((xs.length : Nat) : Int), brV (xs.map Et.e), 0, 0⟩)).2⟩).toArray), (116, u64 ((sigR g x (txt ⟨((xs.length : Nat) : Int), brV (xs.map Et.e), 0, 0⟩)).1)), (115, .pointer (some ⟨b12, 0 + 33 + 0, none⟩)), (114, .pointer (some ⟨b12, 0 + 33, none⟩)), (113, u64 (pw g.g x g.p)), (4, .pointer (some ⟨b4, 0, none⟩)), (7, .pointer (some ⟨b7, 0, none⟩)), (12, .pointer (some ⟨b12, 0, none⟩)), (9, .bool true), (10, u64 (pw g.g x g.p))]) (fun rT => ([(b12, Obj.cells (Hd.cl ⟨((xs.length : Nat) : Int), brV (xs.map Et.e), (sigR g x (txt ⟨((xs.length : Nat) : Int), brV (xs.map Et.e), 0, 0⟩)).1, (sigR g x (txt ⟨((xs.length : Nat) : Int), brV (xs.map Et.e), 0, 0⟩)).2⟩).toArray 38 (0, 0)), (b7, Obj.cells (Hd.cl ⟨o.n, o.root, (sigR g x (txt ⟨((xs.length : Nat) : Int), brV (xs.map Et.e), 0, 0⟩)).1, (sigR g x (txt ⟨((xs.length : Nat) : Int), brV (xs.map Et.e), 0, 0⟩)).2⟩).toArray 38 (0, 0)), (b4, Obj.cells g.cl.toArray 53 (0, 0))])) 8 #[false, true, true, true, true, true, false, false, false, false, false, false, false] ?_ (fun hmid6 => ?_)
              · -- state [1, 2, 3, 4, 5]
                rintro rT _
                refine JA.branch [0, 6] (by kernel_rfl) rfl ?_
                refine JAll.cons rfl ?_ ?_
                · -- 0
                  refine JO.val rfl rfl rfl (.none rfl) (Ev.lB Tryd.underlying53 Tryd.sizeOf53) ?_
                  exact JA.weak rfl (by kernel_rfl) (by exact Keeps.k) (by exact Sub.k) (hmid1 none (by trivial))
                refine JAll.cons rfl ?_ JAll.nil
                refine JO.callN rfl (.none rfl) rfl Tryd.call14 (fun w1 hw1 => bText_any ⟨((xs.length : Nat) : Int), brV (xs.map Et.e), (sigR g x (txt ⟨((xs.length : Nat) : Int), brV (xs.map Et.e), 0, 0⟩)).1, (sigR g x (txt ⟨((xs.length : Nat) : Int), brV (xs.map Et.e), 0, 0⟩)).2⟩ w1) ?_
                rintro _ _ ⟨rT, rfl, rfl, hrT⟩
                exact JA.weak rfl (by kernel_rfl) (by exact Keeps.k) (by exact Sub.k) (hmid3 rT (by exact hrT))
              refine JA.mid (X := Option Row) (fun rT => Row.ok 1 (txt ⟨((xs.length : Nat) : Int), brV (xs.map Et.e), (sigR g x (txt ⟨((xs.length : Nat) : Int), brV (xs.map Et.e), 0, 0⟩)).1, (sigR g x (txt ⟨((xs.length : Nat) : Int), brV (xs.map Et.e), 0, 0⟩)).2⟩).length ((txt ⟨((xs.length : Nat) : Int), brV (xs.map Et.e), (sigR g x (txt ⟨((xs.length : Nat) : Int), brV (xs.map Et.e), 0, 0⟩)).1, (sigR g x (txt ⟨((xs.length : Nat) : Int), brV (xs.map Et.e), 0, 0⟩)).2⟩).map u8) rT) (fun rT => [(118, Row.v (txt ⟨((xs.length : Nat) : Int), brV (xs.map Et.e), (sigR g x (txt ⟨((xs.length : Nat) : Int), brV (xs.map Et.e), 0, 0⟩)).1, (sigR g x (txt ⟨((xs.length : Nat) : Int), brV (xs.map Et.e), 0, 0⟩)).2⟩).length rT), (117, .agg (Hd.cl ⟨((xs.length : Nat) : Int), brV (xs.map Et.e), (sigR g x (txt ⟨((xs.length : Nat) : Int), brV (xs.map Et.e), 0, 0⟩)).1, (sigR g x (txt ⟨((xs.length : Nat) : Int), brV (xs.map Et.e), 0, 0⟩)).2⟩).toArray), (115, .pointer (some ⟨b12, 0 + 33 + 0, none⟩)), (114, .pointer (some ⟨b12, 0 + 33, none⟩)), (113, u64 (pw g.g x g.p)), (4, .pointer (some ⟨b4, 0, none⟩)), (7, .pointer (some ⟨b7, 0, none⟩)), (12, .pointer (some ⟨b12, 0, none⟩)), (9, .bool true), (10, u64 (pw g.g x g.p))]) (fun rT => (Row.b 5 rT ++ [(b12, Obj.cells (Hd.cl ⟨((xs.length : Nat) : Int), brV (xs.map Et.e), (sigR g x (txt ⟨((xs.length : Nat) : Int), brV (xs.map Et.e), 0, 0⟩)).1, (sigR g x (txt ⟨((xs.length : Nat) : Int), brV (xs.map Et.e), 0, 0⟩)).2⟩).toArray 38 (0, 0)), (b7, Obj.cells (Hd.cl ⟨o.n, o.root, (sigR g x (txt ⟨((xs.length : Nat) : Int), brV (xs.map Et.e), 0, 0⟩)).1, (sigR g x (txt ⟨((xs.length : Nat) : Int), brV (xs.map Et.e), 0, 0⟩)).2⟩).toArray 38 (0, 0)), (b4, Obj.cells g.cl.toArray 53 (0, 0))])) 8 #[false, true, true, true, false, true, true, false, false, false, false, false, false] ?_ (fun hmid7 => ?_)
              · -- state [1, 2, 3, 5, 6]
                rintro rT hrT
                refine JA.branch [0, 4] (by kernel_rfl) rfl ?_
                refine JAll.cons rfl ?_ ?_
                · -- 0
                  refine JO.val rfl rfl rfl (.none rfl) (Ev.lB Tryd.underlying53 Tryd.sizeOf53) ?_
                  exact JA.weak rfl (by kernel_rfl) (by exact Keeps.k) (by exact Sub.k) (hmid2 rT (by exact hrT))
                refine JAll.cons rfl ?_ JAll.nil
                refine JO.val rfl rfl rfl (.none rfl) (Ev.load1 rfl Tryd.underlying34 rfl (Rd.own memK (Hd.get33 ⟨((xs.length : Nat) : Int), brV (xs.map Et.e), (sigR g x (txt ⟨((xs.length : Nat) : Int), brV (xs.map Et.e), 0, 0⟩)).1, (sigR g x (txt ⟨((xs.length : Nat) : Int), brV (xs.map Et.e), 0, 0⟩)).2⟩))) ?_
                exact JA.weak rfl (by kernel_rfl) (by exact Keeps.k) (by exact Sub.k) (hmid3 rT (by exact hrT))
              refine JA.mid (X := Option Row) (fun rT => True) (fun rT => [(115, .pointer (some ⟨b12, 0 + 33 + 0, none⟩)), (114, .pointer (some ⟨b12, 0 + 33, none⟩)), (113, u64 (pw g.g x g.p)), (112, .agg g.cl.toArray), (4, .pointer (some ⟨b4, 0, none⟩)), (7, .pointer (some ⟨b7, 0, none⟩)), (12, .pointer (some ⟨b12, 0, none⟩)), (9, .bool true), (10, u64 (pw g.g x g.p))]) (fun rT => ([(b12, Obj.cells (Hd.cl ⟨((xs.length : Nat) : Int), brV (xs.map Et.e), (sigR g x (txt ⟨((xs.length : Nat) : Int), brV (xs.map Et.e), 0, 0⟩)).1, (sigR g x (txt ⟨((xs.length : Nat) : Int), brV (xs.map Et.e), 0, 0⟩)).2⟩).toArray 38 (0, 0)), (b7, Obj.cells (Hd.cl ⟨o.n, o.root, (sigR g x (txt ⟨((xs.length : Nat) : Int), brV (xs.map Et.e), 0, 0⟩)).1, (sigR g x (txt ⟨((xs.length : Nat) : Int), brV (xs.map Et.e), 0, 0⟩)).2⟩).toArray 38 (0, 0)), (b4, Obj.cells g.cl.toArray 53 (0, 0))])) 9 #[true, true, true, true, false, false, false, false, false, false, false, false, false] ?_ (fun hmid8 => ?_)
              · -- state [0, 1, 2, 3]
                rintro rT _
                refine JA.branch [4, 5] (by kernel_rfl) rfl ?_
                refine JAll.cons rfl ?_ ?_
                · -- 4
                  refine JO.val rfl rfl rfl (.none rfl) (Ev.load1 rfl Tryd.underlying34 rfl (Rd.own memK (Hd.get33 ⟨((xs.length : Nat) : Int), brV (xs.map Et.e), (sigR g x (txt ⟨((xs.length : Nat) : Int), brV (xs.map Et.e), 0, 0⟩)).1, (sigR g x (txt ⟨((xs.length : Nat) : Int), brV (xs.map Et.e), 0, 0⟩)).2⟩))) ?_
                  exact JA.weak rfl (by kernel_rfl) (by exact Keeps.k) (by exact Sub.k) (hmid4 none (by trivial))
                refine JAll.cons rfl ?_ JAll.nil
                refine JO.val rfl rfl rfl (.none rfl) (Ev.loadB rfl memK Tryd.underlying38 rfl Tryd.sizeOf38 (Hd.size _)) ?_
                exact JA.weak rfl (by kernel_rfl) (by exact Keeps.k) (by exact Sub.k) (hmid5 none (by trivial))
              refine JA.mid (X := Option Row) (fun rT => True) (fun rT => [(116, u64 ((sigR g x (txt ⟨((xs.length : Nat) : Int), brV (xs.map Et.e), 0, 0⟩)).1)), (115, .pointer (some ⟨b12, 0 + 33 + 0, none⟩)), (114, .pointer (some ⟨b12, 0 + 33, none⟩)), (113, u64 (pw g.g x g.p)), (4, .pointer (some ⟨b4, 0, none⟩)), (7, .pointer (some ⟨b7, 0, none⟩)), (12, .pointer (some ⟨b12, 0, none⟩)), (9, .bool true), (10, u64 (pw g.g x g.p))]) (fun rT => ([(b12, Obj.cells (Hd.cl ⟨((xs.length : Nat) : Int), brV (xs.map Et.e), (sigR g x (txt ⟨((xs.length : Nat) : Int), brV (xs.map Et.e), 0, 0⟩)).1, (sigR g x (txt ⟨((xs.length : Nat) : Int), brV (xs.map Et.e), 0, 0⟩)).2⟩).toArray 38 (0, 0)), (b7, Obj.cells (Hd.cl ⟨o.n, o.root, (sigR g x (txt ⟨((xs.length : Nat) : Int), brV (xs.map Et.e), 0, 0⟩)).1, (sigR g x (txt ⟨((xs.length : Nat) : Int), brV (xs.map Et.e), 0, 0⟩)).2⟩).toArray 38 (0, 0)), (b4, Obj.cells g.cl.toArray 53 (0, 0))])) 9 #[false, true, true, true, true, false, false, false, false, false, false, false, false] ?_ (fun hmid9 => ?_)
              · -- state [1, 2, 3, 4]
                rintro rT _
                refine JA.branch [0, 5] (by kernel_rfl) rfl ?_
                refine JAll.cons rfl ?_ ?_
                · -- 0
                  refine JO.val rfl rfl rfl (.none rfl) (Ev.lB Tryd.underlying53 Tryd.sizeOf53) ?_
                  exact JA.weak rfl (by kernel_rfl) (by exact Keeps.k) (by exact Sub.k) (hmid4 none (by trivial))
                refine JAll.cons rfl ?_ JAll.nil
                refine JO.val rfl rfl rfl (.none rfl) (Ev.loadB rfl memK Tryd.underlying38 rfl Tryd.sizeOf38 (Hd.size _)) ?_
                exact JA.weak rfl (by kernel_rfl) (by exact Keeps.k) (by exact Sub.k) (hmid6 none (by trivial))
              refine JA.mid (X := Option Row) (fun rT => True) (fun rT => [(117, .agg (Hd.cl ⟨((xs.length : Nat) : Int), brV (xs.map Et.e), (sigR g x (txt ⟨((xs.length : Nat) : Int), brV (xs.map Et.e), 0, 0⟩)).1, (sigR g x (txt ⟨((xs.length : Nat) : Int), brV (xs.map Et.e), 0, 0⟩)).2⟩).toArray), (115, .pointer (some ⟨b12, 0 + 33 + 0, none⟩)), (114, .pointer (some ⟨b12, 0 + 33, none⟩)), (113, u64 (pw g.g x g.p)), (4, .pointer (some ⟨b4, 0, none⟩)), (7, .pointer (some ⟨b7, 0, none⟩)), (12, .pointer (some ⟨b12, 0, none⟩)), (9, .bool true), (10, u64 (pw g.g x g.p))]) (fun rT => ([(b12, Obj.cells (Hd.cl ⟨((xs.length : Nat) : Int), brV (xs.map Et.e), (sigR g x (txt ⟨((xs.length : Nat) : Int), brV (xs.map Et.e), 0, 0⟩)).1, (sigR g x (txt ⟨((xs.length : Nat) : Int), brV (xs.map Et.e), 0, 0⟩)).2⟩).toArray 38 (0, 0)), (b7, Obj.cells (Hd.cl ⟨o.n, o.root, (sigR g x (txt ⟨((xs.length : Nat) : Int), brV (xs.map Et.e), 0, 0⟩)).1, (sigR g x (txt ⟨((xs.length : Nat) : Int), brV (xs.map Et.e), 0, 0⟩)).2⟩).toArray 38 (0, 0)), (b4, Obj.cells g.cl.toArray 53 (0, 0))])) 9 #[false, true, true, true, false, true, false, false, false, false, false, false, false] ?_ (fun hmid10 => ?_)
              · -- state [1, 2, 3, 5]
                rintro rT _
                refine JA.branch [0, 4, 6] (by kernel_rfl) rfl ?_
                refine JAll.cons rfl ?_ ?_
                · -- 0
                  refine JO.val rfl rfl rfl (.none rfl) (Ev.lB Tryd.underlying53 Tryd.sizeOf53) ?_
                  exact JA.weak rfl (by kernel_rfl) (by exact Keeps.k) (by exact Sub.k) (hmid5 none (by trivial))
                refine JAll.cons rfl ?_ ?_
                · -- 4
                  refine JO.val rfl rfl rfl (.none rfl) (Ev.load1 rfl Tryd.underlying34 rfl (Rd.own memK (Hd.get33 ⟨((xs.length : Nat) : Int), brV (xs.map Et.e), (sigR g x (txt ⟨((xs.length : Nat) : Int), brV (xs.map Et.e), 0, 0⟩)).1, (sigR g x (txt ⟨((xs.length : Nat) : Int), brV (xs.map Et.e), 0, 0⟩)).2⟩))) ?_
                  exact JA.weak rfl (by kernel_rfl) (by exact Keeps.k) (by exact Sub.k) (hmid6 none (by trivial))
                refine JAll.cons rfl ?_ JAll.nil
                refine JO.callN rfl (.none rfl) rfl Tryd.call14 (fun w1 hw1 => bText_any ⟨((xs.length : Nat) : Int), brV (xs.map Et.e), (sigR g x (txt ⟨((xs.length : Nat) : Int), brV (xs.map Et.e), 0, 0⟩)).1, (sigR g x (txt ⟨((xs.length : Nat) : Int), brV (xs.map Et.e), 0, 0⟩)).2⟩ w1) ?_
                rintro _ _ ⟨rT, rfl, rfl, hrT⟩
                exact JA.weak rfl (by kernel_rfl) (by exact Keeps.k) (by exact Sub.k) (hmid7 rT (by exact hrT))
              refine JA.tkc 1 rfl (.none rfl) (fun _ => (Ev.move rfl)) ?_
              refine JA.tkc 2 rfl (.none rfl) (fun _ => (Ev.fld 33 rfl (fun _ _ => by kernel_rfl))) ?_
              refine JA.tkc 3 rfl (.none rfl) (fun _ => (Ev.fld 0 rfl (fun _ _ => by kernel_rfl))) ?_
              refine JA.branch [0, 4, 5] (by kernel_rfl) rfl ?_
              refine JAll.cons rfl ?_ ?_
              · -- 0
                refine JO.val rfl rfl rfl (.none rfl) (Ev.lB Tryd.underlying53 Tryd.sizeOf53) ?_
                exact JA.weak rfl (by kernel_rfl) (by exact Keeps.k) (by exact Sub.k) (hmid8 none (by trivial))
              refine JAll.cons rfl ?_ ?_
              · -- 4
                refine JO.val rfl rfl rfl (.none rfl) (Ev.load1 rfl Tryd.underlying34 rfl (Rd.own memK (Hd.get33 ⟨((xs.length : Nat) : Int), brV (xs.map Et.e), (sigR g x (txt ⟨((xs.length : Nat) : Int), brV (xs.map Et.e), 0, 0⟩)).1, (sigR g x (txt ⟨((xs.length : Nat) : Int), brV (xs.map Et.e), 0, 0⟩)).2⟩))) ?_
                exact JA.weak rfl (by kernel_rfl) (by exact Keeps.k) (by exact Sub.k) (hmid9 none (by trivial))
              refine JAll.cons rfl ?_ JAll.nil
              refine JO.val rfl rfl rfl (.none rfl) (Ev.loadB rfl memK Tryd.underlying38 rfl Tryd.sizeOf38 (Hd.size _)) ?_
              exact JA.weak rfl (by kernel_rfl) (by exact Keeps.k) (by exact Sub.k) (hmid10 none (by trivial))
            rintro _
            refine JQ.thenN ?_
            refine JC.seq ?_
            refine JC.cut (X := Unit) (fun _ => [(4, .pointer (some ⟨b4, 0, none⟩)), (7, .pointer (some ⟨b7, 0, none⟩)), (12, .pointer (some ⟨b12, 0, none⟩)), (9, .bool true), (10, u64 (pw g.g x g.p)), (18, u64 (if scE g [] [(pw g.g x g.p), (sigR g x (txt ⟨((xs.length : Nat) : Int), brV (xs.map Et.e), 0, 0⟩)).1] = 0 then chalR g (pw g.g x g.p) ((sigR g x (txt ⟨((xs.length : Nat) : Int), brV (xs.map Et.e), 0, 0⟩)).1) (txt ⟨((xs.length : Nat) : Int), brV (xs.map Et.e), (sigR g x (txt ⟨((xs.length : Nat) : Int), brV (xs.map Et.e), 0, 0⟩)).1, (sigR g x (txt ⟨((xs.length : Nat) : Int), brV (xs.map Et.e), 0, 0⟩)).2⟩) else 0)), (19, .int .i64 (scE g [] [(pw g.g x g.p), (sigR g x (txt ⟨((xs.length : Nat) : Int), brV (xs.map Et.e), 0, 0⟩)).1])), (20, u64 (if scE g [] [(pw g.g x g.p), (sigR g x (txt ⟨((xs.length : Nat) : Int), brV (xs.map Et.e), 0, 0⟩)).1] = 0 then chalR g (pw g.g x g.p) ((sigR g x (txt ⟨((xs.length : Nat) : Int), brV (xs.map Et.e), 0, 0⟩)).1) (txt ⟨o.n, o.root, (sigR g x (txt ⟨((xs.length : Nat) : Int), brV (xs.map Et.e), 0, 0⟩)).1, (sigR g x (txt ⟨((xs.length : Nat) : Int), brV (xs.map Et.e), 0, 0⟩)).2⟩) else 0)), (21, .int .i64 (scE g [] [(pw g.g x g.p), (sigR g x (txt ⟨((xs.length : Nat) : Int), brV (xs.map Et.e), 0, 0⟩)).1]))]) (fun _ => [(b12, Obj.cells (Hd.cl ⟨((xs.length : Nat) : Int), brV (xs.map Et.e), (sigR g x (txt ⟨((xs.length : Nat) : Int), brV (xs.map Et.e), 0, 0⟩)).1, (sigR g x (txt ⟨((xs.length : Nat) : Int), brV (xs.map Et.e), 0, 0⟩)).2⟩).toArray 38 (0, 0)), (b7, Obj.cells (Hd.cl ⟨o.n, o.root, (sigR g x (txt ⟨((xs.length : Nat) : Int), brV (xs.map Et.e), 0, 0⟩)).1, (sigR g x (txt ⟨((xs.length : Nat) : Int), brV (xs.map Et.e), 0, 0⟩)).2⟩).toArray 38 (0, 0)), (b4, Obj.cells g.cl.toArray 53 (0, 0))]) ?_ ?_
            · refine JC.regionA (by kernel_rfl) ?_
              refine JA.mid (X := Option Row) (fun rT => Row.ok 1 (txt ⟨o.n, o.root, (sigR g x (txt ⟨((xs.length : Nat) : Int), brV (xs.map Et.e), 0, 0⟩)).1, (sigR g x (txt ⟨((xs.length : Nat) : Int), brV (xs.map Et.e), 0, 0⟩)).2⟩).length ((txt ⟨o.n, o.root, (sigR g x (txt ⟨((xs.length : Nat) : Int), brV (xs.map Et.e), 0, 0⟩)).1, (sigR g x (txt ⟨((xs.length : Nat) : Int), brV (xs.map Et.e), 0, 0⟩)).2⟩).map u8) rT) (fun rT => [(129, Row.v (txt ⟨o.n, o.root, (sigR g x (txt ⟨((xs.length : Nat) : Int), brV (xs.map Et.e), 0, 0⟩)).1, (sigR g x (txt ⟨((xs.length : Nat) : Int), brV (xs.map Et.e), 0, 0⟩)).2⟩).length rT), (128, .agg (Hd.cl ⟨o.n, o.root, (sigR g x (txt ⟨((xs.length : Nat) : Int), brV (xs.map Et.e), 0, 0⟩)).1, (sigR g x (txt ⟨((xs.length : Nat) : Int), brV (xs.map Et.e), 0, 0⟩)).2⟩).toArray), (127, u64 ((sigR g x (txt ⟨((xs.length : Nat) : Int), brV (xs.map Et.e), 0, 0⟩)).1)), (126, .pointer (some ⟨b12, 0 + 33 + 0, none⟩)), (125, .pointer (some ⟨b12, 0 + 33, none⟩)), (124, u64 (pw g.g x g.p)), (123, .agg g.cl.toArray), (4, .pointer (some ⟨b4, 0, none⟩)), (7, .pointer (some ⟨b7, 0, none⟩)), (12, .pointer (some ⟨b12, 0, none⟩)), (9, .bool true), (10, u64 (pw g.g x g.p)), (18, u64 (if scE g [] [(pw g.g x g.p), (sigR g x (txt ⟨((xs.length : Nat) : Int), brV (xs.map Et.e), 0, 0⟩)).1] = 0 then chalR g (pw g.g x g.p) ((sigR g x (txt ⟨((xs.length : Nat) : Int), brV (xs.map Et.e), 0, 0⟩)).1) (txt ⟨((xs.length : Nat) : Int), brV (xs.map Et.e), (sigR g x (txt ⟨((xs.length : Nat) : Int), brV (xs.map Et.e), 0, 0⟩)).1, (sigR g x (txt ⟨((xs.length : Nat) : Int), brV (xs.map Et.e), 0, 0⟩)).2⟩) else 0)), (19, .int .i64 (scE g [] [(pw g.g x g.p), (sigR g x (txt ⟨((xs.length : Nat) : Int), brV (xs.map Et.e), 0, 0⟩)).1]))]) (fun rT => (Row.b 5 rT ++ [(b12, Obj.cells (Hd.cl ⟨((xs.length : Nat) : Int), brV (xs.map Et.e), (sigR g x (txt ⟨((xs.length : Nat) : Int), brV (xs.map Et.e), 0, 0⟩)).1, (sigR g x (txt ⟨((xs.length : Nat) : Int), brV (xs.map Et.e), 0, 0⟩)).2⟩).toArray 38 (0, 0)), (b7, Obj.cells (Hd.cl ⟨o.n, o.root, (sigR g x (txt ⟨((xs.length : Nat) : Int), brV (xs.map Et.e), 0, 0⟩)).1, (sigR g x (txt ⟨((xs.length : Nat) : Int), brV (xs.map Et.e), 0, 0⟩)).2⟩).toArray 38 (0, 0)), (b4, Obj.cells g.cl.toArray 53 (0, 0))])) 6 #[true, true, true, true, true, true, true, false, false, false, false, false, false] ?_ (fun hmid0 => ?_)
              · -- state [0, 1, 2, 3, 4, 5, 6]
                rintro rT hrT
                refine JA.one 7 ?_
                obtain ⟨oT, cT, eT, _, hCT⟩ := Row.vw (e := 5) hrT
                refine JO.re (d := 129) rfl eT ?_
                refine JO.callV rfl (.none rfl) rfl Tryd.call55 (fun w1 hw1 => sChallenge_any g (pw g.g x g.p) ((sigR g x (txt ⟨((xs.length : Nat) : Int), brV (xs.map Et.e), 0, 0⟩)).1) oT cT (txt ⟨o.n, o.root, (sigR g x (txt ⟨((xs.length : Nat) : Int), brV (xs.map Et.e), 0, 0⟩)).1, (sigR g x (txt ⟨((xs.length : Nat) : Int), brV (xs.map Et.e), 0, 0⟩)).2⟩) w1 ((hCT w1 hw1 (fun p hp => by simp [hp])).bs rfl) (by rw [txt_length]; decide) (hk.old hw1) (hf.old hw1)) ?_
                refine JA.tkc 8 rfl (.none rfl) (fun _ => (Ev.move rfl)) ?_
                refine JA.tkc 9 rfl (.none rfl) (fun _ => (Ev.ex0 rfl)) ?_
                refine JA.tkc 10 rfl (.none rfl) (fun _ => (Ev.ex1 rfl)) ?_
                refine JA.tkc 11 rfl (.none rfl) (fun _ => (Ev.assign rfl)) ?_
                refine JA.tkc 12 rfl (.none rfl) (fun _ => (Ev.assign rfl)) ?_
                refine JA.done (by kernel_rfl) ?_
                refine JQ.cutN () ?_ ?_
                · exact Keeps.k
                · exact Sub.k
              refine JA.mid (X := Option Row) (fun rT => True) (fun rT => [(128, .agg (Hd.cl ⟨o.n, o.root, (sigR g x (txt ⟨((xs.length : Nat) : Int), brV (xs.map Et.e), 0, 0⟩)).1, (sigR g x (txt ⟨((xs.length : Nat) : Int), brV (xs.map Et.e), 0, 0⟩)).2⟩).toArray), (127, u64 ((sigR g x (txt ⟨((xs.length : Nat) : Int), brV (xs.map Et.e), 0, 0⟩)).1)), (126, .pointer (some ⟨b12, 0 + 33 + 0, none⟩)), (125, .pointer (some ⟨b12, 0 + 33, none⟩)), (124, u64 (pw g.g x g.p)), (123, .agg g.cl.toArray), (4, .pointer (some ⟨b4, 0, none⟩)), (7, .pointer (some ⟨b7, 0, none⟩)), (12, .pointer (some ⟨b12, 0, none⟩)), (9, .bool true), (10, u64 (pw g.g x g.p)), (18, u64 (if scE g [] [(pw g.g x g.p), (sigR g x (txt ⟨((xs.length : Nat) : Int), brV (xs.map Et.e), 0, 0⟩)).1] = 0 then chalR g (pw g.g x g.p) ((sigR g x (txt ⟨((xs.length : Nat) : Int), brV (xs.map Et.e), 0, 0⟩)).1) (txt ⟨((xs.length : Nat) : Int), brV (xs.map Et.e), (sigR g x (txt ⟨((xs.length : Nat) : Int), brV (xs.map Et.e), 0, 0⟩)).1, (sigR g x (txt ⟨((xs.length : Nat) : Int), brV (xs.map Et.e), 0, 0⟩)).2⟩) else 0)), (19, .int .i64 (scE g [] [(pw g.g x g.p), (sigR g x (txt ⟨((xs.length : Nat) : Int), brV (xs.map Et.e), 0, 0⟩)).1]))]) (fun rT => ([(b12, Obj.cells (Hd.cl ⟨((xs.length : Nat) : Int), brV (xs.map Et.e), (sigR g x (txt ⟨((xs.length : Nat) : Int), brV (xs.map Et.e), 0, 0⟩)).1, (sigR g x (txt ⟨((xs.length : Nat) : Int), brV (xs.map Et.e), 0, 0⟩)).2⟩).toArray 38 (0, 0)), (b7, Obj.cells (Hd.cl ⟨o.n, o.root, (sigR g x (txt ⟨((xs.length : Nat) : Int), brV (xs.map Et.e), 0, 0⟩)).1, (sigR g x (txt ⟨((xs.length : Nat) : Int), brV (xs.map Et.e), 0, 0⟩)).2⟩).toArray 38 (0, 0)), (b4, Obj.cells g.cl.toArray 53 (0, 0))])) 7 #[true, true, true, true, true, true, false, false, false, false, false, false, false] ?_ (fun hmid1 => ?_)
              · -- state [0, 1, 2, 3, 4, 5]
                rintro rT _
                refine JA.one 6 ?_
                refine JO.callN rfl (.none rfl) rfl Tryd.call14 (fun w1 hw1 => bText_any ⟨o.n, o.root, (sigR g x (txt ⟨((xs.length : Nat) : Int), brV (xs.map Et.e), 0, 0⟩)).1, (sigR g x (txt ⟨((xs.length : Nat) : Int), brV (xs.map Et.e), 0, 0⟩)).2⟩ w1) ?_
                rintro _ _ ⟨rT, rfl, rfl, hrT⟩
                exact JA.weak rfl (by kernel_rfl) (by exact Keeps.k) (by exact Sub.k) (hmid0 rT (by exact hrT))
              refine JA.mid (X := Option Row) (fun rT => Row.ok 1 (txt ⟨o.n, o.root, (sigR g x (txt ⟨((xs.length : Nat) : Int), brV (xs.map Et.e), 0, 0⟩)).1, (sigR g x (txt ⟨((xs.length : Nat) : Int), brV (xs.map Et.e), 0, 0⟩)).2⟩).length ((txt ⟨o.n, o.root, (sigR g x (txt ⟨((xs.length : Nat) : Int), brV (xs.map Et.e), 0, 0⟩)).1, (sigR g x (txt ⟨((xs.length : Nat) : Int), brV (xs.map Et.e), 0, 0⟩)).2⟩).map u8) rT) (fun rT => [(129, Row.v (txt ⟨o.n, o.root, (sigR g x (txt ⟨((xs.length : Nat) : Int), brV (xs.map Et.e), 0, 0⟩)).1, (sigR g x (txt ⟨((xs.length : Nat) : Int), brV (xs.map Et.e), 0, 0⟩)).2⟩).length rT), (128, .agg (Hd.cl ⟨o.n, o.root, (sigR g x (txt ⟨((xs.length : Nat) : Int), brV (xs.map Et.e), 0, 0⟩)).1, (sigR g x (txt ⟨((xs.length : Nat) : Int), brV (xs.map Et.e), 0, 0⟩)).2⟩).toArray), (126, .pointer (some ⟨b12, 0 + 33 + 0, none⟩)), (125, .pointer (some ⟨b12, 0 + 33, none⟩)), (124, u64 (pw g.g x g.p)), (123, .agg g.cl.toArray), (4, .pointer (some ⟨b4, 0, none⟩)), (7, .pointer (some ⟨b7, 0, none⟩)), (12, .pointer (some ⟨b12, 0, none⟩)), (9, .bool true), (10, u64 (pw g.g x g.p)), (18, u64 (if scE g [] [(pw g.g x g.p), (sigR g x (txt ⟨((xs.length : Nat) : Int), brV (xs.map Et.e), 0, 0⟩)).1] = 0 then chalR g (pw g.g x g.p) ((sigR g x (txt ⟨((xs.length : Nat) : Int), brV (xs.map Et.e), 0, 0⟩)).1) (txt ⟨((xs.length : Nat) : Int), brV (xs.map Et.e), (sigR g x (txt ⟨((xs.length : Nat) : Int), brV (xs.map Et.e), 0, 0⟩)).1, (sigR g x (txt ⟨((xs.length : Nat) : Int), brV (xs.map Et.e), 0, 0⟩)).2⟩) else 0)), (19, .int .i64 (scE g [] [(pw g.g x g.p), (sigR g x (txt ⟨((xs.length : Nat) : Int), brV (xs.map Et.e), 0, 0⟩)).1]))]) (fun rT => (Row.b 5 rT ++ [(b12, Obj.cells (Hd.cl ⟨((xs.length : Nat) : Int), brV (xs.map Et.e), (sigR g x (txt ⟨((xs.length : Nat) : Int), brV (xs.map Et.e), 0, 0⟩)).1, (sigR g x (txt ⟨((xs.length : Nat) : Int), brV (xs.map Et.e), 0, 0⟩)).2⟩).toArray 38 (0, 0)), (b7, Obj.cells (Hd.cl ⟨o.n, o.root, (sigR g x (txt ⟨((xs.length : Nat) : Int), brV (xs.map Et.e), 0, 0⟩)).1, (sigR g x (txt ⟨((xs.length : Nat) : Int), brV (xs.map Et.e), 0, 0⟩)).2⟩).toArray 38 (0, 0)), (b4, Obj.cells g.cl.toArray 53 (0, 0))])) 7 #[true, true, true, true, false, true, true, false, false, false, false, false, false] ?_ (fun hmid2 => ?_)
              · -- state [0, 1, 2, 3, 5, 6]
                rintro rT hrT
                refine JA.one 4 ?_
                refine JO.val rfl rfl rfl (.none rfl) (Ev.load1 rfl Tryd.underlying34 rfl (Rd.own memK (Hd.get33 ⟨((xs.length : Nat) : Int), brV (xs.map Et.e), (sigR g x (txt ⟨((xs.length : Nat) : Int), brV (xs.map Et.e), 0, 0⟩)).1, (sigR g x (txt ⟨((xs.length : Nat) : Int), brV (xs.map Et.e), 0, 0⟩)).2⟩))) ?_
                exact JA.weak rfl (by kernel_rfl) (by exact Keeps.k) (by exact Sub.k) (hmid0 rT (by exact hrT))
              refine JA.mid (X := Option Row) (fun rT => Row.ok 1 (txt ⟨o.n, o.root, (sigR g x (txt ⟨((xs.length : Nat) : Int), brV (xs.map Et.e), 0, 0⟩)).1, (sigR g x (txt ⟨((xs.length : Nat) : Int), brV (xs.map Et.e), 0, 0⟩)).2⟩).length ((txt ⟨o.n, o.root, (sigR g x (txt ⟨((xs.length : Nat) : Int), brV (xs.map Et.e), 0, 0⟩)).1, (sigR g x (txt ⟨((xs.length : Nat) : Int), brV (xs.map Et.e), 0, 0⟩)).2⟩).map u8) rT) (fun rT => [(129, Row.v (txt ⟨o.n, o.root, (sigR g x (txt ⟨((xs.length : Nat) : Int), brV (xs.map Et.e), 0, 0⟩)).1, (sigR g x (txt ⟨((xs.length : Nat) : Int), brV (xs.map Et.e), 0, 0⟩)).2⟩).length rT), (128, .agg (Hd.cl ⟨o.n, o.root, (sigR g x (txt ⟨((xs.length : Nat) : Int), brV (xs.map Et.e), 0, 0⟩)).1, (sigR g x (txt ⟨((xs.length : Nat) : Int), brV (xs.map Et.e), 0, 0⟩)).2⟩).toArray), (127, u64 ((sigR g x (txt ⟨((xs.length : Nat) : Int), brV (xs.map Et.e), 0, 0⟩)).1)), (126, .pointer (some ⟨b12, 0 + 33 + 0, none⟩)), (125, .pointer (some ⟨b12, 0 + 33, none⟩)), (124, u64 (pw g.g x g.p)), (4, .pointer (some ⟨b4, 0, none⟩)), (7, .pointer (some ⟨b7, 0, none⟩)), (12, .pointer (some ⟨b12, 0, none⟩)), (9, .bool true), (10, u64 (pw g.g x g.p)), (18, u64 (if scE g [] [(pw g.g x g.p), (sigR g x (txt ⟨((xs.length : Nat) : Int), brV (xs.map Et.e), 0, 0⟩)).1] = 0 then chalR g (pw g.g x g.p) ((sigR g x (txt ⟨((xs.length : Nat) : Int), brV (xs.map Et.e), 0, 0⟩)).1) (txt ⟨((xs.length : Nat) : Int), brV (xs.map Et.e), (sigR g x (txt ⟨((xs.length : Nat) : Int), brV (xs.map Et.e), 0, 0⟩)).1, (sigR g x (txt ⟨((xs.length : Nat) : Int), brV (xs.map Et.e), 0, 0⟩)).2⟩) else 0)), (19, .int .i64 (scE g [] [(pw g.g x g.p), (sigR g x (txt ⟨((xs.length : Nat) : Int), brV (xs.map Et.e), 0, 0⟩)).1]))]) (fun rT => (Row.b 5 rT ++ [(b12, Obj.cells (Hd.cl ⟨((xs.length : Nat) : Int), brV (xs.map Et.e), (sigR g x (txt ⟨((xs.length : Nat) : Int), brV (xs.map Et.e), 0, 0⟩)).1, (sigR g x (txt ⟨((xs.length : Nat) : Int), brV (xs.map Et.e), 0, 0⟩)).2⟩).toArray 38 (0, 0)), (b7, Obj.cells (Hd.cl ⟨o.n, o.root, (sigR g x (txt ⟨((xs.length : Nat) : Int), brV (xs.map Et.e), 0, 0⟩)).1, (sigR g x (txt ⟨((xs.length : Nat) : Int), brV (xs.map Et.e), 0, 0⟩)).2⟩).toArray 38 (0, 0)), (b4, Obj.cells g.cl.toArray 53 (0, 0))])) 7 #[false, true, true, true, true, true, true, false, false, false, false, false, false] ?_ (fun hmid3 => ?_)
              · -- state [1, 2, 3, 4, 5, 6]
                rintro rT hrT
                refine JA.one 0 ?_
                refine JO.val rfl rfl rfl (.none rfl) (Ev.lB Tryd.underlying53 Tryd.sizeOf53) ?_
                exact JA.weak rfl (by kernel_rfl) (by exact Keeps.k) (by exact Sub.k) (hmid0 rT (by exact hrT))
              refine JA.mid (X := Option Row) (fun rT => True) (fun rT => [(127, u64 ((sigR g x (txt ⟨((xs.length : Nat) : Int), brV (xs.map Et.e), 0, 0⟩)).1)), (126, .pointer (some ⟨b12, 0 + 33 + 0, none⟩)), (125, .pointer (some ⟨b12, 0 + 33, none⟩)), (124, u64 (pw g.g x g.p)), (123, .agg g.cl.toArray), (4, .pointer (some ⟨b4, 0, none⟩)), (7, .pointer (some ⟨b7, 0, none⟩)), (12, .pointer (some ⟨b12, 0, none⟩)), (9, .bool true), (10, u64 (pw g.g x g.p)), (18, u64 (if scE g [] [(pw g.g x g.p), (sigR g x (txt ⟨((xs.length : Nat) : Int), brV (xs.map Et.e), 0, 0⟩)).1] = 0 then chalR g (pw g.g x g.p) ((sigR g x (txt ⟨((xs.length : Nat) : Int), brV (xs.map Et.e), 0, 0⟩)).1) (txt ⟨((xs.length : Nat) : Int), brV (xs.map Et.e), (sigR g x (txt ⟨((xs.length : Nat) : Int), brV (xs.map Et.e), 0, 0⟩)).1, (sigR g x (txt ⟨((xs.length : Nat) : Int), brV (xs.map Et.e), 0, 0⟩)).2⟩) else 0)), (19, .int .i64 (scE g [] [(pw g.g x g.p), (sigR g x (txt ⟨((xs.length : Nat) : Int), brV (xs.map Et.e), 0, 0⟩)).1]))]) (fun rT => ([(b12, Obj.cells (Hd.cl ⟨((xs.length : Nat) : Int), brV (xs.map Et.e), (sigR g x (txt ⟨((xs.length : Nat) : Int), brV (xs.map Et.e), 0, 0⟩)).1, (sigR g x (txt ⟨((xs.length : Nat) : Int), brV (xs.map Et.e), 0, 0⟩)).2⟩).toArray 38 (0, 0)), (b7, Obj.cells (Hd.cl ⟨o.n, o.root, (sigR g x (txt ⟨((xs.length : Nat) : Int), brV (xs.map Et.e), 0, 0⟩)).1, (sigR g x (txt ⟨((xs.length : Nat) : Int), brV (xs.map Et.e), 0, 0⟩)).2⟩).toArray 38 (0, 0)), (b4, Obj.cells g.cl.toArray 53 (0, 0))])) 8 #[true, true, true, true, true, false, false, false, false, false, false, false, false] ?_ (fun hmid4 => ?_)
              · -- state [0, 1, 2, 3, 4]
                rintro rT _
                refine JA.one 5 ?_
                refine JO.val rfl rfl rfl (.none rfl) (Ev.loadB rfl memK Tryd.underlying38 rfl Tryd.sizeOf38 (Hd.size _)) ?_
                exact JA.weak rfl (by kernel_rfl) (by exact Keeps.k) (by exact Sub.k) (hmid1 none (by trivial))
              refine JA.mid (X := Option Row) (fun rT => True) (fun rT => [(128, .agg (Hd.cl ⟨o.n, o.root, (sigR g x (txt ⟨((xs.length : Nat) : Int), brV (xs.map Et.e), 0, 0⟩)).1, (sigR g x (txt ⟨((xs.length : Nat) : Int), brV (xs.map Et.e), 0, 0⟩)).2⟩).toArray), (126, .pointer (some ⟨b12, 0 + 33 + 0, none⟩)), (125, .pointer (some ⟨b12, 0 + 33, none⟩)), (124, u64 (pw g.g x g.p)), (123, .agg g.cl.toArray), (4, .pointer (some ⟨b4, 0, none⟩)), (7, .pointer (some ⟨b7, 0, none⟩)), (12, .pointer (some ⟨b12, 0, none⟩)), (9, .bool true), (10, u64 (pw g.g x g.p)), (18, u64 (if scE g [] [(pw g.g x g.p), (sigR g x (txt ⟨((xs.length : Nat) : Int), brV (xs.map Et.e), 0, 0⟩)).1] = 0 then chalR g (pw g.g x g.p) ((sigR g x (txt ⟨((xs.length : Nat) : Int), brV (xs.map Et.e), 0, 0⟩)).1) (txt ⟨((xs.length : Nat) : Int), brV (xs.map Et.e), (sigR g x (txt ⟨((xs.length : Nat) : Int), brV (xs.map Et.e), 0, 0⟩)).1, (sigR g x (txt ⟨((xs.length : Nat) : Int), brV (xs.map Et.e), 0, 0⟩)).2⟩) else 0)), (19, .int .i64 (scE g [] [(pw g.g x g.p), (sigR g x (txt ⟨((xs.length : Nat) : Int), brV (xs.map Et.e), 0, 0⟩)).1]))]) (fun rT => ([(b12, Obj.cells (Hd.cl ⟨((xs.length : Nat) : Int), brV (xs.map Et.e), (sigR g x (txt ⟨((xs.length : Nat) : Int), brV (xs.map Et.e), 0, 0⟩)).1, (sigR g x (txt ⟨((xs.length : Nat) : Int), brV (xs.map Et.e), 0, 0⟩)).2⟩).toArray 38 (0, 0)), (b7, Obj.cells (Hd.cl ⟨o.n, o.root, (sigR g x (txt ⟨((xs.length : Nat) : Int), brV (xs.map Et.e), 0, 0⟩)).1, (sigR g x (txt ⟨((xs.length : Nat) : Int), brV (xs.map Et.e), 0, 0⟩)).2⟩).toArray 38 (0, 0)), (b4, Obj.cells g.cl.toArray 53 (0, 0))])) 8 #[true, true, true, true, false, true, false, false, false, false, false, false, false] ?_ (fun hmid5 => ?_)
              · -- state [0, 1, 2, 3, 5]
                rintro rT _
                refine JA.branch [4, 6] (by kernel_rfl) rfl ?_
                refine JAll.cons rfl ?_ ?_
                · -- 4
                  refine JO.val rfl rfl rfl (.none rfl) (Ev.load1 rfl Tryd.underlying34 rfl (Rd.own memK (Hd.get33 ⟨((xs.length : Nat) : Int), brV (xs.map Et.e), (sigR g x (txt ⟨((xs.length : Nat) : Int), brV (xs.map Et.e), 0, 0⟩)).1, (sigR g x (txt ⟨((xs.length : Nat) : Int), brV (xs.map Et.e), 0, 0⟩)).2⟩))) ?_
                  exact JA.weak rfl (by kernel_rfl) (by exact Keeps.k) (by exact Sub.k) (hmid1 none (by trivial))
                refine JAll.cons rfl ?_ JAll.nil
                refine JO.callN rfl (.none rfl) rfl Tryd.call14 (fun w1 hw1 => bText_any ⟨o.n, o.root, (sigR g x (txt ⟨((xs.length : Nat) : Int), brV (xs.map Et.e), 0, 0⟩)).1, (sigR g x (txt ⟨((xs.length : Nat) : Int), brV (xs.map Et.e), 0, 0⟩)).2⟩ w1) ?_
                rintro _ _ ⟨rT, rfl, rfl, hrT⟩
                exact JA.weak rfl (by kernel_rfl) (by exact Keeps.k) (by exact Sub.k) (hmid2 rT (by exact hrT))
              refine JA.mid (X := Option Row) (fun rT => True) (fun rT => [(128, .agg (Hd.cl ⟨o.n, o.root, (sigR g x (txt ⟨((xs.length : Nat) : Int), brV (xs.map Et.e), 0, 0⟩)).1, (sigR g x (txt ⟨((xs.length : Nat) : Int), brV (xs.map Et.e), 0, 0⟩)).2⟩).toArray), (127, u64 ((sigR g x (txt ⟨((xs.length : Nat) : Int), brV (xs.map Et.e), 0, 0⟩)).1)), (126, .pointer (some ⟨b12, 0 + 33 + 0, none⟩)), (125, .pointer (some ⟨b12, 0 + 33, none⟩)), (124, u64 (pw g.g x g.p)), (4, .pointer (some ⟨b4, 0, none⟩)), (7, .pointer (some ⟨b7, 0, none⟩)), (12, .pointer (some ⟨b12, 0, none⟩)), (9, .bool true), (10, u64 (pw g.g x g.p)), (18, u64 (if scE g [] [(pw g.g x g.p), (sigR g x (txt ⟨((xs.length : Nat) : Int), brV (xs.map Et.e), 0, 0⟩)).1] = 0 then chalR g (pw g.g x g.p) ((sigR g x (txt ⟨((xs.length : Nat) : Int), brV (xs.map Et.e), 0, 0⟩)).1) (txt ⟨((xs.length : Nat) : Int), brV (xs.map Et.e), (sigR g x (txt ⟨((xs.length : Nat) : Int), brV (xs.map Et.e), 0, 0⟩)).1, (sigR g x (txt ⟨((xs.length : Nat) : Int), brV (xs.map Et.e), 0, 0⟩)).2⟩) else 0)), (19, .int .i64 (scE g [] [(pw g.g x g.p), (sigR g x (txt ⟨((xs.length : Nat) : Int), brV (xs.map Et.e), 0, 0⟩)).1]))]) (fun rT => ([(b12, Obj.cells (Hd.cl ⟨((xs.length : Nat) : Int), brV (xs.map Et.e), (sigR g x (txt ⟨((xs.length : Nat) : Int), brV (xs.map Et.e), 0, 0⟩)).1, (sigR g x (txt ⟨((xs.length : Nat) : Int), brV (xs.map Et.e), 0, 0⟩)).2⟩).toArray 38 (0, 0)), (b7, Obj.cells (Hd.cl ⟨o.n, o.root, (sigR g x (txt ⟨((xs.length : Nat) : Int), brV (xs.map Et.e), 0, 0⟩)).1, (sigR g x (txt ⟨((xs.length : Nat) : Int), brV (xs.map Et.e), 0, 0⟩)).2⟩).toArray 38 (0, 0)), (b4, Obj.cells g.cl.toArray 53 (0, 0))])) 8 #[false, true, true, true, true, true, false, false, false, false, false, false, false] ?_ (fun hmid6 => ?_)
              · -- state [1, 2, 3, 4, 5]
                rintro rT _
                refine JA.branch [0, 6] (by kernel_rfl) rfl ?_
                refine JAll.cons rfl ?_ ?_
                · -- 0
                  refine JO.val rfl rfl rfl (.none rfl) (Ev.lB Tryd.underlying53 Tryd.sizeOf53) ?_
                  exact JA.weak rfl (by kernel_rfl) (by exact Keeps.k) (by exact Sub.k) (hmid1 none (by trivial))
                refine JAll.cons rfl ?_ JAll.nil
                refine JO.callN rfl (.none rfl) rfl Tryd.call14 (fun w1 hw1 => bText_any ⟨o.n, o.root, (sigR g x (txt ⟨((xs.length : Nat) : Int), brV (xs.map Et.e), 0, 0⟩)).1, (sigR g x (txt ⟨((xs.length : Nat) : Int), brV (xs.map Et.e), 0, 0⟩)).2⟩ w1) ?_
                rintro _ _ ⟨rT, rfl, rfl, hrT⟩
                exact JA.weak rfl (by kernel_rfl) (by exact Keeps.k) (by exact Sub.k) (hmid3 rT (by exact hrT))
              refine JA.mid (X := Option Row) (fun rT => Row.ok 1 (txt ⟨o.n, o.root, (sigR g x (txt ⟨((xs.length : Nat) : Int), brV (xs.map Et.e), 0, 0⟩)).1, (sigR g x (txt ⟨((xs.length : Nat) : Int), brV (xs.map Et.e), 0, 0⟩)).2⟩).length ((txt ⟨o.n, o.root, (sigR g x (txt ⟨((xs.length : Nat) : Int), brV (xs.map Et.e), 0, 0⟩)).1, (sigR g x (txt ⟨((xs.length : Nat) : Int), brV (xs.map Et.e), 0, 0⟩)).2⟩).map u8) rT) (fun rT => [(129, Row.v (txt ⟨o.n, o.root, (sigR g x (txt ⟨((xs.length : Nat) : Int), brV (xs.map Et.e), 0, 0⟩)).1, (sigR g x (txt ⟨((xs.length : Nat) : Int), brV (xs.map Et.e), 0, 0⟩)).2⟩).length rT), (128, .agg (Hd.cl ⟨o.n, o.root, (sigR g x (txt ⟨((xs.length : Nat) : Int), brV (xs.map Et.e), 0, 0⟩)).1, (sigR g x (txt ⟨((xs.length : Nat) : Int), brV (xs.map Et.e), 0, 0⟩)).2⟩).toArray), (126, .pointer (some ⟨b12, 0 + 33 + 0, none⟩)), (125, .pointer (some ⟨b12, 0 + 33, none⟩)), (124, u64 (pw g.g x g.p)), (4, .pointer (some ⟨b4, 0, none⟩)), (7, .pointer (some ⟨b7, 0, none⟩)), (12, .pointer (some ⟨b12, 0, none⟩)), (9, .bool true), (10, u64 (pw g.g x g.p)), (18, u64 (if scE g [] [(pw g.g x g.p), (sigR g x (txt ⟨((xs.length : Nat) : Int), brV (xs.map Et.e), 0, 0⟩)).1] = 0 then chalR g (pw g.g x g.p) ((sigR g x (txt ⟨((xs.length : Nat) : Int), brV (xs.map Et.e), 0, 0⟩)).1) (txt ⟨((xs.length : Nat) : Int), brV (xs.map Et.e), (sigR g x (txt ⟨((xs.length : Nat) : Int), brV (xs.map Et.e), 0, 0⟩)).1, (sigR g x (txt ⟨((xs.length : Nat) : Int), brV (xs.map Et.e), 0, 0⟩)).2⟩) else 0)), (19, .int .i64 (scE g [] [(pw g.g x g.p), (sigR g x (txt ⟨((xs.length : Nat) : Int), brV (xs.map Et.e), 0, 0⟩)).1]))]) (fun rT => (Row.b 5 rT ++ [(b12, Obj.cells (Hd.cl ⟨((xs.length : Nat) : Int), brV (xs.map Et.e), (sigR g x (txt ⟨((xs.length : Nat) : Int), brV (xs.map Et.e), 0, 0⟩)).1, (sigR g x (txt ⟨((xs.length : Nat) : Int), brV (xs.map Et.e), 0, 0⟩)).2⟩).toArray 38 (0, 0)), (b7, Obj.cells (Hd.cl ⟨o.n, o.root, (sigR g x (txt ⟨((xs.length : Nat) : Int), brV (xs.map Et.e), 0, 0⟩)).1, (sigR g x (txt ⟨((xs.length : Nat) : Int), brV (xs.map Et.e), 0, 0⟩)).2⟩).toArray 38 (0, 0)), (b4, Obj.cells g.cl.toArray 53 (0, 0))])) 8 #[false, true, true, true, false, true, true, false, false, false, false, false, false] ?_ (fun hmid7 => ?_)
              · -- state [1, 2, 3, 5, 6]
                rintro rT hrT
                refine JA.branch [0, 4] (by kernel_rfl) rfl ?_
                refine JAll.cons rfl ?_ ?_
                · -- 0
                  refine JO.val rfl rfl rfl (.none rfl) (Ev.lB Tryd.underlying53 Tryd.sizeOf53) ?_
                  exact JA.weak rfl (by kernel_rfl) (by exact Keeps.k) (by exact Sub.k) (hmid2 rT (by exact hrT))
                refine JAll.cons rfl ?_ JAll.nil
                refine JO.val rfl rfl rfl (.none rfl) (Ev.load1 rfl Tryd.underlying34 rfl (Rd.own memK (Hd.get33 ⟨((xs.length : Nat) : Int), brV (xs.map Et.e), (sigR g x (txt ⟨((xs.length : Nat) : Int), brV (xs.map Et.e), 0, 0⟩)).1, (sigR g x (txt ⟨((xs.length : Nat) : Int), brV (xs.map Et.e), 0, 0⟩)).2⟩))) ?_
                exact JA.weak rfl (by kernel_rfl) (by exact Keeps.k) (by exact Sub.k) (hmid3 rT (by exact hrT))
              refine JA.mid (X := Option Row) (fun rT => True) (fun rT => [(126, .pointer (some ⟨b12, 0 + 33 + 0, none⟩)), (125, .pointer (some ⟨b12, 0 + 33, none⟩)), (124, u64 (pw g.g x g.p)), (123, .agg g.cl.toArray), (4, .pointer (some ⟨b4, 0, none⟩)), (7, .pointer (some ⟨b7, 0, none⟩)), (12, .pointer (some ⟨b12, 0, none⟩)), (9, .bool true), (10, u64 (pw g.g x g.p)), (18, u64 (if scE g [] [(pw g.g x g.p), (sigR g x (txt ⟨((xs.length : Nat) : Int), brV (xs.map Et.e), 0, 0⟩)).1] = 0 then chalR g (pw g.g x g.p) ((sigR g x (txt ⟨((xs.length : Nat) : Int), brV (xs.map Et.e), 0, 0⟩)).1) (txt ⟨((xs.length : Nat) : Int), brV (xs.map Et.e), (sigR g x (txt ⟨((xs.length : Nat) : Int), brV (xs.map Et.e), 0, 0⟩)).1, (sigR g x (txt ⟨((xs.length : Nat) : Int), brV (xs.map Et.e), 0, 0⟩)).2⟩) else 0)), (19, .int .i64 (scE g [] [(pw g.g x g.p), (sigR g x (txt ⟨((xs.length : Nat) : Int), brV (xs.map Et.e), 0, 0⟩)).1]))]) (fun rT => ([(b12, Obj.cells (Hd.cl ⟨((xs.length : Nat) : Int), brV (xs.map Et.e), (sigR g x (txt ⟨((xs.length : Nat) : Int), brV (xs.map Et.e), 0, 0⟩)).1, (sigR g x (txt ⟨((xs.length : Nat) : Int), brV (xs.map Et.e), 0, 0⟩)).2⟩).toArray 38 (0, 0)), (b7, Obj.cells (Hd.cl ⟨o.n, o.root, (sigR g x (txt ⟨((xs.length : Nat) : Int), brV (xs.map Et.e), 0, 0⟩)).1, (sigR g x (txt ⟨((xs.length : Nat) : Int), brV (xs.map Et.e), 0, 0⟩)).2⟩).toArray 38 (0, 0)), (b4, Obj.cells g.cl.toArray 53 (0, 0))])) 9 #[true, true, true, true, false, false, false, false, false, false, false, false, false] ?_ (fun hmid8 => ?_)
              · -- state [0, 1, 2, 3]
                rintro rT _
                refine JA.branch [4, 5] (by kernel_rfl) rfl ?_
                refine JAll.cons rfl ?_ ?_
                · -- 4
                  refine JO.val rfl rfl rfl (.none rfl) (Ev.load1 rfl Tryd.underlying34 rfl (Rd.own memK (Hd.get33 ⟨((xs.length : Nat) : Int), brV (xs.map Et.e), (sigR g x (txt ⟨((xs.length : Nat) : Int), brV (xs.map Et.e), 0, 0⟩)).1, (sigR g x (txt ⟨((xs.length : Nat) : Int), brV (xs.map Et.e), 0, 0⟩)).2⟩))) ?_
                  exact JA.weak rfl (by kernel_rfl) (by exact Keeps.k) (by exact Sub.k) (hmid4 none (by trivial))
                refine JAll.cons rfl ?_ JAll.nil
                refine JO.val rfl rfl rfl (.none rfl) (Ev.loadB rfl memK Tryd.underlying38 rfl Tryd.sizeOf38 (Hd.size _)) ?_
                exact JA.weak rfl (by kernel_rfl) (by exact Keeps.k) (by exact Sub.k) (hmid5 none (by trivial))
              refine JA.mid (X := Option Row) (fun rT => True) (fun rT => [(127, u64 ((sigR g x (txt ⟨((xs.length : Nat) : Int), brV (xs.map Et.e), 0, 0⟩)).1)), (126, .pointer (some ⟨b12, 0 + 33 + 0, none⟩)), (125, .pointer (some ⟨b12, 0 + 33, none⟩)), (124, u64 (pw g.g x g.p)), (4, .pointer (some ⟨b4, 0, none⟩)), (7, .pointer (some ⟨b7, 0, none⟩)), (12, .pointer (some ⟨b12, 0, none⟩)), (9, .bool true), (10, u64 (pw g.g x g.p)), (18, u64 (if scE g [] [(pw g.g x g.p), (sigR g x (txt ⟨((xs.length : Nat) : Int), brV (xs.map Et.e), 0, 0⟩)).1] = 0 then chalR g (pw g.g x g.p) ((sigR g x (txt ⟨((xs.length : Nat) : Int), brV (xs.map Et.e), 0, 0⟩)).1) (txt ⟨((xs.length : Nat) : Int), brV (xs.map Et.e), (sigR g x (txt ⟨((xs.length : Nat) : Int), brV (xs.map Et.e), 0, 0⟩)).1, (sigR g x (txt ⟨((xs.length : Nat) : Int), brV (xs.map Et.e), 0, 0⟩)).2⟩) else 0)), (19, .int .i64 (scE g [] [(pw g.g x g.p), (sigR g x (txt ⟨((xs.length : Nat) : Int), brV (xs.map Et.e), 0, 0⟩)).1]))]) (fun rT => ([(b12, Obj.cells (Hd.cl ⟨((xs.length : Nat) : Int), brV (xs.map Et.e), (sigR g x (txt ⟨((xs.length : Nat) : Int), brV (xs.map Et.e), 0, 0⟩)).1, (sigR g x (txt ⟨((xs.length : Nat) : Int), brV (xs.map Et.e), 0, 0⟩)).2⟩).toArray 38 (0, 0)), (b7, Obj.cells (Hd.cl ⟨o.n, o.root, (sigR g x (txt ⟨((xs.length : Nat) : Int), brV (xs.map Et.e), 0, 0⟩)).1, (sigR g x (txt ⟨((xs.length : Nat) : Int), brV (xs.map Et.e), 0, 0⟩)).2⟩).toArray 38 (0, 0)), (b4, Obj.cells g.cl.toArray 53 (0, 0))])) 9 #[false, true, true, true, true, false, false, false, false, false, false, false, false] ?_ (fun hmid9 => ?_)
              · -- state [1, 2, 3, 4]
                rintro rT _
                refine JA.branch [0, 5] (by kernel_rfl) rfl ?_
                refine JAll.cons rfl ?_ ?_
                · -- 0
                  refine JO.val rfl rfl rfl (.none rfl) (Ev.lB Tryd.underlying53 Tryd.sizeOf53) ?_
                  exact JA.weak rfl (by kernel_rfl) (by exact Keeps.k) (by exact Sub.k) (hmid4 none (by trivial))
                refine JAll.cons rfl ?_ JAll.nil
                refine JO.val rfl rfl rfl (.none rfl) (Ev.loadB rfl memK Tryd.underlying38 rfl Tryd.sizeOf38 (Hd.size _)) ?_
                exact JA.weak rfl (by kernel_rfl) (by exact Keeps.k) (by exact Sub.k) (hmid6 none (by trivial))
              refine JA.mid (X := Option Row) (fun rT => True) (fun rT => [(128, .agg (Hd.cl ⟨o.n, o.root, (sigR g x (txt ⟨((xs.length : Nat) : Int), brV (xs.map Et.e), 0, 0⟩)).1, (sigR g x (txt ⟨((xs.length : Nat) : Int), brV (xs.map Et.e), 0, 0⟩)).2⟩).toArray), (126, .pointer (some ⟨b12, 0 + 33 + 0, none⟩)), (125, .pointer (some ⟨b12, 0 + 33, none⟩)), (124, u64 (pw g.g x g.p)), (4, .pointer (some ⟨b4, 0, none⟩)), (7, .pointer (some ⟨b7, 0, none⟩)), (12, .pointer (some ⟨b12, 0, none⟩)), (9, .bool true), (10, u64 (pw g.g x g.p)), (18, u64 (if scE g [] [(pw g.g x g.p), (sigR g x (txt ⟨((xs.length : Nat) : Int), brV (xs.map Et.e), 0, 0⟩)).1] = 0 then chalR g (pw g.g x g.p) ((sigR g x (txt ⟨((xs.length : Nat) : Int), brV (xs.map Et.e), 0, 0⟩)).1) (txt ⟨((xs.length : Nat) : Int), brV (xs.map Et.e), (sigR g x (txt ⟨((xs.length : Nat) : Int), brV (xs.map Et.e), 0, 0⟩)).1, (sigR g x (txt ⟨((xs.length : Nat) : Int), brV (xs.map Et.e), 0, 0⟩)).2⟩) else 0)), (19, .int .i64 (scE g [] [(pw g.g x g.p), (sigR g x (txt ⟨((xs.length : Nat) : Int), brV (xs.map Et.e), 0, 0⟩)).1]))]) (fun rT => ([(b12, Obj.cells (Hd.cl ⟨((xs.length : Nat) : Int), brV (xs.map Et.e), (sigR g x (txt ⟨((xs.length : Nat) : Int), brV (xs.map Et.e), 0, 0⟩)).1, (sigR g x (txt ⟨((xs.length : Nat) : Int), brV (xs.map Et.e), 0, 0⟩)).2⟩).toArray 38 (0, 0)), (b7, Obj.cells (Hd.cl ⟨o.n, o.root, (sigR g x (txt ⟨((xs.length : Nat) : Int), brV (xs.map Et.e), 0, 0⟩)).1, (sigR g x (txt ⟨((xs.length : Nat) : Int), brV (xs.map Et.e), 0, 0⟩)).2⟩).toArray 38 (0, 0)), (b4, Obj.cells g.cl.toArray 53 (0, 0))])) 9 #[false, true, true, true, false, true, false, false, false, false, false, false, false] ?_ (fun hmid10 => ?_)
              · -- state [1, 2, 3, 5]
                rintro rT _
                refine JA.branch [0, 4, 6] (by kernel_rfl) rfl ?_
                refine JAll.cons rfl ?_ ?_
                · -- 0
                  refine JO.val rfl rfl rfl (.none rfl) (Ev.lB Tryd.underlying53 Tryd.sizeOf53) ?_
                  exact JA.weak rfl (by kernel_rfl) (by exact Keeps.k) (by exact Sub.k) (hmid5 none (by trivial))
                refine JAll.cons rfl ?_ ?_
                · -- 4
                  refine JO.val rfl rfl rfl (.none rfl) (Ev.load1 rfl Tryd.underlying34 rfl (Rd.own memK (Hd.get33 ⟨((xs.length : Nat) : Int), brV (xs.map Et.e), (sigR g x (txt ⟨((xs.length : Nat) : Int), brV (xs.map Et.e), 0, 0⟩)).1, (sigR g x (txt ⟨((xs.length : Nat) : Int), brV (xs.map Et.e), 0, 0⟩)).2⟩))) ?_
                  exact JA.weak rfl (by kernel_rfl) (by exact Keeps.k) (by exact Sub.k) (hmid6 none (by trivial))
                refine JAll.cons rfl ?_ JAll.nil
                refine JO.callN rfl (.none rfl) rfl Tryd.call14 (fun w1 hw1 => bText_any ⟨o.n, o.root, (sigR g x (txt ⟨((xs.length : Nat) : Int), brV (xs.map Et.e), 0, 0⟩)).1, (sigR g x (txt ⟨((xs.length : Nat) : Int), brV (xs.map Et.e), 0, 0⟩)).2⟩ w1) ?_
                rintro _ _ ⟨rT, rfl, rfl, hrT⟩
                exact JA.weak rfl (by kernel_rfl) (by exact Keeps.k) (by exact Sub.k) (hmid7 rT (by exact hrT))
              refine JA.tkc 1 rfl (.none rfl) (fun _ => (Ev.move rfl)) ?_
              refine JA.tkc 2 rfl (.none rfl) (fun _ => (Ev.fld 33 rfl (fun _ _ => by kernel_rfl))) ?_
              refine JA.tkc 3 rfl (.none rfl) (fun _ => (Ev.fld 0 rfl (fun _ _ => by kernel_rfl))) ?_
              refine JA.branch [0, 4, 5] (by kernel_rfl) rfl ?_
              refine JAll.cons rfl ?_ ?_
              · -- 0
                refine JO.val rfl rfl rfl (.none rfl) (Ev.lB Tryd.underlying53 Tryd.sizeOf53) ?_
                exact JA.weak rfl (by kernel_rfl) (by exact Keeps.k) (by exact Sub.k) (hmid8 none (by trivial))
              refine JAll.cons rfl ?_ ?_
              · -- 4
                refine JO.val rfl rfl rfl (.none rfl) (Ev.load1 rfl Tryd.underlying34 rfl (Rd.own memK (Hd.get33 ⟨((xs.length : Nat) : Int), brV (xs.map Et.e), (sigR g x (txt ⟨((xs.length : Nat) : Int), brV (xs.map Et.e), 0, 0⟩)).1, (sigR g x (txt ⟨((xs.length : Nat) : Int), brV (xs.map Et.e), 0, 0⟩)).2⟩))) ?_
                exact JA.weak rfl (by kernel_rfl) (by exact Keeps.k) (by exact Sub.k) (hmid9 none (by trivial))
              refine JAll.cons rfl ?_ JAll.nil
              refine JO.val rfl rfl rfl (.none rfl) (Ev.loadB rfl memK Tryd.underlying38 rfl Tryd.sizeOf38 (Hd.size _)) ?_
              exact JA.weak rfl (by kernel_rfl) (by exact Keeps.k) (by exact Sub.k) (hmid10 none (by trivial))
            rintro _
            refine JQ.thenN ?_
            refine JC.seq ?_
            refine JC.region ?_
            refine JL.val rfl rfl rfl (.none rfl) (Ev.lB Tryd.underlying53 Tryd.sizeOf53) ?_
            refine JL.mv ?_
            refine JL.val rfl rfl rfl (.none rfl) (Ev.loadB rfl memK Tryd.underlying38 rfl Tryd.sizeOf38 (Hd.size _)) ?_
            refine JL.callV rfl (.none rfl) rfl Tryd.call46 (fun w1 hw1 => bVerify_any g (pw g.g x g.p) ⟨o.n, o.root, (sigR g x (txt ⟨((xs.length : Nat) : Int), brV (xs.map Et.e), 0, 0⟩)).1, (sigR g x (txt ⟨((xs.length : Nat) : Int), brV (xs.map Et.e), 0, 0⟩)).2⟩ w1 (hk.old hw1) (hf.old hw1)) ?_
            refine JL.mv ?_
            refine JL.val rfl rfl rfl (.none rfl) (Ev.ex0 rfl) ?_
            refine JL.val rfl rfl rfl (.none rfl) (Ev.ex1 rfl) ?_
            refine JL.asg ?_
            refine JL.asg ?_
            refine JL.nil ?_
            refine JQ.thenN ?_
            refine JC.seq ?_
            refine JC.region ?_
            refine JL.re (d := 18) (v' := u64 (chalR g (pw g.g x g.p) ((sigR g x (txt ⟨((xs.length : Nat) : Int), brV (xs.map Et.e), 0, 0⟩)).1) (txt ⟨((xs.length : Nat) : Int), brV (xs.map Et.e), 0, 0⟩))) rfl (congrArg u64 (if_pos hsc)) ?_
            refine JL.re (d := 20) (v' := u64 (chalR g (pw g.g x g.p) ((sigR g x (txt ⟨((xs.length : Nat) : Int), brV (xs.map Et.e), 0, 0⟩)).1) (txt ⟨o.n, o.root, (sigR g x (txt ⟨((xs.length : Nat) : Int), brV (xs.map Et.e), 0, 0⟩)).1, (sigR g x (txt ⟨((xs.length : Nat) : Int), brV (xs.map Et.e), 0, 0⟩)).2⟩))) rfl (congrArg u64 (if_pos hsc)) ?_
            refine JL.re (d := 19) (v' := .int .i64 0) rfl (congrArg (Value.int .i64) (hsc)) ?_
            refine JL.re (d := 21) (v' := .int .i64 0) rfl (congrArg (Value.int .i64) (hsc)) ?_
            refine JL.re (d := 22) (v' := .int .i64 0) rfl (congrArg (Value.int .i64) (hsv)) ?_
            refine JL.mv ?_
            refine JL.mv ?_
            refine JL.know (d := 141) (b := true) rfl ?_ ?_
            · first | rfl | exact decide_eq_true rfl | exact decide_eq_true hsc | exact decide_eq_false (by simp)
            refine JL.val rfl rfl rfl (.yes rfl rfl rfl) (Ev.move rfl) ?_
            refine JL.val rfl rfl rfl (.yes rfl rfl rfl) (Ev.bin rfl rfl eql_int) ?_
            refine JL.val rfl rfl rfl (.none rfl) (Ev.pickT rfl rfl) ?_
            refine JL.mv ?_
            refine JL.know (d := 145) (b := true) rfl ?_ ?_
            · first | rfl | exact decide_eq_true rfl | exact decide_eq_true hsc | exact decide_eq_false (by simp)
            refine JL.val rfl rfl rfl (.yes rfl rfl rfl) (Ev.move rfl) ?_
            refine JL.val rfl rfl rfl (.yes rfl rfl rfl) (Ev.bin rfl rfl eql_int) ?_
            refine JL.val rfl rfl rfl (.none rfl) (Ev.pickT rfl rfl) ?_
            refine JL.mv ?_
            refine JL.know (d := 149) (b := true) rfl ?_ ?_
            · first | rfl | exact decide_eq_true rfl | exact decide_eq_true hsc | exact decide_eq_false (by simp)
            refine JL.val rfl rfl rfl (.yes rfl rfl rfl) (Ev.move rfl) ?_
            refine JL.val rfl rfl rfl (.yes rfl rfl rfl) (Ev.bin rfl rfl eql_int) ?_
            refine JL.val rfl rfl rfl (.none rfl) (Ev.pickT rfl rfl) ?_
            refine JL.mv ?_
            refine JL.know (d := 153) (b := true) rfl ?_ ?_
            · first | rfl | exact decide_eq_true rfl | exact decide_eq_true hsc | exact decide_eq_false (by simp)
            refine JL.val rfl rfl rfl (.yes rfl rfl rfl) (Ev.move rfl) ?_
            refine JL.val rfl rfl rfl (.yes rfl rfl rfl) (Ev.move rfl) ?_
            refine JL.val rfl rfl rfl (.yes rfl rfl rfl) (Ev.move rfl) ?_
            refine JL.val rfl rfl rfl (.yes rfl rfl rfl) (Ev.bin rfl rfl eql_int) ?_
            refine JL.val rfl rfl rfl (.yes rfl rfl rfl) (Ev.bin rfl rfl (eql_bool Tryd.underlying4)) ?_
            refine JL.val rfl rfl rfl (.none rfl) (Ev.pickT rfl rfl) ?_
            refine JL.asg ?_
            refine JL.nil ?_
            refine JQ.thenN ?_
            refine JC.ret ?_
            refine JQ.end1 (H' := []) (.inl rfl) rfl (.tmp rfl) ?_ ?_
            · exact Sub.k
            · first | rfl | exact congrArg Value.bool (sign_end hfin)

end Go.Proofs.YtopaednfjjjnbaaDoor
