/-
  Boards: paths and consistency proofs; the laws that these are accepted.
-/
import Derived.Test.YtopaednfjjjnbaaDoorBrd4Fk
import Derived.Test.YtopaednfjjjnbaaDoorCon6Fk
namespace Go.Proofs.YtopaednfjjjnbaaDoor
open Go Go.RowKit
set_option maxRecDepth 100000

def bpV (xs : List Ent) (i : Int) : List Dig := if okB xs then pathV (leavesE xs) i else []
def bpE (xs : List Ent) (i : Int) : Int := if okB xs then pathE (leavesE xs) i else 8
def bxV (xs : List Ent) (i : Int) : List Dig := if okB xs then prV (leavesE xs) i else []
def bxE (xs : List Ent) (i : Int) : Int := if okB xs then prE (leavesE xs) i else 8
section
variable {xs : List Ent} {i : Int}
end
def badI (h : Hd) (x : Ent) (i : Int) : Prop := okE x = false ∨ badT i h.n
instance (h : Hd) (x : Ent) (i : Int) : Decidable (badI h x i) := inferInstanceAs (Decidable (_ ∨ _))
def inV (h : Hd) (x : Ent) (i : Int) (ds : List Dig) : Bool := if badI h x i then false else decide (foE i h.n ds = 0) && decide ((foV (leafE x) i h.n ds).1 = h.root.1)
def inE (h : Hd) (x : Ent) (i : Int) : Int := if badI h x i then 2 else 0
section
variable {h : Hd} {x : Ent} {i : Int} {ds : List Dig}
end
theorem sized_any (n m : Int) (w : World) :
    Calls Tryd.prog 62 #[.int .i64 n, .int .i64 m] w (Ret w (fun v _ => v = .bool (decide (1 ≤ n ∧ n ≤ m)))) := by
  refine enter (vs := [.int .i64 n, .int .i64 m]) Tryd.func62 rfl Tryd.ntmps62 rfl ?_
  refine JC.seq ?_
  refine JC.region ?_
  refine JL.asg ?_
  refine JL.nil ?_
  refine JQ.thenN ?_
  refine JC.seq ?_
  refine JC.region ?_
  refine JL.mv ?_
  refine JL.val rfl rfl rfl (.none rfl) (Ev.bin rfl rfl geq_int) ?_
  refine JL.mv ?_
  refine JL.split (d := 7) rfl (fun hgA => ?_) (fun hgA => ?_)
  · -- guard 7 true
    have hgA := of_decide_eq_true hgA
    refine JL.val rfl rfl rfl (.yes rfl rfl rfl) (Ev.move rfl) ?_
    refine JL.val rfl rfl rfl (.yes rfl rfl rfl) (Ev.move rfl) ?_
    refine JL.val rfl rfl rfl (.yes rfl rfl rfl) (Ev.bin rfl rfl leq_int) ?_
    refine JL.val rfl rfl rfl (.none rfl) (Ev.pickT rfl rfl) ?_
    refine JL.asg ?_
    refine JL.nil ?_
    refine JQ.thenN ?_
    refine JC.ret ?_
    refine JQ.end1 (H' := []) (.inl rfl) rfl (.tmp rfl) ?_ ?_
    · exact Sub.k
    · exact congrArg Value.bool (by first | exact decide_eq_decide.2 (by omega) | exact (decide_eq_false (by omega)).symm)
  · -- guard 7 false
    have hgA := of_decide_eq_false hgA
    refine JL.skip rfl rfl (.noT rfl rfl rfl) ?_
    refine JL.skip rfl rfl (.noT rfl rfl rfl) ?_
    refine JL.skip rfl rfl (.noT rfl rfl rfl) ?_
    refine JL.val rfl rfl rfl (.none rfl) (Ev.pickF rfl rfl) ?_
    refine JL.asg ?_
    refine JL.nil ?_
    refine JQ.thenN ?_
    refine JC.ret ?_
    refine JQ.end1 (H' := []) (.inl rfl) rfl (.tmp rfl) ?_ ?_
    · exact Sub.k
    · exact congrArg Value.bool (by first | exact decide_eq_decide.2 (by omega) | exact (decide_eq_false (by omega)).symm)

theorem bExtends_any (h g : Hd) (oa : Option Addr) (cap : Nat) (ds : List Dig) (w : World) (hd : Dl w oa cap ds) (hk : KMem 1 w) (hf : FMem 0 w) :
    Calls Tryd.prog 20 #[.agg h.cl.toArray, .agg g.cl.toArray, .slice oa ds.length cap] w (Ret w (fun v _ => v = .tuple #[.bool (vcV h.root g.root h.n g.n ds), .int .i64 (vcE h.n g.n ds)])) := by
  refine enter (vs := [.agg h.cl.toArray, .agg g.cl.toArray, .slice oa ds.length cap]) Tryd.func20 rfl Tryd.ntmps20 rfl ?_
  refine JC.seq ?_
  refine JC.region ?_
  refine JL.new rfl rfl rfl (.none rfl) (En.boxA rfl) (fun b3 hb3 => ?_)
  refine JL.new rfl rfl rfl (.none rfl) (En.boxA rfl) (fun b4 hb4 => ?_)
  refine JL.asg ?_
  refine JL.asg ?_
  refine JL.nil ?_
  refine JQ.thenN ?_
  refine JC.seq ?_
  refine JC.seq ?_
  refine JC.region ?_
  refine JL.val rfl rfl rfl (.none rfl) (Ev.fld 0 rfl (fun _ _ => by kernel_rfl)) ?_
  refine JL.val rfl rfl rfl (.none rfl) (Ev.load1 rfl Tryd.underlying3 rfl (Rd.own memK (Hd.get0 g))) ?_
  refine JL.callV rfl (.none rfl) rfl Tryd.call62 (fun w1 hw1 => sized_any g.n 1024 w1) ?_
  refine JL.val rfl rfl rfl (.none rfl) (Ev.not rfl) ?_
  refine JL.mv ?_
  refine JL.split (d := 12) rfl (fun hgA => ?_) (fun hgA => ?_)
  · -- guard 12 true
    have hbad : badC h.n g.n := by simp at hgA; unfold badC; omega
    refine JL.skip rfl rfl (.noF rfl rfl rfl) ?_
    refine JL.skip rfl rfl (.noF rfl rfl rfl) ?_
    refine JL.skip rfl rfl (.noF rfl rfl rfl) ?_
    refine JL.skip rfl rfl (.noF rfl rfl rfl) ?_
    refine JL.skip rfl rfl (.noF rfl rfl rfl) ?_
    refine JL.skip rfl rfl (.noF rfl rfl rfl) ?_
    refine JL.val rfl rfl rfl (.none rfl) (Ev.pickT rfl rfl) ?_
    refine JL.nil ?_
    refine JQ.thenN ?_
    refine JC.condT rfl ?_
    refine JC.seq ?_
    refine JC.region ?_
    refine JL.asg ?_
    refine JL.asg ?_
    refine JL.nil ?_
    refine JQ.thenN ?_
    refine JC.ret ?_
    refine JQ.thenR ?_
    refine JQ.end2 (H' := []) (.inl rfl) rfl (.tmp rfl) (.tmp rfl) ?_ ?_
    · exact Sub.k
    · first | (rw [vcV_bad (fcE_bad hbad), vcE_bad (fcE_bad hbad)]; done) | rfl
  · -- guard 12 false
    have hs : 1 ≤ g.n ∧ g.n ≤ 1024 := by simpa using hgA
    refine JL.val rfl rfl rfl (.yes rfl rfl rfl) (Ev.fld 0 rfl (fun _ _ => by kernel_rfl)) ?_
    refine JL.val rfl rfl rfl (.yes rfl rfl rfl) (Ev.load1 rfl Tryd.underlying3 rfl (Rd.own memK (Hd.get0 h))) ?_
    refine JL.val rfl rfl rfl (.yes rfl rfl rfl) (Ev.fld 0 rfl (fun _ _ => by kernel_rfl)) ?_
    refine JL.val rfl rfl rfl (.yes rfl rfl rfl) (Ev.load1 rfl Tryd.underlying3 rfl (Rd.own memK (Hd.get0 g))) ?_
    refine JL.callV rfl (.yes rfl rfl rfl) rfl Tryd.call62 (fun w1 hw1 => sized_any h.n g.n w1) ?_
    refine JL.val rfl rfl rfl (.yes rfl rfl rfl) (Ev.not rfl) ?_
    refine JL.val rfl rfl rfl (.none rfl) (Ev.pickF rfl rfl) ?_
    refine JL.nil ?_
    refine JQ.thenN ?_
    refine JC.cond rfl (fun hc => ?_) (fun hc => ?_)
    · -- t19 True
      have hbad : badC h.n g.n := by simp at hc; unfold badC; omega
      refine JC.seq ?_
      refine JC.region ?_
      refine JL.asg ?_
      refine JL.asg ?_
      refine JL.nil ?_
      refine JQ.thenN ?_
      refine JC.ret ?_
      refine JQ.thenR ?_
      refine JQ.end2 (H' := []) (.inl rfl) rfl (.tmp rfl) (.tmp rfl) ?_ ?_
      · exact Sub.k
      · first | (rw [vcV_bad (fcE_bad hbad), vcE_bad (fcE_bad hbad)]; done) | rfl
    · -- t19 False
      have hs2 : 1 ≤ h.n ∧ h.n ≤ g.n := by simpa using hc
      refine JC.skip ?_
      refine JQ.thenN ?_
      refine JC.seq ?_
      refine JC.region ?_
      refine JL.val rfl rfl rfl (.none rfl) (Ev.fld 0 rfl (fun _ _ => by kernel_rfl)) ?_
      refine JL.val rfl rfl rfl (.none rfl) (Ev.load1 rfl Tryd.underlying3 rfl (Rd.own memK (Hd.get0 h))) ?_
      refine JL.val rfl rfl rfl (.none rfl) (Ev.fld 0 rfl (fun _ _ => by kernel_rfl)) ?_
      refine JL.val rfl rfl rfl (.none rfl) (Ev.load1 rfl Tryd.underlying3 rfl (Rd.own memK (Hd.get0 g))) ?_
      refine JL.val rfl rfl rfl (.none rfl) (Ev.fld 1 rfl (fun _ _ => by kernel_rfl)) ?_
      refine JL.val rfl rfl rfl (.none rfl) (Ev.loadA (l := h.root.1.map u8) rfl Tryd.underlying33 rfl Tryd.sizeOf33 (Hd.rds (h := h) memK) (by rw [List.length_map]; exact h.root.2)) ?_
      refine JL.val rfl rfl rfl (.none rfl) (Ev.fld 1 rfl (fun _ _ => by kernel_rfl)) ?_
      refine JL.val rfl rfl rfl (.none rfl) (Ev.loadA (l := g.root.1.map u8) rfl Tryd.underlying33 rfl Tryd.sizeOf33 (Hd.rds (h := g) memK) (by rw [List.length_map]; exact g.root.2)) ?_
      refine JL.mv ?_
      refine JL.callV rfl (.none rfl) rfl Tryd.call64 (fun w1 hw1 => cVerify_any h.root g.root h.n g.n (by omega) (by omega) oa cap ds w1 (hd.old hw1) (hk.old hw1) (hf.old hw1)) ?_
      refine JL.val rfl rfl rfl (.none rfl) (Ev.ex0 rfl) ?_
      refine JL.val rfl rfl rfl (.none rfl) (Ev.ex1 rfl) ?_
      refine JL.asg ?_
      refine JL.asg ?_
      refine JL.nil ?_
      refine JQ.thenN ?_
      refine JC.ret ?_
      refine JQ.end2 (H' := []) (.inl rfl) rfl (.tmp rfl) (.tmp rfl) ?_ ?_
      · exact Sub.k
      · first | (rw [vcV_bad (fcE_bad hbad), vcE_bad (fcE_bad hbad)]; done) | rfl

end Go.Proofs.YtopaednfjjjnbaaDoor
