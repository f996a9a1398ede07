/-
  Boards: what is read of one: sizes, kinds, leaves; in the program and in the reference.
-/
import Derived.Test.YtopaednfjjjnbaaDoorPackBNm
import Derived.Test.YtopaednfjjjnbaaDoorMer5Nm
namespace Go.Proofs.YtopaednfjjjnbaaDoor
open Go Go.RowKit
set_option maxRecDepth 100000

theorem okE_1 {x : Et} (h : ¬ (1 : Int) ≤ (x.k.toNat : Int)) : okE x.e = false := by
  have h1 : decide (1 ≤ x.k.toNat) = false := decide_eq_false (by omega)
  show (decide (1 ≤ x.k.toNat) && _) = false
  rw [h1]; rfl
theorem okE_2 {x : Et} (h : ¬ (x.k.toNat : Int) ≤ 13) : okE x.e = false := by
  have h1 : decide (x.k.toNat ≤ 13) = false := decide_eq_false (by omega)
  show (_ && (decide (x.k.toNat ≤ 13) && _)) = false
  rw [h1, Bool.false_and, Bool.and_false]
theorem okE_3 {x : Et} (h : (1 : Int) ≤ (x.k.toNat : Int)) (h2 : (x.k.toNat : Int) ≤ 13) : okE x.e = decide ((x.l.length : Int) ≤ 8000) := by
  have h1 : decide (1 ≤ x.k.toNat) = true := decide_eq_true (by omega)
  have h3 : decide (x.k.toNat ≤ 13) = true := decide_eq_true (by omega)
  show (decide (1 ≤ x.k.toNat) && (decide (x.k.toNat ≤ 13) && decide (x.l.length ≤ 8000))) = _
  rw [h1, h3, Bool.true_and, Bool.true_and]
  exact decide_eq_decide.2 (by omega)
theorem dec_not {a b : Prop} [Decidable a] [Decidable b] (h : a ↔ ¬ b) : decide a = !decide b := by
  by_cases hb : b <;> simp [h, hb]
theorem Bd.small {w : World} {oa : Option Addr} {cap : Nat} {xs : List Et} (h : Bd w oa cap xs) : xs.length ≤ 9223372036854775807 := Nat.le_trans h.cs.le h.cs.top
def lfV (x : Ent) : Dig := if okE x = true then leafE x else zeroD
def lfE (x : Ent) : Int := if okE x = true then 0 else 2
theorem lfV_ok {x : Ent} (h : okE x = true) : lfV x = leafE x := if_pos h
theorem lfE_ok {x : Ent} (h : okE x = true) : lfE x = 0 := if_pos h
theorem lfV_bad {x : Ent} (h : okE x = false) : lfV x = zeroD := if_neg (by rw [h]; simp)
theorem lfE_bad {x : Ent} (h : okE x = false) : lfE x = 2 := if_neg (by rw [h]; simp)
def ckE (xs : List Ent) : Int := if okB xs then 0 else 8
theorem ckE_ok {xs : List Ent} (h : okB xs) : ckE xs = 0 := if_pos h
theorem ckE_bad {xs : List Ent} (h : ¬ okB xs) : ckE xs = 8 := if_neg h
theorem okB_all {xs : List Et} (h : okB (xs.map Et.e)) : ∀ x ∈ xs, okE x.e = true := fun x hx => h.2 _ (List.mem_map.2 ⟨x, hx, rfl⟩)
theorem okB_mk {xs : List Et} (h : xs.length ≤ 1024) (h1 : ∀ x ∈ xs, okE x.e = true) : okB (xs.map Et.e) := ⟨by rw [List.length_map]; exact h, fun y hy => by
  obtain ⟨x, hx, rfl⟩ := List.mem_map.1 hy
  exact h1 x hx⟩
theorem all_next {α : Type} {p : α → Prop} {xs : List α} {i : Nat} {x : α} (h : ∀ j x, j < i → xs[j]? = some x → p x) (hx : xs[i]? = some x) (hp : p x) : ∀ j x, j < i + 1 → xs[j]? = some x → p x := fun j y hj hy => by
  rcases Nat.lt_or_ge j i with h1 | h1
  · exact h j y h1 hy
  · obtain rfl : j = i := by omega
    rw [hx] at hy
    obtain rfl := Option.some.inj hy
    exact hp
theorem all_get {α : Type} {p : α → Prop} {xs : List α} (h : ∀ j x, j < xs.length → xs[j]? = some x → p x) : ∀ x ∈ xs, p x := fun x hx => by
  obtain ⟨j, hj⟩ := List.getElem?_of_mem hx
  exact h j x (List.getElem?_eq_some_iff.1 hj).1 hj
theorem bleafS_any (oa : Option Addr) (cap : Nat) (l : List UInt8) (w : World) (hb : Bs w oa cap l) (hl : l.length ≤ 8191) (hk : KMem 1 w) (hf : FMem 0 w) :
    Calls Tryd.prog 67 #[.slice oa l.length cap] w (Ret w fun v _ => v = .tuple #[.agg (arr8 (sha (0 :: l))), .int .i64 0]) := by
  refine (Leaf_any oa cap l w hb (by omega) hk hf).mono ?_
  rintro e w1 ⟨v, H1, he, hp, rfl⟩
  have hc : ¬ 8191 < l.length := by omega
  exact ⟨_, _, he, hp, by rw [shaO_small (by simp; omega), if_neg hc]⟩

theorem valid_any (x : Et) (w : World) :
    Calls Tryd.prog 56 #[.agg x.cl.toArray] w (Ret w (fun v _ => v = .bool (okE x.e))) := by
  refine enter (vs := [.agg x.cl.toArray]) Tryd.func56 rfl Tryd.ntmps56 rfl ?_
  refine JC.seq ?_
  refine JC.region ?_
  refine JL.new rfl rfl rfl (.none rfl) (En.boxA rfl) (fun b1 hb1 => ?_)
  refine JL.asg ?_
  refine JL.nil ?_
  refine JQ.thenN ?_
  refine JC.seq ?_
  refine JC.region ?_
  refine JL.val rfl rfl rfl (.none rfl) (Ev.fld 0 rfl (fun _ _ => by kernel_rfl)) ?_
  refine JL.val rfl rfl rfl (.none rfl) (Ev.load1 rfl Tryd.underlying5 rfl (Rd.own memK rfl)) ?_
  refine JL.val rfl rfl rfl (.none rfl) (Ev.bin rfl rfl geq_int) ?_
  refine JL.mv ?_
  refine JL.split (d := 6) rfl (fun hgA => ?_) (fun hgA => ?_)
  · -- guard 6 true
    have hgA := of_decide_eq_true hgA
    refine JL.val rfl rfl rfl (.yes rfl rfl rfl) (Ev.fld 0 rfl (fun _ _ => by kernel_rfl)) ?_
    refine JL.val rfl rfl rfl (.yes rfl rfl rfl) (Ev.load1 rfl Tryd.underlying5 rfl (Rd.own memK rfl)) ?_
    refine JL.val rfl rfl rfl (.yes rfl rfl rfl) (Ev.bin rfl rfl leq_int) ?_
    refine JL.val rfl rfl rfl (.none rfl) (Ev.pickT rfl rfl) ?_
    refine JL.mv ?_
    refine JL.split (d := 11) rfl (fun hgB => ?_) (fun hgB => ?_)
    · -- guard 11 true
      have hgB := of_decide_eq_true hgB
      refine JL.val rfl rfl rfl (.yes rfl rfl rfl) (Ev.fld 1 rfl (fun _ _ => by kernel_rfl)) ?_
      refine JL.val rfl rfl rfl (.yes rfl rfl rfl) (Ev.load1 rfl Tryd.underlying28 rfl (Rd.own memK rfl)) ?_
      refine JL.val rfl rfl rfl (.yes rfl rfl rfl) (Ev.lenS rfl Tryd.underlying28) ?_
      refine JL.val rfl rfl rfl (.yes rfl rfl rfl) (Ev.bin rfl rfl leq_int) ?_
      refine JL.val rfl rfl rfl (.none rfl) (Ev.pickT rfl rfl) ?_
      refine JL.asg ?_
      refine JL.nil ?_
      refine JQ.thenN ?_
      refine JC.ret ?_
      refine JQ.end1 (H' := []) (.inl rfl) rfl (.tmp rfl) ?_ ?_
      · exact Sub.k
      · exact congrArg Value.bool (by first | exact (okE_1 hgA).symm | exact (okE_2 hgB).symm | exact (okE_3 hgA hgB).symm)
    · -- guard 11 false
      have hgB := of_decide_eq_false hgB
      refine JL.skip rfl rfl (.noT rfl rfl rfl) ?_
      refine JL.skip rfl rfl (.noT rfl rfl rfl) ?_
      refine JL.skip rfl rfl (.noT rfl rfl rfl) ?_
      refine JL.skip rfl rfl (.noT rfl rfl rfl) ?_
      refine JL.val rfl rfl rfl (.none rfl) (Ev.pickF rfl rfl) ?_
      refine JL.asg ?_
      refine JL.nil ?_
      refine JQ.thenN ?_
      refine JC.ret ?_
      refine JQ.end1 (H' := []) (.inl rfl) rfl (.tmp rfl) ?_ ?_
      · exact Sub.k
      · exact congrArg Value.bool (by first | exact (okE_1 hgA).symm | exact (okE_2 hgB).symm | exact (okE_3 hgA hgB).symm)
  · -- guard 6 false
    have hgA := of_decide_eq_false hgA
    refine JL.skip rfl rfl (.noT rfl rfl rfl) ?_
    refine JL.skip rfl rfl (.noT rfl rfl rfl) ?_
    refine JL.skip rfl rfl (.noT rfl rfl rfl) ?_
    refine JL.val rfl rfl rfl (.none rfl) (Ev.pickF rfl rfl) ?_
    refine JL.mv ?_
    refine JL.skip rfl rfl (.noT rfl rfl rfl) ?_
    refine JL.skip rfl rfl (.noT rfl rfl rfl) ?_
    refine JL.skip rfl rfl (.noT rfl rfl rfl) ?_
    refine JL.skip rfl rfl (.noT rfl rfl rfl) ?_
    refine JL.val rfl rfl rfl (.none rfl) (Ev.pickF rfl rfl) ?_
    refine JL.asg ?_
    refine JL.nil ?_
    refine JQ.thenN ?_
    refine JC.ret ?_
    refine JQ.end1 (H' := []) (.inl rfl) rfl (.tmp rfl) ?_ ?_
    · exact Sub.k
    · exact congrArg Value.bool (by first | exact (okE_1 hgA).symm | exact (okE_2 hgB).symm | exact (okE_3 hgA hgB).symm)

theorem ileaf_any (x : Et) (w : World) (hx : Bs w x.o x.cap x.l) (hl : x.l.length ≤ 8000) (hk : KMem 1 w) (hf : FMem 0 w) :
    Calls Tryd.prog 61 #[.agg x.cl.toArray] w (Ret w (fun v _ => v = .tuple #[.agg (arr8 (leafE x.e).1), .int .i64 0])) := by
  refine enter (vs := [.agg x.cl.toArray]) Tryd.func61 rfl Tryd.ntmps61 rfl ?_
  refine JC.seq ?_
  refine JC.region ?_
  refine JL.new rfl rfl rfl (.none rfl) (En.boxA rfl) (fun b1 hb1 => ?_)
  refine JL.new rfl rfl rfl (.none rfl) (En.allocZ (cs := arr8 (List.replicate 32 0)) Tryd.zeroValue33 rfl) (fun b2 hb2 => ?_)
  refine JL.asg ?_
  refine JL.nil ?_
  refine JQ.thenN ?_
  refine JC.seq ?_
  refine JC.region ?_
  refine JL.val rfl rfl rfl (.none rfl) (Ev.fld 0 rfl (fun _ _ => by kernel_rfl)) ?_
  refine JL.val rfl rfl rfl (.none rfl) (Ev.load1 rfl Tryd.underlying5 rfl (Rd.own memK rfl)) ?_
  refine JL.new rfl rfl rfl (.none rfl) (En.bsN (e := 5) rfl (fun _ => by kernel_rfl)) (fun b6 hb6 => ?_)
  refine JL.val rfl rfl rfl (.none rfl) (Ev.fld 1 rfl (fun _ _ => by kernel_rfl)) ?_
  refine JL.val rfl rfl rfl (.none rfl) (Ev.load1 rfl Tryd.underlying28 rfl (Rd.own memK rfl)) ?_
  refine JL.gen rfl rfl rfl (.none rfl) (Eg.append (r := (some ⟨b6, 1, #[u8 x.k]⟩)) (n := 1) (m := x.l.length) (xs := [u8 x.k]) (news := (x.l.map u8)) (z := (.int .u8 0)) (s := 1) (bytes := 1) rfl rfl rfl Cut.k Tryd.underlying28 (by kernel_rfl) rfl (by decide) (by decide) ⟨rfl, by simp, by simp [maxLen], rfl, rfl⟩ (by simp) (fun a ha => Rds.old (hx.mem a ha)) (fun h => by have := hx.le; have := hx.empty h; omega) (u8s_one x.l) (by omega)) ?_
  rintro _ _ ⟨r1, rfl, rfl, hr1, hn1⟩
  obtain ⟨r1, rfl⟩ : ∃ r : Row, r1 = some r := by cases r1 with | none => exact absurd (hn1.1 rfl).1 (by simp) | some r => exact ⟨r, rfl⟩
  refine JL.re (d := 9) (v' := .slice (some ⟨r1.g, 0, none⟩) (x.k :: x.l).length r1.cap) rfl (congrArg (fun n => Value.slice (some ⟨r1.g, 0, none⟩) n r1.cap) (by simp; try omega)) ?_
  refine JL.callV rfl (.none rfl) rfl Tryd.call67 (fun w1 hw1 => bleafS_any (some ⟨r1.g, 0, none⟩) r1.cap (x.k :: x.l) w1 (bs_of_row hw1 (by repeat (first | exact List.Mem.head _ | refine List.Mem.tail _ ?_)) hr1 (by simp; omega)) (by simp; omega) (hk.old hw1) (hf.old hw1)) ?_
  refine JL.val rfl rfl rfl (.none rfl) (Ev.ex0 rfl) ?_
  refine JL.val rfl rfl rfl (.none rfl) (Ev.ex1 rfl) ?_
  refine JL.sto rfl rfl (.none rfl) (Es.storeA rfl rfl Tryd.sizeOf33 Upd.k (by rw [arr8_size]; exact sha_length _) szK (arr8_one _)) ?_
  refine JL.asg ?_
  refine JL.nil ?_
  refine JQ.thenN ?_
  refine JC.ret ?_
  refine JQ.end2 (H' := []) (.inl rfl) rfl (.agg rfl memK Tryd.underlying33 rfl Tryd.sizeOf33 (by rw [arr8_size]; exact sha_length _)) (.tmp rfl) ?_ ?_
  · exact Sub.k
  · rfl

theorem bLeaf_any (x : Et) (w : World) (hx : Bs w x.o x.cap x.l) (hk : KMem 1 w) (hf : FMem 0 w) :
    Calls Tryd.prog 18 #[.agg x.cl.toArray] w (Ret w (fun v _ => v = .tuple #[.agg (arr8 (lfV x.e).1), .int .i64 (lfE x.e)])) := by
  refine enter (vs := [.agg x.cl.toArray]) Tryd.func18 rfl Tryd.ntmps18 rfl ?_
  refine JC.seq ?_
  refine JC.region ?_
  refine JL.new rfl rfl rfl (.none rfl) (En.boxA rfl) (fun b1 hb1 => ?_)
  refine JL.new rfl rfl rfl (.none rfl) (En.allocZ (cs := arr8 (List.replicate 32 0)) Tryd.zeroValue33 rfl) (fun b2 hb2 => ?_)
  refine JL.asg ?_
  refine JL.nil ?_
  refine JQ.thenN ?_
  refine JC.seq ?_
  refine JC.seq ?_
  refine JC.region ?_
  refine JL.val rfl rfl rfl (.none rfl) (Ev.lB Tryd.underlying30 Tryd.sizeOf30) ?_
  refine JL.callV rfl (.none rfl) rfl Tryd.call56 (fun w1 hw1 => valid_any x w1) ?_
  refine JL.val rfl rfl rfl (.none rfl) (Ev.not rfl) ?_
  refine JL.nil ?_
  refine JQ.thenN ?_
  refine JC.cond rfl (fun hv => ?_) (fun hv => ?_)
  · -- t6 True
    have hv : okE x.e = false := by simpa using hv
    refine JC.seq ?_
    refine JC.region ?_
    refine JL.val rfl rfl rfl (.none rfl) (Ev.bu0 Tryd.underlying33 Tryd.sizeOf5 Tryd.zeroValue33) ?_
    refine JL.sto rfl rfl (.none rfl) (Es.sA Tryd.sizeOf33) ?_
    refine JL.asg ?_
    refine JL.nil ?_
    refine JQ.thenN ?_
    refine JC.ret ?_
    refine JQ.thenR ?_
    refine JQ.end2 (H' := []) (.inl rfl) rfl (.agg rfl memK Tryd.underlying33 rfl Tryd.sizeOf33 szK) (.tmp rfl) ?_ ?_
    · exact Sub.k
    · rw [lfV_bad hv, lfE_bad hv]; rfl
  · -- t6 False
    have hv : okE x.e = true := by simpa using hv
    have hl := okE_len hv
    refine JC.skip ?_
    refine JQ.thenN ?_
    refine JC.seq ?_
    refine JC.region ?_
    refine JL.val rfl rfl rfl (.none rfl) (Ev.lB Tryd.underlying30 Tryd.sizeOf30) ?_
    refine JL.callV rfl (.none rfl) rfl Tryd.call61 (fun w1 hw1 => ileaf_any x w1 (hx.old hw1) hl (hk.old hw1) (hf.old hw1)) ?_
    refine JL.val rfl rfl rfl (.none rfl) (Ev.ex0 rfl) ?_
    refine JL.val rfl rfl rfl (.none rfl) (Ev.ex1 rfl) ?_
    refine JL.sto rfl rfl (.none rfl) (Es.sA Tryd.sizeOf33) ?_
    refine JL.asg ?_
    refine JL.nil ?_
    refine JQ.thenN ?_
    refine JC.ret ?_
    refine JQ.end2 (H' := []) (.inl rfl) rfl (.agg rfl memK Tryd.underlying33 rfl Tryd.sizeOf33 szK) (.tmp rfl) ?_ ?_
    · exact Sub.k
    · rw [lfV_ok hv, lfE_ok hv]

theorem odd_any (x : Et) (w : World) :
    Calls Tryd.prog 68 #[.agg x.cl.toArray] w (Ret w (fun v _ => v = .bool (!okE x.e))) := by
  refine enter (vs := [.agg x.cl.toArray]) Tryd.func68 rfl Tryd.ntmps68 rfl ?_
  refine JC.seq ?_
  refine JC.region ?_
  refine JL.new rfl rfl rfl (.none rfl) (En.boxA rfl) (fun b1 hb1 => ?_)
  refine JL.asg ?_
  refine JL.nil ?_
  refine JQ.thenN ?_
  refine JC.seq ?_
  refine JC.region ?_
  refine JL.val rfl rfl rfl (.none rfl) (Ev.lB Tryd.underlying30 Tryd.sizeOf30) ?_
  refine JL.callV rfl (.none rfl) rfl Tryd.call56 (fun w1 hw1 => valid_any x w1) ?_
  refine JL.val rfl rfl rfl (.none rfl) (Ev.not rfl) ?_
  refine JL.asg ?_
  refine JL.nil ?_
  refine JQ.thenN ?_
  refine JC.ret ?_
  refine JQ.end1 (H' := []) (.inl rfl) rfl (.tmp rfl) ?_ ?_
  · exact Sub.k
  · exact rfl

theorem indexOdd_any (oa : Option Addr) (cap : Nat) (xs : List Et) (w : World) (hb : Bd w oa cap xs) :
    Calls Tryd.prog 109 #[.slice oa xs.length cap, .func (.func 68) #[] #[]] w (Ret w (fun v _ => ∃ z : Int, v = .int .i64 z ∧ (0 ≤ z ↔ ¬ ∀ x ∈ xs, okE x.e = true))) := by
  refine enter (vs := [.slice oa xs.length cap, .func (.func 68) #[] #[]]) Tryd.func109 rfl Tryd.ntmps109 rfl ?_
  refine JC.seq ?_
  refine JC.region ?_
  refine JL.asg ?_
  refine JL.nil ?_
  refine JQ.thenN ?_
  refine JC.seq ?_
  refine JC.seq ?_
  refine JC.region ?_
  refine JL.mv ?_
  refine JL.val rfl rfl rfl (.none rfl) (Ev.lenS rfl Tryd.underlying22) ?_
  refine JL.mv ?_
  refine JL.nil ?_
  refine JQ.thenN ?_
  refine JC.block ?_
  refine JC.loop (X := Nat)
    (fun i => [(0, .slice oa xs.length cap), (1, .func (.func 68) #[] #[]), (7, .int .i64 (xs.length : Int)), (8, .int .i64 (i : Int))])
    (fun i => [])
    (fun i => i ≤ xs.length ∧ ∀ j x, j < i → xs[j]? = some x → okE x.e = true)
    (fun i => xs.length - i) 0 ?_ ?_ ?_ ?_
  · exact Keeps.k
  · exact Sub.k
  · exact ⟨Nat.zero_le _, fun j x hj => by omega⟩
  rintro i ⟨hi, hall⟩
  have hxm := hb.small
  refine JC.seq ?_
  refine JC.region ?_
  refine JL.val rfl rfl rfl (.none rfl) (Ev.bin rfl rfl lss_int) ?_
  refine JL.nil ?_
  refine JQ.thenN ?_
  refine JC.seq ?_
  refine JC.cond rfl (fun hc1 => ?_) (fun hc1 => ?_)
  · -- t9 True
    replace hc1 := of_decide_eq_true hc1
    refine JC.skip ?_
    refine JQ.thenN ?_
    refine JC.seq ?_
    refine JC.block ?_
    refine JC.seq ?_
    refine JC.region ?_
    refine JL.mv ?_
    refine JL.asg ?_
    refine JL.nil ?_
    refine JQ.thenN ?_
    refine JC.seq ?_
    refine JC.region ?_
    obtain ⟨a, rfl⟩ := hb.get_some (by omega)
    obtain ⟨x, hx⟩ := get_some (l := xs) (k := i) (by omega)
    refine JL.mv ?_
    refine JL.mv ?_
    refine JL.mv ?_
    refine JL.val rfl rfl rfl (.none rfl) (Ev.idxS rfl rfl Tryd.underlying22 Tryd.sizeOf30 (k := i) rfl (by omega)) ?_
    refine JL.val rfl rfl rfl (.none rfl) (Ev.loadA (l := x.cl) rfl Tryd.underlying30 rfl Tryd.sizeOf30 (Rds.old (hb.at hx)) rfl) ?_
    refine JL.callCloV rfl (.none rfl) rfl rfl Tryd.call68 (fun w1 hw1 => odd_any x w1) ?_
    refine JL.nil ?_
    refine JQ.thenN ?_
    refine JC.cond rfl (fun hv => ?_) (fun hv => ?_)
    · -- t16 True
      have hv : okE x.e = false := by simpa using hv
      refine JC.seq ?_
      refine JC.region ?_
      refine JL.mv ?_
      refine JL.asg ?_
      refine JL.nil ?_
      refine JQ.thenN ?_
      refine JC.ret ?_
      refine JQ.blockR ?_
      refine JQ.thenR ?_
      refine JQ.thenR ?_
      refine JQ.blockR ?_
      refine JQ.thenR ?_
      refine JQ.end1 (H' := []) (.inl rfl) rfl (.tmp rfl) ?_ ?_
      · exact Sub.k
      · exact ⟨_, rfl, ⟨fun _ h => (by rw [h x (List.mem_of_getElem? hx)] at hv; cases hv), fun _ => by omega⟩⟩
    · -- t16 False
      have hv : okE x.e = true := by simpa using hv
      refine JC.skip ?_
      refine JQ.blockN ?_
      refine JQ.thenN ?_
      refine JC.region ?_
      refine JL.val rfl rfl rfl (.none rfl) (Ev.bin rfl rfl (add_i64 (by omega))) ?_
      refine JL.mv ?_
      refine JL.nil ?_
      refine JQ.loopN (i + 1) ?_ ?_ ?_ ?_
      · exact Keeps.k
      · exact Sub.k
      · exact ⟨by omega, all_next hall hx hv⟩
      · show xs.length - (i + 1) < xs.length - i; omega
  · -- t9 False
    replace hc1 := of_decide_eq_false hc1
    obtain rfl : i = xs.length := by omega
    refine JC.exit ?_
    refine JQ.thenE ?_
    refine JQ.thenE ?_
    refine JQ.blockE ?_
    refine JQ.thenN ?_
    refine JC.seq ?_
    refine JC.region ?_
    refine JL.asg ?_
    refine JL.nil ?_
    refine JQ.thenN ?_
    refine JC.ret ?_
    refine JQ.end1 (H' := []) (.inl rfl) rfl (.tmp rfl) ?_ ?_
    · exact Sub.k
    · exact ⟨_, rfl, ⟨fun h => by omega, fun h => absurd (all_get hall) h⟩⟩

theorem containsOdd_any (oa : Option Addr) (cap : Nat) (xs : List Et) (w : World) (hb : Bd w oa cap xs) :
    Calls Tryd.prog 69 #[.slice oa xs.length cap, .func (.func 68) #[] #[]] w (Ret w (fun v _ => v = .bool (!decide (∀ x ∈ xs, okE x.e = true)))) := by
  refine enter (vs := [.slice oa xs.length cap, .func (.func 68) #[] #[]]) Tryd.func69 rfl Tryd.ntmps69 rfl ?_
  refine JC.seq ?_
  refine JC.region ?_
  refine JL.asg ?_
  refine JL.nil ?_
  refine JQ.thenN ?_
  refine JC.seq ?_
  refine JC.region ?_
  refine JL.mv ?_
  refine JL.mv ?_
  refine JL.callN rfl (.none rfl) rfl Tryd.call109 (fun w1 hw1 => indexOdd_any oa cap xs w1 (hb.old hw1)) ?_
  rintro _ _ ⟨z, rfl, hz⟩
  refine JL.val rfl rfl rfl (.none rfl) (Ev.bin rfl rfl geq_int) ?_
  refine JL.asg ?_
  refine JL.nil ?_
  refine JQ.thenN ?_
  refine JC.ret ?_
  refine JQ.end1 (H' := []) (.inl rfl) rfl (.tmp rfl) ?_ ?_
  · exact Sub.k
  · exact congrArg Value.bool (dec_not hz)

theorem bCheck_any (oa : Option Addr) (cap : Nat) (xs : List Et) (w : World) (hb : Bd w oa cap xs) :
    Calls Tryd.prog 25 #[.agg #[.slice oa xs.length cap]] w (Ret w (fun v _ => v = .int .i64 (ckE (xs.map Et.e)))) := by
  refine enter (vs := [.agg #[.slice oa xs.length cap]]) Tryd.func25 rfl Tryd.ntmps25 rfl ?_
  refine JC.seq ?_
  refine JC.region ?_
  refine JL.new rfl rfl rfl (.none rfl) (En.boxA rfl) (fun b1 hb1 => ?_)
  refine JL.asg ?_
  refine JL.nil ?_
  refine JQ.thenN ?_
  refine JC.seq ?_
  refine JC.region ?_
  refine JL.asg ?_
  refine JL.nil ?_
  refine JQ.thenN ?_
  refine JC.seq ?_
  refine JC.seq ?_
  refine JC.region ?_
  refine JL.val rfl rfl rfl (.none rfl) (Ev.fld 0 rfl (fun _ _ => by kernel_rfl)) ?_
  refine JL.val rfl rfl rfl (.none rfl) (Ev.load1 rfl Tryd.underlying22 rfl (Rd.own memK rfl)) ?_
  refine JL.val rfl rfl rfl (.none rfl) (Ev.lenS rfl Tryd.underlying22) ?_
  refine JL.val rfl rfl rfl (.none rfl) (Ev.bin rfl rfl gtr_int) ?_
  refine JL.mv ?_
  refine JL.split (d := 8) rfl (fun hgA => ?_) (fun hgA => ?_)
  · -- guard 8 true
    have hbad : ¬ okB (xs.map Et.e) := fun h => by have h1 := h.1; have := of_decide_eq_true hgA; rw [List.length_map] at h1; omega
    refine JL.skip rfl rfl (.noF rfl rfl rfl) ?_
    refine JL.skip rfl rfl (.noF rfl rfl rfl) ?_
    refine JL.skip rfl rfl (.noF rfl rfl rfl) ?_
    refine JL.skip rfl rfl (.noF rfl rfl rfl) ?_
    refine JL.val rfl rfl rfl (.none rfl) (Ev.pickT rfl rfl) ?_
    refine JL.nil ?_
    refine JQ.thenN ?_
    refine JC.condT rfl ?_
    refine JC.seq ?_
    refine JC.region ?_
    refine JL.asg ?_
    refine JL.nil ?_
    refine JQ.thenN ?_
    refine JC.ret ?_
    refine JQ.thenR ?_
    refine JQ.end1 (H' := []) (.inl rfl) rfl (.tmp rfl) ?_ ?_
    · exact Sub.k
    · first | rw [ckE_bad hbad] | rw [ckE_ok hok]
  · -- guard 8 false
    have hgA := of_decide_eq_false hgA
    refine JL.val rfl rfl rfl (.yes rfl rfl rfl) (Ev.fld 0 rfl (fun _ _ => by kernel_rfl)) ?_
    refine JL.val rfl rfl rfl (.yes rfl rfl rfl) (Ev.load1 rfl Tryd.underlying22 rfl (Rd.own memK rfl)) ?_
    refine JL.val rfl rfl rfl (.yes rfl rfl rfl) (Ev.move rfl) ?_
    refine JL.callV rfl (.yes rfl rfl rfl) rfl Tryd.call69 (fun w1 hw1 => containsOdd_any oa cap xs w1 (hb.old hw1)) ?_
    refine JL.val rfl rfl rfl (.none rfl) (Ev.pickF rfl rfl) ?_
    refine JL.nil ?_
    refine JQ.thenN ?_
    refine JC.cond rfl (fun hc => ?_) (fun hc => ?_)
    · -- t13 True
      have hbad : ¬ okB (xs.map Et.e) := fun h => by rw [decide_eq_true (okB_all h)] at hc; cases hc
      refine JC.seq ?_
      refine JC.region ?_
      refine JL.asg ?_
      refine JL.nil ?_
      refine JQ.thenN ?_
      refine JC.ret ?_
      refine JQ.thenR ?_
      refine JQ.end1 (H' := []) (.inl rfl) rfl (.tmp rfl) ?_ ?_
      · exact Sub.k
      · first | rw [ckE_bad hbad] | rw [ckE_ok hok]
    · -- t13 False
      have hok : okB (xs.map Et.e) := okB_mk (by omega) (by simpa using hc)
      refine JC.skip ?_
      refine JQ.thenN ?_
      refine JC.seq ?_
      refine JC.region ?_
      refine JL.asg ?_
      refine JL.nil ?_
      refine JQ.thenN ?_
      refine JC.ret ?_
      refine JQ.end1 (H' := []) (.inl rfl) rfl (.tmp rfl) ?_ ?_
      · exact Sub.k
      · first | rw [ckE_bad hbad] | rw [ckE_ok hok]

end Go.Proofs.YtopaednfjjjnbaaDoor
