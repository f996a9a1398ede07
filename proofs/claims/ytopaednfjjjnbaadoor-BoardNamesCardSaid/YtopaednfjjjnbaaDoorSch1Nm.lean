/-
  Signatures: numbers as bytes, challenges, responses, signing, verifying; in the program.
-/
import Derived.Test.YtopaednfjjjnbaaDoorGrp1Nm
namespace Go.Proofs.YtopaednfjjjnbaaDoor
open Go Go.RowKit
set_option maxRecDepth 100000

theorem sumS_any (oa : Option Addr) (cap : Nat) (l : List UInt8) (w : World) (hb : Bs w oa cap l) (hl : l.length ≤ 8192) (hk : KMem 1 w) (hf : FMem 0 w) :
    Calls Tryd.prog 66 #[.slice oa l.length cap] w (Ret w fun v _ => v = .tuple #[.agg (arr8 (sha l)), .int .i64 0]) := by
  refine (Sum_any oa cap l w hb (by omega) hk hf).mono ?_
  rintro e w1 ⟨v, H1, he, hp, rfl⟩
  have hc : ¬ 8192 < l.length := by omega
  exact ⟨_, _, he, hp, by rw [shaO_small hc, if_neg hc]⟩
theorem be8s_next {xs : List UInt64} {i : Nat} {x : UInt64} (h : xs[i]? = some x) : be8s (xs.take i) ++ be8f x 8 = be8s (xs.take (i + 1)) := by
  rw [List.take_add_one, h, be8s_append]
  show _ = _ ++ (be8 x ++ [])
  rw [List.append_nil]
  rfl
theorem be8s_one (x : UInt64) (t : List UInt8) : be8s [x] ++ t = be8 x ++ t := by
  show be8 x ++ [] ++ t = _
  rw [List.append_nil]
theorem be8s_two (x y : UInt64) (t : List UInt8) : be8s [x, y] ++ t = be8 x ++ (be8 y ++ t) := by
  show be8 x ++ (be8 y ++ []) ++ t = _
  rw [List.append_nil, List.append_assoc]
section
variable {g : Gp} {x y r s : UInt64} {t : List UInt8}
theorem kyE_ne (h : scE g [x] [] ≠ 0) : kyE g x = scE g [x] [] := if_pos h
theorem kyE_zero (h : scE g [x] [] = 0) (h1 : x.toNat = 0) : kyE g x = 2 := (if_neg (fun h2 => h2 h)).trans (if_pos h1)
theorem kyE_ok (h : scE g [x] [] = 0) (h1 : ¬ x.toNat = 0) : kyE g x = 0 := (if_neg (fun h2 => h2 h)).trans (if_neg h1)
theorem kyE_form (h : kyE g x = 0) : formB g ∧ x.toNat < g.q.toNat ∧ x.toNat ≠ 0 := by
  by_cases h1 : scE g [x] [] = 0
  · by_cases h2 : x.toNat = 0
    · rw [kyE_zero h1 h2] at h; cases h
    · obtain ⟨h3, h4, _⟩ := scE_zero h1
      exact ⟨h3, h4 x (List.mem_singleton.2 rfl), h2⟩
  · rw [kyE_ne h1] at h; exact absurd h h1
theorem gcE_g (h : formB g) : gcE g g.p [g.g] = 0 := gcE_ok h fun z hz => by
  obtain rfl := List.mem_singleton.1 hz
  exact h.2.2.2.2
theorem sub1 {a : UInt64} (h : 1 ≤ a.toNat) : (a - 1).toNat = a.toNat - 1 := by
  rw [UInt64.toNat_sub_of_le]
  · rfl
  · rw [UInt64.le_iff_toNat_le]
    exact h
theorem nonce_lt (h : formB g) : (nonceR g x t).toNat < g.q.toNat := by
  have hq := form_q h
  have h1 : (g.q - 1).toNat = g.q.toNat - 1 := sub1 (by omega)
  have h2 : (hN ((sha (be8 x ++ t)).take 8) % (g.q - 1)).toNat < g.q.toNat - 1 := by
    rw [UInt64.toNat_mod, h1]
    exact Nat.mod_lt _ (by omega)
  rw [nonceR, UInt64.toNat_add]
  show (_ + 1) % 2 ^ 64 < _
  omega
theorem chal_lt (h : formB g) : (chalR g y r t).toNat < g.q.toNat := by
  rw [chalR, UInt64.toNat_mod]
  exact Nat.mod_lt _ (by have := form_q h; omega)
theorem sig_one (a b : UInt64) : ∀ u ∈ (#[u64 a, u64 b] : Array Value).toList, u.oneCell' = true := by
  intro u hu
  simp only [List.mem_cons, List.not_mem_nil, or_false] at hu
  rcases hu with rfl | rfl <;> rfl
def vfR (g : Gp) (y : UInt64) (t : List UInt8) (r s : UInt64) : Bool := if scE g [s] [y, r] = 0 then (memR g y && memR g r) && evenR g y r (chalR g y r t) s else false
end
theorem sbytes_any (oa : Option Addr) (cap : Nat) (xs : List UInt64) (w : World) (ha : Cs w oa xs.length cap (u64s xs)) (hl : xs.length ≤ 1000) :
    Calls Tryd.prog 94 #[.slice oa xs.length cap] w (Ret w (fun v H => ∃ r : Option Row, v = Row.v (be8s xs).length r ∧ H = Row.b 5 r ∧ Row.ok 1 (be8s xs).length ((be8s xs).map u8) r)) := by
  refine enter (vs := [.slice oa xs.length cap]) Tryd.func94 rfl Tryd.ntmps94 rfl ?_
  refine JC.seq ?_
  refine JC.region ?_
  refine JL.asg ?_
  refine JL.nil ?_
  refine JQ.thenN ?_
  refine JC.seq ?_
  refine JC.region ?_
  refine JL.asg ?_
  refine JL.nil ?_
  refine JQ.thenN ?_
  refine JC.seq ?_
  refine JC.seq ?_
  refine JC.region ?_
  refine JL.mv ?_
  refine JL.val rfl rfl rfl (.none rfl) (Ev.lenS rfl Tryd.underlying138) ?_
  refine JL.mv ?_
  refine JL.nil ?_
  refine JQ.thenN ?_
  refine JC.block ?_
  refine JC.loop (X := Nat × List UInt8 × Option Row)
    (fun ⟨i, out, r⟩ => [(3, Row.v out.length r), (7, .slice oa xs.length cap), (8, .int .i64 (xs.length : Int)), (9, .int .i64 (i : Int))])
    (fun ⟨i, out, r⟩ => Row.b 5 r)
    (fun ⟨i, out, r⟩ => i ≤ xs.length ∧ out = be8s (xs.take i) ∧ Row.ok 1 out.length (out.map u8) r)
    (fun ⟨i, out, r⟩ => xs.length - i) (0, [], none) ?_ ?_ ?_ ?_
  · exact Keeps.k
  · exact Sub.nil
  · exact ⟨Nat.zero_le _, rfl, Row.ok0⟩
  rintro ⟨i, out, r⟩ ⟨hi, ho, hr⟩
  refine JC.seq ?_
  refine JC.region ?_
  refine JL.val rfl rfl rfl (.none rfl) (Ev.bin rfl rfl lss_int) ?_
  refine JL.nil ?_
  refine JQ.thenN ?_
  refine JC.seq ?_
  refine JC.cond rfl (fun hc1 => ?_) (fun hc1 => ?_)
  · -- t10 True
    replace hc1 := of_decide_eq_true hc1
    obtain ⟨a, rfl⟩ := ha.get_some (by omega)
    obtain ⟨x, hx⟩ := get_some (l := xs) (k := i) (by omega)
    refine JC.skip ?_
    refine JQ.thenN ?_
    refine JC.seq ?_
    refine JC.block ?_
    refine JC.seq ?_
    refine JC.region ?_
    refine JL.val rfl rfl rfl (.none rfl) (Ev.idxS1 rfl rfl Tryd.underlying138 Tryd.sizeOf34 (k := i) rfl (by omega)) ?_
    refine JL.val rfl rfl rfl (.none rfl) (Ev.load1 rfl Tryd.underlying34 rfl ((Rds.old (ha.mem _ rfl)).at (k := i) (u64s_get hx))) ?_
    refine JL.asg ?_
    refine JL.nil ?_
    refine JQ.thenN ?_
    refine JC.seq ?_
    refine JC.region ?_
    refine JL.asg ?_
    refine JL.nil ?_
    refine JQ.thenN ?_
    refine JC.block ?_
    refine JC.loop (X := Nat × List UInt8 × Option Row)
      (fun ⟨j, o2, r2⟩ => [(3, Row.v o2.length r2), (5, u64 x), (6, .int .i64 (56 - 8 * (j : Int))), (7, .slice (some a) xs.length cap), (8, .int .i64 (xs.length : Int)), (9, .int .i64 (i : Int))])
      (fun ⟨j, o2, r2⟩ => Row.b 5 r2)
      (fun ⟨j, o2, r2⟩ => j ≤ 8 ∧ o2 = out ++ be8f x j ∧ Row.ok 1 o2.length (o2.map u8) r2)
      (fun ⟨j, o2, r2⟩ => 8 - j) (0, out, r) ?_ ?_ ?_ ?_
    · exact Keeps.k
    · exact Sub.all
    · exact ⟨Nat.zero_le _, (List.append_nil _).symm, hr⟩
    rintro ⟨j, o2, r2⟩ ⟨hj, ho2, hr2⟩
    refine JC.seq ?_
    refine JC.seq ?_
    refine JC.region ?_
    refine JL.mv ?_
    refine JL.val rfl rfl rfl (.none rfl) (Ev.bin rfl rfl geq_int) ?_
    refine JL.nil ?_
    refine JQ.thenN ?_
    refine JC.cond rfl (fun hc2 => ?_) (fun hc2 => ?_)
    · -- t14 True
      replace hc2 := of_decide_eq_true hc2
      have hj7 : j ≤ 7 := by omega
      have ho8 : out.length ≤ 8 * i := by rw [ho, be8s_length, List.length_take]; omega
      have hl2 : o2.length ≤ 10000 := by rw [ho2, List.length_append, be8f_length]; omega
      refine JC.skip ?_
      refine JQ.thenN ?_
      refine JC.seq ?_
      refine JC.block ?_
      refine JC.region ?_
      refine JL.mv ?_
      refine JL.mv ?_
      refine JL.val rfl rfl rfl (.none rfl) (Ev.cast (v' := .int .i64 ((56 - 8 * j : Nat) : Int)) (congrArg (Value.int .i64) (by omega)) (Ev.move rfl)) ?_
      refine JL.val rfl rfl rfl (.none rfl) (Ev.bin rfl rfl (shr_u64 (by omega))) ?_
      refine JL.val rfl rfl rfl (.none rfl) (Ev.conv rfl (conv_u64_u8 Tryd.underlying34 Tryd.underlying5)) ?_
      refine JL.new rfl rfl rfl (.none rfl) (En.bsN (e := 5) rfl (fun _ => by kernel_rfl)) (fun b22 hb22 => ?_)
      refine JL.gen rfl rfl rfl (.none rfl) (Eg.append1 (z := (.int .u8 0)) (s := 1) (bytes := 1) rfl rfl rfl Cut.k Tryd.underlying28 (by kernel_rfl) rfl (by decide) (by decide) hr2 (Rds.all memK) rfl (by decide) (u8s_one [(x >>> UInt64.ofNat (56 - 8 * j)).toUInt8]) (by omega)) ?_
      rintro _ _ ⟨rn, rfl, rfl, hrn⟩
      refine JL.asg ?_
      refine JL.nil ?_
      refine JQ.blockN ?_
      refine JQ.thenN ?_
      refine JC.region ?_
      refine JL.mv ?_
      refine JL.val rfl rfl rfl (.none rfl) (Ev.bin rfl rfl (sub_i64 (by omega))) ?_
      refine JL.asg ?_
      refine JL.nil ?_
      refine JQ.re (d := 6) (v' := .int .i64 (56 - 8 * ((j + 1 : Nat) : Int))) rfl (congrArg (Value.int .i64) (by omega)) ?_
      refine JQ.loopN (j + 1, o2 ++ [(x >>> UInt64.ofNat (56 - 8 * j)).toUInt8], some rn) ?_ ?_ ?_ ?_
      · (dsimp only; rw [List.length_append, List.length_singleton]; exact Keeps.k)
      · exact Sub.of_cnt (fun a => by (try dsimp only); simp only [cntA]; omega)
      · exact ⟨by omega, by rw [ho2, be8f_succ, List.append_assoc], by rw [List.length_append, List.map_append]; exact hrn⟩
      · show 8 - (j + 1) < 8 - j; omega
    · -- t14 False
      replace hc2 := of_decide_eq_false hc2
      obtain rfl : j = 8 := by omega
      refine JC.exit ?_
      refine JQ.thenE ?_
      refine JQ.thenE ?_
      refine JQ.blockE ?_
      refine JQ.blockN ?_
      refine JQ.thenN ?_
      refine JC.region ?_
      refine JL.val rfl rfl rfl (.none rfl) (Ev.bin rfl rfl (add_i64 (by omega))) ?_
      refine JL.mv ?_
      refine JL.nil ?_
      refine JQ.loopN (i + 1, o2, r2) ?_ ?_ ?_ ?_
      · exact Keeps.k
      · exact Sub.all
      · exact ⟨by omega, by rw [ho2, ho]; exact be8s_next hx, hr2⟩
      · show xs.length - (i + 1) < xs.length - i; omega
  · -- t10 False
    replace hc1 := of_decide_eq_false hc1
    obtain rfl : i = xs.length := by omega
    refine JC.exit ?_
    refine JQ.thenE ?_
    refine JQ.thenE ?_
    refine JQ.blockE ?_
    refine JQ.thenN ?_
    refine JC.seq ?_
    refine JC.region ?_
    refine JL.mv ?_
    refine JL.asg ?_
    refine JL.nil ?_
    refine JQ.thenN ?_
    refine JC.ret ?_
    refine JQ.end1 (H' := (Row.b 5 r)) (.inl rfl) rfl (.tmp rfl) ?_ ?_
    · exact Sub.all
    · rw [List.take_of_length_le (Nat.le_refl _)] at ho; subst ho; exact ⟨r, rfl, rfl, hr⟩

theorem scheck_any (g : Gp) (oa ob : Option Addr) (ca cb : Nat) (es ns : List UInt64) (w : World) (ha : Cs w oa es.length ca (u64s es)) (hb : Cs w ob ns.length cb (u64s ns)) (hl : es.length ≤ 1000) (hm : ns.length ≤ 1000) :
    Calls Tryd.prog 93 #[.agg g.cl.toArray, .slice oa es.length ca, .slice ob ns.length cb] w (Ret w (fun v _ => v = .int .i64 (scE g es ns))) := by
  refine enter (vs := [.agg g.cl.toArray, .slice oa es.length ca, .slice ob ns.length cb]) Tryd.func93 rfl Tryd.ntmps93 rfl ?_
  refine JC.seq ?_
  refine JC.region ?_
  refine JL.new rfl rfl rfl (.none rfl) (En.boxA rfl) (fun b3 hb3 => ?_)
  refine JL.asg ?_
  refine JL.nil ?_
  refine JQ.thenN ?_
  refine JC.seq ?_
  refine JC.seq ?_
  refine JC.region ?_
  refine JL.val rfl rfl rfl (.none rfl) (Ev.lB Tryd.underlying53 Tryd.sizeOf53) ?_
  refine JL.callV rfl (.none rfl) rfl Tryd.call88 (fun w1 hw1 => gForm_any g w1) ?_
  refine JL.asg ?_
  refine JL.nil ?_
  refine JQ.thenN ?_
  refine JC.seq ?_
  refine JC.region ?_
  refine JL.mv ?_
  refine JL.val rfl rfl rfl (.none rfl) (Ev.bin rfl rfl neq_int) ?_
  refine JL.nil ?_
  refine JQ.thenN ?_
  refine JC.cond rfl (fun hc => ?_) (fun hc => ?_)
  · -- t15 True
    replace hc := of_decide_eq_true hc
    have hbad : ¬ formB g := fun h => by have := formE_ok h; omega
    refine JC.seq ?_
    refine JC.region ?_
    refine JL.mv ?_
    refine JL.asg ?_
    refine JL.nil ?_
    refine JQ.thenN ?_
    refine JC.ret ?_
    refine JQ.thenR ?_
    refine JQ.end1 (H' := []) (.inl rfl) rfl (.tmp rfl) ?_ ?_
    · exact Sub.k
    · first | rw [scE_bad hbad, formE_bad hbad] | rw [scE_gr hok (fun h => hq (h.1 x (List.mem_of_getElem? hx)))] | rw [scE_gr hok (fun h => hp (h.2 x (List.mem_of_getElem? hx)))] | rw [scE_ok hok hes hns]
  · -- t15 False
    replace hc := of_decide_eq_false hc
    have hok : formB g := Classical.byContradiction fun h => by have := formE_bad h; omega
    refine JC.skip ?_
    refine JQ.thenN ?_
    refine JC.seq ?_
    refine JC.seq ?_
    refine JC.region ?_
    refine JL.mv ?_
    refine JL.val rfl rfl rfl (.none rfl) (Ev.lenS rfl Tryd.underlying138) ?_
    refine JL.mv ?_
    refine JL.nil ?_
    refine JQ.thenN ?_
    refine JC.block ?_
    refine JC.loop (X := Nat)
      (fun i => [(3, .pointer (some ⟨b3, 0, none⟩)), (2, .slice ob ns.length cb), (17, .slice oa es.length ca), (18, .int .i64 (es.length : Int)), (19, .int .i64 (i : Int))])
      (fun i => [(b3, Obj.cells g.cl.toArray 53 (0, 0))])
      (fun i => i ≤ es.length ∧ ∀ j x, j < i → es[j]? = some x → x.toNat < g.q.toNat)
      (fun i => es.length - i) 0 ?_ ?_ ?_ ?_
    · exact Keeps.k
    · exact Sub.k
    · exact ⟨Nat.zero_le _, fun j x hj => by omega⟩
    rintro i ⟨hi, hall⟩
    refine JC.seq ?_
    refine JC.region ?_
    refine JL.val rfl rfl rfl (.none rfl) (Ev.bin rfl rfl lss_int) ?_
    refine JL.nil ?_
    refine JQ.thenN ?_
    refine JC.seq ?_
    refine JC.cond rfl (fun hc1 => ?_) (fun hc1 => ?_)
    · -- t20 True
      replace hc1 := of_decide_eq_true hc1
      obtain ⟨a, rfl⟩ := ha.get_some (by omega)
      obtain ⟨x, hx⟩ := get_some (l := es) (k := i) (by omega)
      refine JC.skip ?_
      refine JQ.thenN ?_
      refine JC.seq ?_
      refine JC.block ?_
      refine JC.seq ?_
      refine JC.region ?_
      refine JL.val rfl rfl rfl (.none rfl) (Ev.idxS1 rfl rfl Tryd.underlying138 Tryd.sizeOf34 (k := i) rfl (by omega)) ?_
      refine JL.val rfl rfl rfl (.none rfl) (Ev.load1 rfl Tryd.underlying34 rfl ((Rds.old (ha.mem _ rfl)).at (k := i) (u64s_get hx))) ?_
      refine JL.asg ?_
      refine JL.nil ?_
      refine JQ.thenN ?_
      refine JC.seq ?_
      refine JC.region ?_
      refine JL.mv ?_
      refine JL.val rfl rfl rfl (.none rfl) (Ev.fld 1 rfl (fun _ _ => by kernel_rfl)) ?_
      refine JL.val rfl rfl rfl (.none rfl) (Ev.load1 rfl Tryd.underlying34 rfl (Rd.own memK rfl)) ?_
      refine JL.val rfl rfl rfl (.none rfl) (Ev.bin rfl rfl geq_int) ?_
      refine JL.nil ?_
      refine JQ.thenN ?_
      refine JC.cond rfl (fun hq => ?_) (fun hq => ?_)
      · -- t26 True
        replace hq := of_decide_eq_true hq
        have hq : ¬ x.toNat < g.q.toNat := by omega
        refine JC.seq ?_
        refine JC.region ?_
        refine JL.asg ?_
        refine JL.nil ?_
        refine JQ.thenN ?_
        refine JC.ret ?_
        refine JQ.blockR ?_
        refine JQ.thenR ?_
        refine JQ.thenR ?_
        refine JQ.blockR ?_
        refine JQ.thenR ?_
        refine JQ.end1 (H' := []) (.inl rfl) rfl (.tmp rfl) ?_ ?_
        · exact Sub.k
        · first | rw [scE_bad hbad, formE_bad hbad] | rw [scE_gr hok (fun h => hq (h.1 x (List.mem_of_getElem? hx)))] | rw [scE_gr hok (fun h => hp (h.2 x (List.mem_of_getElem? hx)))] | rw [scE_ok hok hes hns]
      · -- t26 False
        replace hq := of_decide_eq_false hq
        have hq : x.toNat < g.q.toNat := by omega
        refine JC.skip ?_
        refine JQ.blockN ?_
        refine JQ.thenN ?_
        refine JC.region ?_
        refine JL.val rfl rfl rfl (.none rfl) (Ev.bin rfl rfl (add_i64 (by omega))) ?_
        refine JL.mv ?_
        refine JL.nil ?_
        refine JQ.loopN (i + 1) ?_ ?_ ?_ ?_
        · exact Keeps.k
        · exact Sub.k
        · exact ⟨by omega, all_next hall hx hq⟩
        · show es.length - (i + 1) < es.length - i; omega
    · -- t20 False
      replace hc1 := of_decide_eq_false hc1
      obtain rfl : i = es.length := by omega
      have hes := all_get hall
      refine JC.exit ?_
      refine JQ.thenE ?_
      refine JQ.thenE ?_
      refine JQ.blockE ?_
      refine JQ.thenN ?_
      refine JC.seq ?_
      refine JC.seq ?_
      refine JC.region ?_
      refine JL.mv ?_
      refine JL.val rfl rfl rfl (.none rfl) (Ev.lenS rfl Tryd.underlying138) ?_
      refine JL.mv ?_
      refine JL.nil ?_
      refine JQ.thenN ?_
      refine JC.block ?_
      refine JC.loop (X := Nat)
        (fun i => [(3, .pointer (some ⟨b3, 0, none⟩)), (28, .slice ob ns.length cb), (29, .int .i64 (ns.length : Int)), (30, .int .i64 (i : Int))])
        (fun i => [(b3, Obj.cells g.cl.toArray 53 (0, 0))])
        (fun i => i ≤ ns.length ∧ ∀ j x, j < i → ns[j]? = some x → x.toNat < g.p.toNat)
        (fun i => ns.length - i) 0 ?_ ?_ ?_ ?_
      · exact Keeps.k
      · exact Sub.k
      · exact ⟨Nat.zero_le _, fun j x hj => by omega⟩
      rintro i ⟨hi, hall⟩
      refine JC.seq ?_
      refine JC.region ?_
      refine JL.val rfl rfl rfl (.none rfl) (Ev.bin rfl rfl lss_int) ?_
      refine JL.nil ?_
      refine JQ.thenN ?_
      refine JC.seq ?_
      refine JC.cond rfl (fun hc2 => ?_) (fun hc2 => ?_)
      · -- t31 True
        replace hc2 := of_decide_eq_true hc2
        obtain ⟨b, rfl⟩ := hb.get_some (by omega)
        obtain ⟨x, hx⟩ := get_some (l := ns) (k := i) (by omega)
        refine JC.skip ?_
        refine JQ.thenN ?_
        refine JC.seq ?_
        refine JC.block ?_
        refine JC.seq ?_
        refine JC.region ?_
        refine JL.val rfl rfl rfl (.none rfl) (Ev.idxS1 rfl rfl Tryd.underlying138 Tryd.sizeOf34 (k := i) rfl (by omega)) ?_
        refine JL.val rfl rfl rfl (.none rfl) (Ev.load1 rfl Tryd.underlying34 rfl ((Rds.old (hb.mem _ rfl)).at (k := i) (u64s_get hx))) ?_
        refine JL.asg ?_
        refine JL.nil ?_
        refine JQ.thenN ?_
        refine JC.seq ?_
        refine JC.region ?_
        refine JL.mv ?_
        refine JL.val rfl rfl rfl (.none rfl) (Ev.fld 0 rfl (fun _ _ => by kernel_rfl)) ?_
        refine JL.val rfl rfl rfl (.none rfl) (Ev.load1 rfl Tryd.underlying34 rfl (Rd.own memK rfl)) ?_
        refine JL.val rfl rfl rfl (.none rfl) (Ev.bin rfl rfl geq_int) ?_
        refine JL.nil ?_
        refine JQ.thenN ?_
        refine JC.cond rfl (fun hp => ?_) (fun hp => ?_)
        · -- t37 True
          replace hp := of_decide_eq_true hp
          have hp : ¬ x.toNat < g.p.toNat := by omega
          refine JC.seq ?_
          refine JC.region ?_
          refine JL.asg ?_
          refine JL.nil ?_
          refine JQ.thenN ?_
          refine JC.ret ?_
          refine JQ.blockR ?_
          refine JQ.thenR ?_
          refine JQ.thenR ?_
          refine JQ.blockR ?_
          refine JQ.thenR ?_
          refine JQ.end1 (H' := []) (.inl rfl) rfl (.tmp rfl) ?_ ?_
          · exact Sub.k
          · first | rw [scE_bad hbad, formE_bad hbad] | rw [scE_gr hok (fun h => hq (h.1 x (List.mem_of_getElem? hx)))] | rw [scE_gr hok (fun h => hp (h.2 x (List.mem_of_getElem? hx)))] | rw [scE_ok hok hes hns]
        · -- t37 False
          replace hp := of_decide_eq_false hp
          have hq : x.toNat < g.p.toNat := by omega
          refine JC.skip ?_
          refine JQ.blockN ?_
          refine JQ.thenN ?_
          refine JC.region ?_
          refine JL.val rfl rfl rfl (.none rfl) (Ev.bin rfl rfl (add_i64 (by omega))) ?_
          refine JL.mv ?_
          refine JL.nil ?_
          refine JQ.loopN (i + 1) ?_ ?_ ?_ ?_
          · exact Keeps.k
          · exact Sub.k
          · exact ⟨by omega, all_next hall hx hq⟩
          · show ns.length - (i + 1) < ns.length - i; omega
      · -- t31 False
        replace hc2 := of_decide_eq_false hc2
        obtain rfl : i = ns.length := by omega
        have hns := all_get hall
        refine JC.exit ?_
        refine JQ.thenE ?_
        refine JQ.thenE ?_
        refine JQ.blockE ?_
        refine JQ.thenN ?_
        refine JC.seq ?_
        refine JC.region ?_
        refine JL.asg ?_
        refine JL.nil ?_
        refine JQ.thenN ?_
        refine JC.ret ?_
        refine JQ.end1 (H' := []) (.inl rfl) rfl (.tmp rfl) ?_ ?_
        · exact Sub.k
        · first | rw [scE_bad hbad, formE_bad hbad] | rw [scE_gr hok (fun h => hq (h.1 x (List.mem_of_getElem? hx)))] | rw [scE_gr hok (fun h => hp (h.2 x (List.mem_of_getElem? hx)))] | rw [scE_ok hok hes hns]

theorem skey_any (g : Gp) (x : UInt64) (w : World) :
    Calls Tryd.prog 91 #[.agg g.cl.toArray, u64 x] w (Ret w (fun v _ => v = .int .i64 (kyE g x))) := by
  refine enter (vs := [.agg g.cl.toArray, u64 x]) Tryd.func91 rfl Tryd.ntmps91 rfl ?_
  refine JC.seq ?_
  refine JC.region ?_
  refine JL.new rfl rfl rfl (.none rfl) (En.boxA rfl) (fun b2 hb2 => ?_)
  refine JL.asg ?_
  refine JL.nil ?_
  refine JQ.thenN ?_
  refine JC.seq ?_
  refine JC.seq ?_
  refine JC.region ?_
  refine JL.val rfl rfl rfl (.none rfl) (Ev.lB Tryd.underlying53 Tryd.sizeOf53) ?_
  refine JL.mv ?_
  refine JL.new rfl rfl rfl (.none rfl) (En.bsN (e := 34) rfl (fun _ => by kernel_rfl)) (fun b8 hb8 => ?_)
  refine JL.callV rfl (.none rfl) rfl Tryd.call93 (fun w1 hw1 => scheck_any g (some ⟨b8, 0, none⟩) none 1 0 [x] [] w1 (cs_block (xs := u64s [x]) hw1 (by repeat (first | exact List.Mem.head _ | refine List.Mem.tail _ ?_ | refine List.mem_append_right _ ?_)) (show 1 ≤ 1000000 by decide)) cs_nil (show 1 ≤ 1000 by decide) (show 0 ≤ 1000 by decide)) ?_
  refine JL.asg ?_
  refine JL.nil ?_
  refine JQ.thenN ?_
  refine JC.seq ?_
  refine JC.region ?_
  refine JL.mv ?_
  refine JL.val rfl rfl rfl (.none rfl) (Ev.bin rfl rfl neq_int) ?_
  refine JL.nil ?_
  refine JQ.thenN ?_
  refine JC.cond rfl (fun hc => ?_) (fun hc => ?_)
  · -- t11 True
    replace hc := of_decide_eq_true hc
    have hne : scE g [x] [] ≠ 0 := by omega
    refine JC.seq ?_
    refine JC.region ?_
    refine JL.mv ?_
    refine JL.asg ?_
    refine JL.nil ?_
    refine JQ.thenN ?_
    refine JC.ret ?_
    refine JQ.thenR ?_
    refine JQ.end1 (H' := []) (.inl rfl) rfl (.tmp rfl) ?_ ?_
    · exact Sub.k
    · first | rw [kyE_ne hne] | rw [kyE_zero hz hx0] | rw [kyE_ok hz hx0]
  · -- t11 False
    replace hc := of_decide_eq_false hc
    have hz : scE g [x] [] = 0 := by omega
    refine JC.skip ?_
    refine JQ.thenN ?_
    refine JC.seq ?_
    refine JC.seq ?_
    refine JC.region ?_
    refine JL.mv ?_
    refine JL.val rfl rfl rfl (.none rfl) (Ev.bin rfl rfl eql_int) ?_
    refine JL.nil ?_
    refine JQ.thenN ?_
    refine JC.cond rfl (fun hx => ?_) (fun hx => ?_)
    · -- t14 True
      replace hx := of_decide_eq_true hx
      have hx0 : x.toNat = 0 := by omega
      refine JC.seq ?_
      refine JC.region ?_
      refine JL.asg ?_
      refine JL.nil ?_
      refine JQ.thenN ?_
      refine JC.ret ?_
      refine JQ.thenR ?_
      refine JQ.end1 (H' := []) (.inl rfl) rfl (.tmp rfl) ?_ ?_
      · exact Sub.k
      · first | rw [kyE_ne hne] | rw [kyE_zero hz hx0] | rw [kyE_ok hz hx0]
    · -- t14 False
      replace hx := of_decide_eq_false hx
      have hx0 : ¬ x.toNat = 0 := by omega
      refine JC.skip ?_
      refine JQ.thenN ?_
      refine JC.seq ?_
      refine JC.region ?_
      refine JL.asg ?_
      refine JL.nil ?_
      refine JQ.thenN ?_
      refine JC.ret ?_
      refine JQ.end1 (H' := []) (.inl rfl) rfl (.tmp rfl) ?_ ?_
      · exact Sub.k
      · first | rw [kyE_ne hne] | rw [kyE_zero hz hx0] | rw [kyE_ok hz hx0]

theorem snonce_any (g : Gp) (x : UInt64) (oa : Option Addr) (cap : Nat) (t : List UInt8) (hok : formB g) (w : World) (hb : Bs w oa cap t) (ht : t.length ≤ 8000) (hk : KMem 1 w) (hf : FMem 0 w) :
    Calls Tryd.prog 106 #[.agg g.cl.toArray, u64 x, .slice oa t.length cap] w (Ret w (fun v _ => v = u64 (nonceR g x t))) := by
  refine enter (vs := [.agg g.cl.toArray, u64 x, .slice oa t.length cap]) Tryd.func106 rfl Tryd.ntmps106 rfl ?_
  refine JC.seq ?_
  refine JC.region ?_
  refine JL.new rfl rfl rfl (.none rfl) (En.boxA rfl) (fun b3 hb3 => ?_)
  refine JL.asg ?_
  refine JL.nil ?_
  refine JQ.thenN ?_
  refine JC.seq ?_
  refine JC.region ?_
  refine JL.mv ?_
  refine JL.new rfl rfl rfl (.none rfl) (En.bsN (e := 34) rfl (fun _ => by kernel_rfl)) (fun b14 hb14 => ?_)
  refine JL.callN rfl (.none rfl) rfl Tryd.call94 (fun w1 hw1 => sbytes_any (some ⟨b14, 0, none⟩) 1 [x] w1 (cs_block (xs := u64s [x]) hw1 (by repeat (first | exact List.Mem.head _ | refine List.Mem.tail _ ?_ | refine List.mem_append_right _ ?_)) (show 1 ≤ 1000000 by decide)) (show 1 ≤ 1000 by decide)) ?_
  rintro _ _ ⟨r1, rfl, rfl, hr1⟩
  refine JL.mv ?_
  refine JL.gen rfl rfl rfl (.none rfl) (Eg.append (r := r1) (n := (be8s [x]).length) (m := t.length) (xs := (be8s [x]).map u8) (news := t.map u8) (z := (.int .u8 0)) (s := 1) (bytes := 1) rfl rfl rfl Cut.k Tryd.underlying28 (by kernel_rfl) rfl (by decide) (by decide) hr1 (by simp) (fun a ha => Rds.old (hb.mem a ha)) (fun h => by have := hb.le; have := hb.empty h; omega) (u8s_one t) (by have := be8s_length [x]; have h8 : [x].length ≤ 3 := (by show _ ≤ 3; simp); omega)) ?_
  rintro _ _ ⟨r2, rfl, rfl, hr2, _⟩
  obtain ⟨o2, c2, e2, _, hC2⟩ := Row.vw (e := 5) hr2
  refine JL.re (d := 17) rfl e2 ?_
  have hlt : (be8s [x]).length + t.length = (be8s [x] ++ t).length := (List.length_append ..).symm
  refine JL.re (d := 17) (v' := .slice o2 (be8s [x] ++ t).length c2) rfl (congrArg (fun n => Value.slice o2 n c2) hlt) ?_
  refine JL.callV rfl (.none rfl) rfl Tryd.call66 (fun w1 hw1 => sumS_any o2 c2 (be8s [x] ++ t) w1 (Cs.bs (by rw [List.map_append]; exact hC2 w1 hw1 (fun p hp => by simp [hp])) (by rw [List.length_append])) (by rw [List.length_append, be8s_length]; show 8 * _ + _ ≤ 8192; simp; omega) (hk.old hw1) (hf.old hw1)) ?_
  refine JL.mv ?_
  refine JL.val rfl rfl rfl (.none rfl) (Ev.ex0 rfl) ?_
  refine JL.val rfl rfl rfl (.none rfl) (Ev.ex1 rfl) ?_
  refine JL.new rfl rfl rfl (.none rfl) (En.allocZ (cs := arr8 (List.replicate 32 0)) Tryd.zeroValue33 rfl) (fun b7 hb7 => ?_)
  refine JL.sto rfl rfl (.none rfl) (Es.sA Tryd.sizeOf33) ?_
  refine JL.asg ?_
  refine JL.nil ?_
  refine JQ.thenN ?_
  refine JC.seq ?_
  refine JC.region ?_
  refine JL.asg ?_
  refine JL.nil ?_
  refine JQ.thenN ?_
  refine JC.seq ?_
  refine JC.seq ?_
  refine JC.region ?_
  refine JL.val rfl rfl rfl (.none rfl) (Ev.sliceAHi rfl rfl Tryd.underlying33 Tryd.sizeOf5 (h := 8) rfl (by decide)) ?_
  refine JL.val rfl rfl rfl (.none rfl) (Ev.lenS rfl Tryd.underlying28) ?_
  refine JL.mv ?_
  refine JL.nil ?_
  refine JQ.thenN ?_
  refine JC.block ?_
  refine JC.loop (X := Nat × UInt64)
    (fun ⟨i, n⟩ => [(3, .pointer (some ⟨b3, 0, none⟩)), (9, u64 n), (21, .slice (some ⟨b7, 0, none⟩) 8 32), (22, .int .i64 8), (23, .int .i64 (i : Int))])
    (fun ⟨i, n⟩ => [(b7, Obj.cells (arr8 (sha (be8s [x] ++ t))) 33 (0, 0)), (b3, Obj.cells g.cl.toArray 53 (0, 0))])
    (fun ⟨i, n⟩ => i ≤ 8 ∧ n = hN (((sha (be8s [x] ++ t)).take 8).take i))
    (fun ⟨i, n⟩ => 8 - i) (0, 0) ?_ ?_ ?_ ?_
  · exact Keeps.k
  · exact Sub.k
  · exact ⟨Nat.zero_le _, rfl⟩
  rintro ⟨i, n⟩ ⟨hi, hn⟩
  refine JC.seq ?_
  refine JC.region ?_
  refine JL.val rfl rfl rfl (.none rfl) (Ev.bin rfl rfl lss_int) ?_
  refine JL.nil ?_
  refine JQ.thenN ?_
  refine JC.seq ?_
  refine JC.cond rfl (fun hc1 => ?_) (fun hc1 => ?_)
  · -- t24 True
    replace hc1 := of_decide_eq_true hc1
    obtain ⟨x1, hx⟩ := get_some (l := (sha (be8s [x] ++ t)).take 8) (k := i) (by rw [List.length_take, sha_length]; omega)
    have hxd : (sha (be8s [x] ++ t))[i]? = some x1 := by rw [List.getElem?_take] at hx; split at hx; exact hx; cases hx
    refine JC.skip ?_
    refine JQ.thenN ?_
    refine JC.seq ?_
    refine JC.block ?_
    refine JC.seq ?_
    refine JC.region ?_
    refine JL.val rfl rfl rfl (.none rfl) (Ev.idxS0 rfl rfl Tryd.underlying28 Tryd.sizeOf5 (k := i) rfl (by omega)) ?_
    refine JL.val rfl rfl rfl (.none rfl) (Ev.load1 rfl Tryd.underlying5 rfl (Rd.own memK (arr8_get hxd))) ?_
    refine JL.asg ?_
    refine JL.nil ?_
    refine JQ.thenN ?_
    refine JC.region ?_
    refine JL.mv ?_
    refine JL.val rfl rfl rfl (.none rfl) (Ev.bin rfl rfl (shl_u64 (n := 8) (by decide))) ?_
    refine JL.mv ?_
    refine JL.val rfl rfl rfl (.none rfl) (Ev.conv rfl (conv_u8_u64 Tryd.underlying5 Tryd.underlying34)) ?_
    refine JL.val rfl rfl rfl (.none rfl) (Ev.bin rfl rfl or_u64) ?_
    refine JL.asg ?_
    refine JL.nil ?_
    refine JQ.blockN ?_
    refine JQ.thenN ?_
    refine JC.region ?_
    refine JL.val rfl rfl rfl (.none rfl) (Ev.bin rfl rfl (add_i64 (by omega))) ?_
    refine JL.mv ?_
    refine JL.nil ?_
    refine JQ.loopN (i + 1, n <<< UInt64.ofNat 8 ||| x1.toUInt64) ?_ ?_ ?_ ?_
    · exact Keeps.k
    · exact Sub.k
    · exact ⟨by omega, by rw [hN_succ hx, hn]⟩
    · show 8 - (i + 1) < 8 - i; omega
  · -- t24 False
    replace hc1 := of_decide_eq_false hc1
    obtain rfl : i = 8 := by omega
    refine JC.exit ?_
    refine JQ.thenE ?_
    refine JQ.thenE ?_
    refine JQ.blockE ?_
    refine JQ.thenN ?_
    refine JC.seq ?_
    refine JC.region ?_
    refine JL.mv ?_
    refine JL.val rfl rfl rfl (.none rfl) (Ev.fld 1 rfl (fun _ _ => by kernel_rfl)) ?_
    refine JL.val rfl rfl rfl (.none rfl) (Ev.load1 rfl Tryd.underlying34 rfl (Rd.own memK rfl)) ?_
    refine JL.val rfl rfl rfl (.none rfl) (Ev.bin rfl rfl (sub_u64 (y := 1))) ?_
    refine JL.val rfl rfl rfl (.none rfl) (Ev.bin rfl rfl (rem_u64 (ne_zero64 (by rw [sub1 (by have := form_q hok; omega)]; have := form_q hok; omega)))) ?_
    refine JL.val rfl rfl rfl (.none rfl) (Ev.bin rfl rfl (add_u64 (y := 1))) ?_
    refine JL.asg ?_
    refine JL.nil ?_
    refine JQ.thenN ?_
    refine JC.ret ?_
    refine JQ.end1 (H' := []) (.inl rfl) rfl (.tmp rfl) ?_ ?_
    · exact Sub.k
    · rw [hN_all (by rw [List.length_take]; omega)] at hn; rw [nonceR, ← be8s_one, hn]

theorem sChallenge_any (g : Gp) (y r : UInt64) (oa : Option Addr) (cap : Nat) (t : List UInt8) (w : World) (hb : Bs w oa cap t) (ht : t.length ≤ 8000) (hk : KMem 1 w) (hf : FMem 0 w) :
    Calls Tryd.prog 55 #[.agg g.cl.toArray, u64 y, u64 r, .slice oa t.length cap] w (Ret w (fun v _ => v = .tuple #[u64 (if scE g [] [y, r] = 0 then chalR g y r t else 0), .int .i64 (scE g [] [y, r])])) := by
  refine enter (vs := [.agg g.cl.toArray, u64 y, u64 r, .slice oa t.length cap]) Tryd.func55 rfl Tryd.ntmps55 rfl ?_
  refine JC.seq ?_
  refine JC.region ?_
  refine JL.new rfl rfl rfl (.none rfl) (En.boxA rfl) (fun b4 hb4 => ?_)
  refine JL.asg ?_
  refine JL.asg ?_
  refine JL.nil ?_
  refine JQ.thenN ?_
  refine JC.seq ?_
  refine JC.seq ?_
  refine JC.region ?_
  refine JL.val rfl rfl rfl (.none rfl) (Ev.lB Tryd.underlying53 Tryd.sizeOf53) ?_
  refine JL.mv ?_
  refine JL.mv ?_
  refine JL.new rfl rfl rfl (.none rfl) (En.bsN (e := 34) rfl (fun _ => by kernel_rfl)) (fun b16 hb16 => ?_)
  refine JL.callV rfl (.none rfl) rfl Tryd.call93 (fun w1 hw1 => scheck_any g none (some ⟨b16, 0, none⟩) 0 2 [] [y, r] w1 cs_nil (cs_block (xs := u64s [y, r]) hw1 (by repeat (first | exact List.Mem.head _ | refine List.Mem.tail _ ?_ | refine List.mem_append_right _ ?_)) (show 2 ≤ 1000000 by decide)) (show 0 ≤ 1000 by decide) (show 2 ≤ 1000 by decide)) ?_
  refine JL.asg ?_
  refine JL.nil ?_
  refine JQ.thenN ?_
  refine JC.seq ?_
  refine JC.region ?_
  refine JL.mv ?_
  refine JL.val rfl rfl rfl (.none rfl) (Ev.bin rfl rfl neq_int) ?_
  refine JL.nil ?_
  refine JQ.thenN ?_
  refine JC.cond rfl (fun hc => ?_) (fun hc => ?_)
  · -- t19 True
    replace hc := of_decide_eq_true hc
    have hne : ¬ scE g [] [y, r] = 0 := by omega
    refine JC.seq ?_
    refine JC.region ?_
    refine JL.mv ?_
    refine JL.asg ?_
    refine JL.asg ?_
    refine JL.nil ?_
    refine JQ.thenN ?_
    refine JC.ret ?_
    refine JQ.thenR ?_
    refine JQ.end2 (H' := []) (.inl rfl) rfl (.tmp rfl) (.tmp rfl) ?_ ?_
    · exact Sub.k
    · rw [if_neg hne]; rfl
  · -- t19 False
    replace hc := of_decide_eq_false hc
    have hz : scE g [] [y, r] = 0 := by omega
    obtain ⟨hok, _, hlt⟩ := scE_zero hz
    refine JC.skip ?_
    refine JQ.thenN ?_
    refine JC.seq ?_
    refine JC.seq ?_
    refine JC.region ?_
    refine JL.mv ?_
    refine JL.val rfl rfl rfl (.none rfl) (Ev.lenS rfl Tryd.underlying28) ?_
    refine JL.val rfl rfl rfl (.none rfl) (Ev.bin rfl rfl gtr_int) ?_
    refine JL.nil ?_
    refine JQ.thenN ?_
    refine JC.knowF rfl ?_ ?_
    · exact decide_eq_false (by omega)
    refine JC.skip ?_
    refine JQ.thenN ?_
    refine JC.seq ?_
    refine JC.region ?_
    refine JL.mv ?_
    refine JL.mv ?_
    refine JL.new rfl rfl rfl (.none rfl) (En.bsN (e := 34) rfl (fun _ => by kernel_rfl)) (fun b27 hb27 => ?_)
    refine JL.callN rfl (.none rfl) rfl Tryd.call94 (fun w1 hw1 => sbytes_any (some ⟨b27, 0, none⟩) 2 [y, r] w1 (cs_block (xs := u64s [y, r]) hw1 (by repeat (first | exact List.Mem.head _ | refine List.Mem.tail _ ?_ | refine List.mem_append_right _ ?_)) (show 2 ≤ 1000000 by decide)) (show 2 ≤ 1000 by decide)) ?_
    rintro _ _ ⟨r1, rfl, rfl, hr1⟩
    refine JL.mv ?_
    refine JL.gen rfl rfl rfl (.none rfl) (Eg.append (r := r1) (n := (be8s [y, r]).length) (m := t.length) (xs := (be8s [y, r]).map u8) (news := t.map u8) (z := (.int .u8 0)) (s := 1) (bytes := 1) rfl rfl rfl Cut.k Tryd.underlying28 (by kernel_rfl) rfl (by decide) (by decide) hr1 (by simp) (fun a ha => Rds.old (hb.mem a ha)) (fun h => by have := hb.le; have := hb.empty h; omega) (u8s_one t) (by have := be8s_length [y, r]; have h8 : [y, r].length ≤ 3 := (by show _ ≤ 3; simp); omega)) ?_
    rintro _ _ ⟨r2, rfl, rfl, hr2, _⟩
    obtain ⟨o2, c2, e2, _, hC2⟩ := Row.vw (e := 5) hr2
    refine JL.re (d := 30) rfl e2 ?_
    have hlt : (be8s [y, r]).length + t.length = (be8s [y, r] ++ t).length := (List.length_append ..).symm
    refine JL.re (d := 30) (v' := .slice o2 (be8s [y, r] ++ t).length c2) rfl (congrArg (fun n => Value.slice o2 n c2) hlt) ?_
    refine JL.callV rfl (.none rfl) rfl Tryd.call66 (fun w1 hw1 => sumS_any o2 c2 (be8s [y, r] ++ t) w1 (Cs.bs (by rw [List.map_append]; exact hC2 w1 hw1 (fun p hp => by simp [hp])) (by rw [List.length_append])) (by rw [List.length_append, be8s_length]; show 8 * _ + _ ≤ 8192; simp; omega) (hk.old hw1) (hf.old hw1)) ?_
    refine JL.mv ?_
    refine JL.val rfl rfl rfl (.none rfl) (Ev.ex0 rfl) ?_
    refine JL.val rfl rfl rfl (.none rfl) (Ev.ex1 rfl) ?_
    refine JL.new rfl rfl rfl (.none rfl) (En.allocZ (cs := arr8 (List.replicate 32 0)) Tryd.zeroValue33 rfl) (fun b11 hb11 => ?_)
    refine JL.sto rfl rfl (.none rfl) (Es.sA Tryd.sizeOf33) ?_
    refine JL.asg ?_
    refine JL.nil ?_
    refine JQ.thenN ?_
    refine JC.seq ?_
    refine JC.seq ?_
    refine JC.region ?_
    refine JL.mv ?_
    refine JL.val rfl rfl rfl (.none rfl) (Ev.bin rfl rfl neq_int) ?_
    refine JL.nil ?_
    refine JQ.thenN ?_
    refine JC.knowF rfl ?_ ?_
    · first | rfl | exact decide_eq_false (by simp)
    refine JC.skip ?_
    refine JQ.thenN ?_
    refine JC.seq ?_
    refine JC.region ?_
    refine JL.val rfl rfl rfl (.none rfl) (Ev.lB Tryd.underlying53 Tryd.sizeOf53) ?_
    refine JL.val rfl rfl rfl (.none rfl) (Ev.lB Tryd.underlying33 Tryd.sizeOf33) ?_
    refine JL.callV rfl (.none rfl) rfl Tryd.call95 (fun w1 hw1 => gFromDigest_any g ⟨sha (be8s [y, r] ++ t), sha_length _⟩ w1) ?_
    refine JL.val rfl rfl rfl (.none rfl) (Ev.ex0 rfl) ?_
    refine JL.val rfl rfl rfl (.none rfl) (Ev.ex1 rfl) ?_
    refine JL.asg ?_
    refine JL.asg ?_
    refine JL.nil ?_
    refine JQ.thenN ?_
    refine JC.ret ?_
    refine JQ.end2 (H' := []) (.inl rfl) rfl (.tmp rfl) (.tmp rfl) ?_ ?_
    · exact Sub.k
    · rw [if_pos hz, hz, formE_ok hok, fdg, if_pos hok, chalR, be8s_two]

theorem sRespond_any (g : Gp) (x k c : UInt64) (w : World) :
    Calls Tryd.prog 107 #[.agg g.cl.toArray, u64 x, u64 k, u64 c] w (Ret w (fun v _ => v = .tuple #[u64 (if scE g [x, k, c] [] = 0 then (k + c * x % g.q) % g.q else 0), .int .i64 (scE g [x, k, c] [])])) := by
  refine enter (vs := [.agg g.cl.toArray, u64 x, u64 k, u64 c]) Tryd.func107 rfl Tryd.ntmps107 rfl ?_
  refine JC.seq ?_
  refine JC.region ?_
  refine JL.new rfl rfl rfl (.none rfl) (En.boxA rfl) (fun b4 hb4 => ?_)
  refine JL.asg ?_
  refine JL.asg ?_
  refine JL.nil ?_
  refine JQ.thenN ?_
  refine JC.seq ?_
  refine JC.seq ?_
  refine JC.region ?_
  refine JL.val rfl rfl rfl (.none rfl) (Ev.lB Tryd.underlying53 Tryd.sizeOf53) ?_
  refine JL.mv ?_
  refine JL.mv ?_
  refine JL.mv ?_
  refine JL.new rfl rfl rfl (.none rfl) (En.bsN (e := 34) rfl (fun _ => by kernel_rfl)) (fun b17 hb17 => ?_)
  refine JL.callV rfl (.none rfl) rfl Tryd.call93 (fun w1 hw1 => scheck_any g (some ⟨b17, 0, none⟩) none 3 0 [x, k, c] [] w1 (cs_block (xs := u64s [x, k, c]) hw1 (by repeat (first | exact List.Mem.head _ | refine List.Mem.tail _ ?_ | refine List.mem_append_right _ ?_)) (show 3 ≤ 1000000 by decide)) cs_nil (show 3 ≤ 1000 by decide) (show 0 ≤ 1000 by decide)) ?_
  refine JL.asg ?_
  refine JL.nil ?_
  refine JQ.thenN ?_
  refine JC.seq ?_
  refine JC.region ?_
  refine JL.mv ?_
  refine JL.val rfl rfl rfl (.none rfl) (Ev.bin rfl rfl neq_int) ?_
  refine JL.nil ?_
  refine JQ.thenN ?_
  refine JC.cond rfl (fun hc => ?_) (fun hc => ?_)
  · -- t20 True
    replace hc := of_decide_eq_true hc
    have hne : ¬ scE g [x, k, c] [] = 0 := by omega
    refine JC.seq ?_
    refine JC.region ?_
    refine JL.mv ?_
    refine JL.asg ?_
    refine JL.asg ?_
    refine JL.nil ?_
    refine JQ.thenN ?_
    refine JC.ret ?_
    refine JQ.thenR ?_
    refine JQ.end2 (H' := []) (.inl rfl) rfl (.tmp rfl) (.tmp rfl) ?_ ?_
    · exact Sub.k
    · rw [if_neg hne]; rfl
  · -- t20 False
    replace hc := of_decide_eq_false hc
    have hz : scE g [x, k, c] [] = 0 := by omega
    obtain ⟨hok, hlt, _⟩ := scE_zero hz
    have hg1 : gcE g g.q [c, x] = 0 := gcE_ok hok (fun z hz => by simp only [List.mem_cons, List.not_mem_nil, or_false] at hz; rcases hz with rfl | rfl; exact hlt _ (by simp); exact hlt _ (by simp))
    have hg2 : gcE g g.q [k, c * x % g.q] = 0 := gcE_ok hok (fun z hz => by simp only [List.mem_cons, List.not_mem_nil, or_false] at hz; rcases hz with rfl | rfl; exact hlt _ (by simp); rw [UInt64.toNat_mod]; exact Nat.mod_lt _ (by have := form_q hok; omega))
    refine JC.skip ?_
    refine JQ.thenN ?_
    refine JC.seq ?_
    refine JC.region ?_
    refine JL.val rfl rfl rfl (.none rfl) (Ev.lB Tryd.underlying53 Tryd.sizeOf53) ?_
    refine JL.mv ?_
    refine JL.mv ?_
    refine JL.callV rfl (.none rfl) rfl Tryd.call134 (fun w1 hw1 => gMulExp_any g c x w1) ?_
    refine JL.mv ?_
    refine JL.val rfl rfl rfl (.none rfl) (Ev.ex0 rfl) ?_
    refine JL.val rfl rfl rfl (.none rfl) (Ev.ex1 rfl) ?_
    refine JL.asg ?_
    refine JL.asg ?_
    refine JL.nil ?_
    refine JQ.thenN ?_
    refine JC.seq ?_
    refine JC.region ?_
    refine JL.re (d := 11) (v' := u64 (c * x % g.q)) rfl (congrArg u64 (if_pos hg1)) ?_
    refine JL.val rfl rfl rfl (.none rfl) (Ev.lB Tryd.underlying53 Tryd.sizeOf53) ?_
    refine JL.mv ?_
    refine JL.mv ?_
    refine JL.callV rfl (.none rfl) rfl Tryd.call135 (fun w1 hw1 => gAddExp_any g k (c * x % g.q) w1) ?_
    refine JL.val rfl rfl rfl (.none rfl) (Ev.ex0 rfl) ?_
    refine JL.val rfl rfl rfl (.none rfl) (Ev.ex1 rfl) ?_
    refine JL.asg ?_
    refine JL.asg ?_
    refine JL.nil ?_
    refine JQ.thenN ?_
    refine JC.ret ?_
    refine JQ.end2 (H' := []) (.inl rfl) rfl (.tmp rfl) (.tmp rfl) ?_ ?_
    · exact Sub.k
    · rw [if_pos hz, hz, if_pos hg2, hg2]

theorem sSign_any (g : Gp) (x : UInt64) (oa : Option Addr) (cap : Nat) (t : List UInt8) (w : World) (hb : Bs w oa cap t) (ht : t.length ≤ 8000) (hk : KMem 1 w) (hf : FMem 0 w) :
    Calls Tryd.prog 65 #[.agg g.cl.toArray, u64 x, .slice oa t.length cap] w (Ret w (fun v _ => v = .tuple #[.agg #[u64 (if kyE g x = 0 then (sigR g x t).1 else 0), u64 (if kyE g x = 0 then (sigR g x t).2 else 0)], .int .i64 (kyE g x)])) := by
  refine enter (vs := [.agg g.cl.toArray, u64 x, .slice oa t.length cap]) Tryd.func65 rfl Tryd.ntmps65 rfl ?_
  refine JC.seq ?_
  refine JC.region ?_
  refine JL.new rfl rfl rfl (.none rfl) (En.boxA rfl) (fun b3 hb3 => ?_)
  refine JL.new rfl rfl rfl (.none rfl) (En.allocZ (cs := #[u64 0, u64 0]) Tryd.zeroValue36 rfl) (fun b6 hb6 => ?_)
  refine JL.asg ?_
  refine JL.nil ?_
  refine JQ.thenN ?_
  refine JC.seq ?_
  refine JC.seq ?_
  refine JC.region ?_
  refine JL.val rfl rfl rfl (.none rfl) (Ev.lB Tryd.underlying53 Tryd.sizeOf53) ?_
  refine JL.mv ?_
  refine JL.callV rfl (.none rfl) rfl Tryd.call91 (fun w1 hw1 => skey_any g x w1) ?_
  refine JL.asg ?_
  refine JL.nil ?_
  refine JQ.thenN ?_
  refine JC.seq ?_
  refine JC.region ?_
  refine JL.mv ?_
  refine JL.val rfl rfl rfl (.none rfl) (Ev.bin rfl rfl neq_int) ?_
  refine JL.nil ?_
  refine JQ.thenN ?_
  refine JC.cond rfl (fun hc => ?_) (fun hc => ?_)
  · -- t22 True
    replace hc := of_decide_eq_true hc
    have hne : ¬ kyE g x = 0 := by omega
    refine JC.seq ?_
    refine JC.region ?_
    refine JL.val rfl rfl rfl (.none rfl) (Ev.build (parts := []) (vs := []) (cs := #[u64 0, u64 0]) (fun _ _ => rfl) (fun _ => by kernel_rfl)) ?_
    refine JL.mv ?_
    refine JL.sto rfl rfl (.none rfl) (Es.storeA rfl rfl Tryd.sizeOf36 Upd.k rfl rfl (sig_one _ _)) ?_
    refine JL.asg ?_
    refine JL.nil ?_
    refine JQ.thenN ?_
    refine JC.ret ?_
    refine JQ.thenR ?_
    refine JQ.end2 (H' := []) (.inl rfl) rfl (.agg rfl memK Tryd.underlying36 rfl Tryd.sizeOf36 rfl) (.tmp rfl) ?_ ?_
    · exact Sub.k
    · first | (rw [if_neg hne, if_neg hne]; done) | (rw [if_neg hne, if_neg hne]; rfl)
  · -- t22 False
    replace hc := of_decide_eq_false hc
    have hz : kyE g x = 0 := by omega
    obtain ⟨hok, hxq, hx0⟩ := kyE_form hz
    have hp0 : 0 < g.p.toNat := by obtain ⟨f1, _⟩ := hok; omega
    have hgc := gcE_g hok
    have hkq := nonce_lt (x := x) (t := t) hok
    have hsc : scE g [] [(pw g.g x g.p), (pw g.g (nonceR g x t) g.p)] = 0 := scE_ok hok (fun z hz => by cases hz) (fun z hz => by simp only [List.mem_cons, List.not_mem_nil, or_false] at hz; rcases hz with rfl | rfl; exact pw_lt _ _ hp0; exact pw_lt _ _ hp0)
    have hcq : (chalR g (pw g.g x g.p) (pw g.g (nonceR g x t) g.p) t).toNat < g.q.toNat := chal_lt hok
    have hsr : scE g [x, (nonceR g x t), (chalR g (pw g.g x g.p) (pw g.g (nonceR g x t) g.p) t)] [] = 0 := scE_ok hok (fun z hz => by simp only [List.mem_cons, List.not_mem_nil, or_false] at hz; rcases hz with rfl | rfl | rfl; exact hxq; exact hkq; exact hcq) (fun z hz => by cases hz)
    refine JC.skip ?_
    refine JQ.thenN ?_
    refine JC.seq ?_
    refine JC.seq ?_
    refine JC.region ?_
    refine JL.mv ?_
    refine JL.val rfl rfl rfl (.none rfl) (Ev.lenS rfl Tryd.underlying28) ?_
    refine JL.val rfl rfl rfl (.none rfl) (Ev.bin rfl rfl gtr_int) ?_
    refine JL.nil ?_
    refine JQ.thenN ?_
    refine JC.knowF rfl ?_ ?_
    · exact decide_eq_false (by omega)
    refine JC.skip ?_
    refine JQ.thenN ?_
    refine JC.seq ?_
    refine JC.region ?_
    refine JL.val rfl rfl rfl (.none rfl) (Ev.lB Tryd.underlying53 Tryd.sizeOf53) ?_
    refine JL.mv ?_
    refine JL.mv ?_
    refine JL.callV rfl (.none rfl) rfl Tryd.call106 (fun w1 hw1 => snonce_any g x oa cap t hok w1 (hb.old hw1) ht (hk.old hw1) (hf.old hw1)) ?_
    refine JL.asg ?_
    refine JL.nil ?_
    refine JQ.thenN ?_
    refine JC.seq ?_
    refine JC.region ?_
    refine JL.val rfl rfl rfl (.none rfl) (Ev.lB Tryd.underlying53 Tryd.sizeOf53) ?_
    refine JL.val rfl rfl rfl (.none rfl) (Ev.fld 2 rfl (fun _ _ => by kernel_rfl)) ?_
    refine JL.val rfl rfl rfl (.none rfl) (Ev.load1 rfl Tryd.underlying34 rfl (Rd.own memK rfl)) ?_
    refine JL.mv ?_
    refine JL.callV rfl (.none rfl) rfl Tryd.call92 (fun w1 hw1 => gPow_any g g.g x w1) ?_
    refine JL.mv ?_
    refine JL.val rfl rfl rfl (.none rfl) (Ev.ex0 rfl) ?_
    refine JL.val rfl rfl rfl (.none rfl) (Ev.ex1 rfl) ?_
    refine JL.asg ?_
    refine JL.asg ?_
    refine JL.nil ?_
    refine JQ.thenN ?_
    refine JC.seq ?_
    refine JC.region ?_
    refine JL.val rfl rfl rfl (.none rfl) (Ev.lB Tryd.underlying53 Tryd.sizeOf53) ?_
    refine JL.val rfl rfl rfl (.none rfl) (Ev.fld 2 rfl (fun _ _ => by kernel_rfl)) ?_
    refine JL.val rfl rfl rfl (.none rfl) (Ev.load1 rfl Tryd.underlying34 rfl (Rd.own memK rfl)) ?_
    refine JL.mv ?_
    refine JL.callV rfl (.none rfl) rfl Tryd.call92 (fun w1 hw1 => gPow_any g g.g (nonceR g x t) w1) ?_
    refine JL.mv ?_
    refine JL.val rfl rfl rfl (.none rfl) (Ev.ex0 rfl) ?_
    refine JL.val rfl rfl rfl (.none rfl) (Ev.ex1 rfl) ?_
    refine JL.asg ?_
    refine JL.asg ?_
    refine JL.nil ?_
    refine JQ.thenN ?_
    refine JC.seq ?_
    refine JC.region ?_
    refine JL.re (d := 10) (v' := u64 (pw g.g x g.p)) rfl (congrArg u64 (if_pos hgc)) ?_
    refine JL.re (d := 12) (v' := u64 (pw g.g (nonceR g x t) g.p)) rfl (congrArg u64 (if_pos hgc)) ?_
    refine JL.val rfl rfl rfl (.none rfl) (Ev.lB Tryd.underlying53 Tryd.sizeOf53) ?_
    refine JL.mv ?_
    refine JL.mv ?_
    refine JL.mv ?_
    refine JL.callV rfl (.none rfl) rfl Tryd.call55 (fun w1 hw1 => sChallenge_any g (pw g.g x g.p) (pw g.g (nonceR g x t) g.p) oa cap t w1 (hb.old hw1) ht (hk.old hw1) (hf.old hw1)) ?_
    refine JL.mv ?_
    refine JL.val rfl rfl rfl (.none rfl) (Ev.ex0 rfl) ?_
    refine JL.val rfl rfl rfl (.none rfl) (Ev.ex1 rfl) ?_
    refine JL.asg ?_
    refine JL.asg ?_
    refine JL.nil ?_
    refine JQ.thenN ?_
    refine JC.seq ?_
    refine JC.region ?_
    refine JL.re (d := 14) (v' := u64 (chalR g (pw g.g x g.p) (pw g.g (nonceR g x t) g.p) t)) rfl (congrArg u64 (if_pos hsc)) ?_
    refine JL.val rfl rfl rfl (.none rfl) (Ev.lB Tryd.underlying53 Tryd.sizeOf53) ?_
    refine JL.mv ?_
    refine JL.mv ?_
    refine JL.mv ?_
    refine JL.callV rfl (.none rfl) rfl Tryd.call107 (fun w1 hw1 => sRespond_any g x (nonceR g x t) (chalR g (pw g.g x g.p) (pw g.g (nonceR g x t) g.p) t) w1) ?_
    refine JL.mv ?_
    refine JL.val rfl rfl rfl (.none rfl) (Ev.ex0 rfl) ?_
    refine JL.val rfl rfl rfl (.none rfl) (Ev.ex1 rfl) ?_
    refine JL.asg ?_
    refine JL.asg ?_
    refine JL.nil ?_
    refine JQ.thenN ?_
    refine JC.seq ?_
    refine JC.region ?_
    refine JL.re (d := 16) (v' := u64 (((nonceR g x t) + (chalR g (pw g.g x g.p) (pw g.g (nonceR g x t) g.p) t) * x % g.q) % g.q)) rfl (congrArg u64 (if_pos hsr)) ?_
    refine JL.re (d := 17) (v' := .int .i64 0) rfl (congrArg (Value.int .i64) hsr) ?_
    refine JL.mv ?_
    refine JL.mv ?_
    refine JL.val rfl rfl rfl (.none rfl) (Ev.bu2 rfl rfl rfl rfl Tryd.underlying36 (fun _ => by kernel_rfl) Tryd.zeroValue36) ?_
    refine JL.mv ?_
    refine JL.sto rfl rfl (.none rfl) (Es.storeA rfl rfl Tryd.sizeOf36 Upd.k rfl rfl (sig_one _ _)) ?_
    refine JL.asg ?_
    refine JL.nil ?_
    refine JQ.thenN ?_
    refine JC.ret ?_
    refine JQ.end2 (H' := []) (.inl rfl) rfl (.agg rfl memK Tryd.underlying36 rfl Tryd.sizeOf36 rfl) (.tmp rfl) ?_ ?_
    · exact Sub.k
    · rw [if_pos hz, if_pos hz, hz]; rfl

end Go.Proofs.YtopaednfjjjnbaaDoor
