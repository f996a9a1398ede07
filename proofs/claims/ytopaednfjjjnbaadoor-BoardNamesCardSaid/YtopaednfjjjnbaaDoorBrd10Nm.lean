/-
  Boards: the law of names: examples, kinds, limits, errors.
-/
import Derived.Test.YtopaednfjjjnbaaDoorBrd9Nm
import Derived.Test.YtopaednfjjjnbaaDoorBrd7Nm
import Derived.Test.YtopaednfjjjnbaaDoorBrd5Nm
import Derived.Test.YtopaednfjjjnbaaDoorSgn1Nm
namespace Go.Proofs.YtopaednfjjjnbaaDoor
open Go Go.RowKit
set_option maxRecDepth 100000

def h258 : Hd := ⟨258, zeroD, 0, 0⟩
def bigE : List UInt8 := List.replicate 8001 0
theorem bigE_len : bigE.length = 8001 := List.length_replicate
theorem bigE_cl (b : Nat) : Value.agg #[u8 1, .slice (some ⟨b, 0, none⟩) 8001 8001] = .agg (Et.cl ⟨1, some ⟨b, 0, none⟩, 8001, bigE⟩).toArray := by
  show _ = Value.agg #[u8 1, .slice (some ⟨b, 0, none⟩) bigE.length 8001]
  rw [bigE_len]
theorem bs_big {w0 w1 : World} {H : Blocks} {b : Nat} {e : TypeId} (hw : Hp w0 H w1) (hm : (b, Obj.cells (arr8 (List.replicate 8001 0)) e (0, 0)) ∈ H) : Bs w1 (some ⟨b, 0, none⟩) 8001 bigE :=
  ⟨Nat.le_of_eq bigE_len, (by decide : 8001 ≤ maxLen), fun h => (by cases h), fun a ha => by
    cases ha
    exact Mem.own hw hm fun j v hj => by
      rw [Nat.zero_add, arr8, List.getElem?_toArray]
      exact hj⟩
def zeE : Et := ⟨0, none, 0, []⟩
def enE : Et := ⟨13, none, 0, []⟩
def fullE (i : Nat) : List Et := List.replicate i enE ++ List.replicate (1024 - i) zeE
theorem fullE_len {i : Nat} (h : i ≤ 1024) : (fullE i).length = 1024 := by
  rw [fullE, List.length_append, List.length_replicate, List.length_replicate]
  omega
theorem fullE_all {i : Nat} : ∀ x ∈ fullE i, x.o = none ∧ x.cap = 0 ∧ x.l = [] := fun x hx => by
  rcases List.mem_append.1 hx with h | h
  · rw [List.eq_of_mem_replicate h]; exact ⟨rfl, rfl, rfl⟩
  · rw [List.eq_of_mem_replicate h]; exact ⟨rfl, rfl, rfl⟩
theorem fullE_set {i : Nat} (h : i < 1024) : (ef (fullE i)).toArray.setIfInBounds (i * 2 + 0) (.int .u8 13) = (ef (fullE (i + 1))).toArray := by
  have e1 : List.replicate (1024 - i) zeE = zeE :: List.replicate (1024 - (i + 1)) zeE := by
    rw [← List.replicate_succ, show 1024 - (i + 1) + 1 = 1024 - i by omega]
  have e2 : fullE (i + 1) = List.replicate i enE ++ enE :: List.replicate (1024 - (i + 1)) zeE := by
    rw [fullE, List.replicate_succ', List.append_assoc]
    rfl
  have e3 : ∀ y : Et, ∀ t, ef (List.replicate i enE ++ y :: t) = ef (List.replicate i enE) ++ (y.cl ++ ef t) := fun y t => by
    rw [ef_append]
    rfl
  have e4 : i * 2 + 0 = i * 2 := rfl
  rw [e2, e3, fullE, e1, e3, List.setIfInBounds_toArray, e4, List.set_append_right _ _ (by rw [ef_length, List.length_replicate]; exact Nat.le_refl _), ef_length, List.length_replicate, Nat.sub_self]
  rfl
theorem fullE_ok : okB ((fullE 1024).map Et.e) := okB_mk (by rw [fullE_len (Nat.le_refl _)]; exact Nat.le_refl _) fun x hx => by
  have h2 : x = enE := by
    rcases List.mem_append.1 hx with h | h
    · exact List.eq_of_mem_replicate h
    · exact absurd h (by simp)
  rw [h2]
  decide
theorem bd_full {w0 w1 : World} {H : Blocks} {b : Nat} {e : TypeId} (hw : Hp w0 H w1) (hm : (b, Obj.cells (ef (fullE 1024)).toArray e (0, 0)) ∈ H) : Bd w1 (some ⟨b, 0, none⟩) 1024 (fullE 1024) :=
  ⟨⟨Nat.le_of_eq (fullE_len (Nat.le_refl _)), (by decide : 1024 ≤ maxLen), fun h => (by cases h), fun a ha => by
    cases ha
    exact Mem.own hw hm fun j v hj => by simpa using hj⟩, fun x hx => by
    obtain ⟨h1, h2, h3⟩ := fullE_all x hx
    rw [h1, h2, h3]
    exact bs_nil⟩
theorem bd_zero {w0 w1 : World} {H : Blocks} {b n : Nat} {e : TypeId} (hw : Hp w0 H w1) (hm : (b, Obj.cells (ef (List.replicate n zeE)).toArray e (0, 0)) ∈ H) (hn : n ≤ 1000) : Bd w1 (some ⟨b, 0, none⟩) n (List.replicate n zeE) :=
  ⟨⟨Nat.le_of_eq List.length_replicate, Nat.le_trans hn (by decide), fun h => (by cases h), fun a ha => by
    cases ha
    exact Mem.own hw hm fun j v hj => by simpa using hj⟩, fun x hx => by
    rw [List.eq_of_mem_replicate hx]
    exact bs_nil⟩
theorem madeCells_two {a b : Value} (n : Nat) : madeCells #[a, b] (n * 2) = ((List.replicate n [a, b]).flatten).toArray := by
  induction n with
  | zero => simp [madeCells]
  | succ n ih =>
    have h1 : madeCells #[a, b] ((n + 1) * 2) = madeCells #[a, b] (n * 2) ++ #[a, b] := by
      apply Array.ext
      · simp [madeCells]; omega
      · intro i h1 h2
        simp only [madeCells, Array.getElem_map, Array.getElem_range, Array.getElem_append]
        split
        · rfl
        · rename_i h3
          simp only [madeCells, Array.size_map, Array.size_range] at h3 h1
          rcases Nat.lt_or_ge i (n * 2 + 1) with h4 | h4
          · obtain rfl : i = n * 2 := by omega
            simp
          · obtain rfl : i = n * 2 + 1 := by omega
            simp [Nat.add_mod]
    rw [h1, ih, List.replicate_succ', List.flatten_append]
    simp
section
variable {c : Cx} {σ : Slots} {H : Blocks} {ty : TypeId} {pos : String} {af : Array Edge} {gd : Option (Nat × Bool)} {dst : Option Nat}
/-- 'make([]Entry, n)'. -/
theorem En.makeE {T e : TypeId} {x y : Operand} {k : IntKind} {n : Nat} (hx : ev σ x = some (.int k (n : Int))) (hy : ev σ y = some (.int k (n : Int))) (hT : c.P.underlying T = some (.slice e))
    (hi : (c.P.info? e).map (fun i => (i.zero, i.size, i.bytes)) = some (some (.agg #[.int .u8 0, .slice none 0 0]), 2, 32)) (hn : n ≤ 100000) :
    En c σ H ⟨dst, .makeSlice T x y, ty, pos, af, gd⟩ (fun b => .slice (some ⟨b, 0, none⟩) n n) (.cells (ef (List.replicate n zeE)).toArray e (0, 0)) := fun A w hf _ => by
  obtain ⟨i, hi', hz', hsize, hby⟩ := info_parts hi
  have e0 : execOp A.eval ⟨dst, .makeSlice T x y, ty, pos, af, gd⟩ = (do pure (Next.value (← Instr.makeSlice T (A.eval x) (A.eval y)))) := rfl
  rw [e0, hf.ev hx, hf.ev hy]
  have h := run_makeSlice (P := c.P) w T e i (.agg #[.int .u8 0, .slice none 0 0]) hT hi' hz' k k (n : Int) (n : Int) (by omega) (by omega) (by rw [hsize]; omega) (by rw [hby]; omega) (by omega)
  have hc : madeCells (Value.agg #[.int .u8 0, .slice none 0 0]).cells ((n : Int).toNat * i.size) = (ef (List.replicate n zeE)).toArray := by
    rw [hsize]
    have h2 := madeCells_two (a := .int .u8 0) (b := .slice none 0 0) n
    have h3 : (List.replicate n [Value.int .u8 0, .slice none 0 0]).flatten = ef (List.replicate n zeE) := by
      rw [ef, List.flatMap_def, List.map_replicate]
      rfl
    rw [h3] at h2
    exact h2
  rw [hc] at h
  simp [h]
end
theorem ad_names : adV ([].map Et.e) (5, [1]) = [(5, [1])] := by decide
theorem nm_prove : bpE [(5, [1])] 1 = 2 := by decide +kernel
theorem nm_extend : bxE [(5, [1])] 0 = 2 := by decide +kernel
theorem nm_big : adE [(5, [1])] (1, bigE) = 2 := (ad_2 (by decide) (by
  have h : ¬ bigE.length ≤ 8000 := by rw [bigE_len]; decide
  simp [okE, h])).2
theorem nm_full : adE ((fullE 1024).map Et.e) (5, []) = 9 := (ad_3 fullE_ok (by decide) (by rw [List.length_map, fullE_len (Nat.le_refl _)])).2
theorem nm_sign : sgE ⟨1000000007, 500000003, 4⟩ 0 [(5, [1])] = 2 := by decide +kernel

set_option maxHeartbeats 4000000 in
theorem lawBNames_any (w : World) (hk : KMem 1 w) (hf : FMem 0 w) :
    Calls Tryd.prog 3 #[] w (Ret w (fun v _ => v = .bool true)) := by
  refine enter (vs := []) Tryd.func3 rfl Tryd.ntmps3 rfl ?_
  refine JC.seq ?_
  refine JC.region ?_
  refine JL.asg ?_
  refine JL.nil ?_
  refine JQ.thenN ?_
  refine JC.seq ?_
  refine JC.region ?_
  refine JL.val rfl rfl rfl (.none rfl) (Ev.build (parts := []) (vs := []) (cs := #[.slice none 0 0]) (fun _ _ => rfl) (fun _ => by kernel_rfl)) ?_
  refine JL.new rfl rfl rfl (.none rfl) (En.bsN (e := 5) rfl (fun _ => by kernel_rfl)) (fun b37 hb37 => ?_)
  refine JL.callV rfl (.none rfl) rfl Tryd.call13 (fun w1 hw1 => entry_any (some ⟨b37, 0, none⟩) 1 [1] w1) ?_
  refine JL.callN rfl (.none rfl) rfl Tryd.call12 (fun w1 hw1 => bAdd_any none 0 [] ⟨5, some ⟨b37, 0, none⟩, 1, [1]⟩ w1 bd_nil ((cs_block (xs := ([1] : List UInt8).map u8) hw1 (by repeat (first | exact List.Mem.head _ | refine List.Mem.tail _ ?_ | refine List.mem_append_right _ ?_)) (show 1 ≤ 1000000 by decide)).bs rfl)) ?_
  rintro _ _ ⟨z1, rfl, r1, os1, rfl, rfl, hr1, hok1, he1⟩
  refine JL.mv ?_
  refine JL.val rfl rfl rfl (.none rfl) (Ev.ex0 rfl) ?_
  refine JL.val rfl rfl rfl (.none rfl) (Ev.ex1 rfl) ?_
  refine JL.new rfl rfl rfl (.none rfl) (En.allocZ (cs := #[.slice none 0 0]) Tryd.zeroValue24 rfl) (fun b1 hb1 => ?_)
  refine JL.sto rfl rfl (.none rfl) (Es.storeA rfl rfl Tryd.sizeOf24 (by repeat (first | exact .here | apply Upd.there | apply Upd.assoc | apply Upd.left)) rfl rfl (fun u hu => by simp only [List.mem_singleton] at hu; subst hu; exact rowv_one _ _)) ?_
  refine JL.asg ?_
  refine JL.nil ?_
  refine JQ.thenN ?_
  refine JC.seq ?_
  refine JC.region ?_
  obtain ⟨o1, c1, xs1, _, ev1, em1, hB1⟩ := own_bd (e := 30) (t := 5) hr1 hok1
  have hxe : xs1.map Et.e = [((5 : UInt8), ([1] : List UInt8))] := em1.trans (he1.trans ad_names)
  refine JL.reH (b := b1) (o' := Obj.cells #[.slice o1 xs1.length c1] 24 (0, 0)) (by repeat (first | exact .here | apply Upd.there | apply Upd.assoc | apply Upd.left)) (by rw [ev1]) ?_
  refine JL.new rfl rfl rfl (.none rfl) (En.makeE (n := 1024) rfl rfl Tryd.underlying22 (by kernel_rfl) (by decide)) (fun b42 hb42 => ?_)
  refine JL.reH (b := b42) (o' := Obj.cells (ef (fullE 0)).toArray 30 (0, 0)) (by repeat (first | exact .here | apply Upd.there | apply Upd.assoc | apply Upd.left)) rfl ?_
  refine JL.val rfl rfl rfl (.none rfl) (Ev.buN rfl (fun _ => by kernel_rfl)) ?_
  refine JL.new rfl rfl rfl (.none rfl) (En.allocZ (cs := #[.slice none 0 0]) Tryd.zeroValue24 rfl) (fun b3 hb3 => ?_)
  refine JL.sto rfl rfl (.none rfl) (Es.storeA rfl rfl Tryd.sizeOf24 Upd.k rfl rfl (fun u hu => by simp only [List.mem_singleton] at hu; subst hu; rfl)) ?_
  refine JL.nil ?_
  refine JQ.thenN ?_
  refine JC.seq ?_
  refine JC.seq ?_
  refine JC.region ?_
  refine JL.asg ?_
  refine JL.nil ?_
  refine JQ.thenN ?_
  refine JC.block ?_
  refine JC.loop (X := Nat)
    (fun i => [(1, .pointer (some ⟨b1, 0, none⟩)), (3, .pointer (some ⟨b3, 0, none⟩)), (4, .int .i64 (i : Int))])
    (fun i => [(b1, Obj.cells #[.slice o1 xs1.length c1] 24 (0, 0)), (b3, Obj.cells #[.slice (some ⟨b42, 0, none⟩) 1024 1024] 24 (0, 0)), (b42, Obj.cells (ef (fullE i)).toArray 30 (0, 0))] ++ (Row.b 30 r1 ++ oeD 5 os1))
    (fun i => i ≤ 1024)
    (fun i => 1024 - i) 0 ?_ ?_ ?_ ?_
  · exact Keeps.k
  · exact Sub.of_cnt (fun a => by (try dsimp only); simp only [cntA]; omega)
  · exact Nat.zero_le _
  rintro i hi
  refine JC.seq ?_
  refine JC.seq ?_
  refine JC.region ?_
  refine JL.mv ?_
  refine JL.val rfl rfl rfl (.none rfl) (Ev.bin rfl rfl lss_int) ?_
  refine JL.nil ?_
  refine JQ.thenN ?_
  refine JC.cond rfl (fun hc1 => ?_) (fun hc1 => ?_)
  · -- t45 True
    replace hc1 := of_decide_eq_true hc1
    refine JC.skip ?_
    refine JQ.thenN ?_
    refine JC.seq ?_
    refine JC.block ?_
    refine JC.region ?_
    refine JL.val rfl rfl rfl (.none rfl) (Ev.fld 0 rfl (fun _ _ => by kernel_rfl)) ?_
    refine JL.val rfl rfl rfl (.none rfl) (Ev.load1 rfl Tryd.underlying22 rfl (Rd.own memK rfl)) ?_
    refine JL.mv ?_
    refine JL.val rfl rfl rfl (.none rfl) (Ev.idxS0k (s := 2) rfl rfl Tryd.underlying22 Tryd.sizeOf30 (k := i) rfl (by omega)) ?_
    refine JL.val rfl rfl rfl (.none rfl) (Ev.fld 0 rfl (fun _ _ => by kernel_rfl)) ?_
    refine JL.sto rfl rfl (.none rfl) (Es.store1 (cs := (ef (fullE i)).toArray) rfl rfl Tryd.sizeOf5 rfl rfl Upd.k (by rw [List.size_toArray, ef_length, fullE_len (by omega)]; omega)) ?_
    refine JL.reH (b := b42) (o' := Obj.cells (ef (fullE (i + 1))).toArray 30 (0, 0)) (by repeat (first | exact .here | apply Upd.there | apply Upd.assoc | apply Upd.left)) (congrArg (fun c => Obj.cells c 30 (0, 0)) (fullE_set (by omega))) ?_
    refine JL.nil ?_
    refine JQ.blockN ?_
    refine JQ.thenN ?_
    refine JC.region ?_
    refine JL.mv ?_
    refine JL.val rfl rfl rfl (.none rfl) (Ev.bin rfl rfl (add_i64 (by omega))) ?_
    refine JL.asg ?_
    refine JL.nil ?_
    refine JQ.loopN (i + 1) ?_ ?_ ?_ ?_
    · exact Keeps.k
    · exact Sub.of_cnt (fun a => by (try dsimp only); simp only [cntA]; omega)
    · omega
    · show 1024 - (i + 1) < 1024 - i; omega
  · -- t45 False
    replace hc1 := of_decide_eq_false hc1
    obtain rfl : i = 1024 := by omega
    refine JC.exit ?_
    refine JQ.thenE ?_
    refine JQ.thenE ?_
    refine JQ.blockE ?_
    refine JQ.thenN ?_
    refine JC.seq ?_
    refine JC.region ?_
    refine JL.val rfl rfl rfl (.none rfl) (Ev.build (parts := [(0, .const (.int .i64 258))]) (vs := [(0, .int .i64 258)]) (cs := (Hd.cl ⟨258, zeroD, 0, 0⟩).toArray) (fun _ _ => rfl) (fun _ => by kernel_rfl)) ?_
    refine JL.callN rfl (.none rfl) rfl Tryd.call14 (fun w1 hw1 => bText_any h258 w1) ?_
    rintro _ _ ⟨rT, rfl, rfl, hrT⟩
    refine JL.asg ?_
    refine JL.nil ?_
    refine JQ.thenN ?_
    refine JC.seq ?_
    refine JC.region ?_
    refine JL.val rfl rfl rfl (.none rfl) (Ev.lB Tryd.underlying24 Tryd.sizeOf24) ?_
    refine JL.val rfl rfl rfl (.none rfl) (Ev.build (parts := []) (vs := []) (cs := (Et.cl ⟨0, none, 0, []⟩).toArray) (fun _ _ => rfl) (fun _ => by kernel_rfl)) ?_
    refine JL.callN rfl (.none rfl) rfl Tryd.call12 (fun w1 hw1 => bAdd_any o1 c1 xs1 ⟨0, none, 0, []⟩ w1 (hB1 w1 hw1 (fun p hp => by rcases List.mem_append.1 hp with hp | hp <;> simp [hp])) bs_nil) ?_
    rintro _ _ ⟨z2, rfl, r2, os2, rfl, rfl, hr2, hok2, he2⟩
    refine JL.mv ?_
    refine JL.val rfl rfl rfl (.none rfl) (Ev.ex0 rfl) ?_
    refine JL.val rfl rfl rfl (.none rfl) (Ev.ex1 rfl) ?_
    refine JL.new rfl rfl rfl (.none rfl) (En.allocZ (cs := #[.slice none 0 0]) Tryd.zeroValue24 rfl) (fun b6 hb6 => ?_)
    refine JL.sto rfl rfl (.none rfl) (Es.storeA rfl rfl Tryd.sizeOf24 (by repeat (first | exact .here | apply Upd.there | apply Upd.assoc | apply Upd.left)) rfl rfl (fun u hu => by simp only [List.mem_singleton] at hu; subst hu; exact rowv_one _ _)) ?_
    refine JL.re (d := 60) (v' := .int .i64 2) rfl (congrArg (Value.int .i64) (by rw [hxe]; decide +kernel)) ?_
    refine JL.asg ?_
    refine JL.nil ?_
    refine JQ.thenN ?_
    refine JC.seq ?_
    refine JC.subH (H' := [(b1, Obj.cells #[.slice o1 xs1.length c1] 24 (0, 0)), (b3, Obj.cells #[.slice (some ⟨b42, 0, none⟩) 1024 1024] 24 (0, 0)), (b42, Obj.cells (ef (fullE 1024)).toArray 30 (0, 0))] ++ ((Row.b 30 r1 ++ oeD 5 os1) ++ Row.b 5 rT)) (Sub.of_cnt (fun a => by (try dsimp only); simp only [cntA]; omega)) ?_
    refine JC.region ?_
    refine JL.val rfl rfl rfl (.none rfl) (Ev.lB Tryd.underlying24 Tryd.sizeOf24) ?_
    refine JL.val rfl rfl rfl (.none rfl) (Ev.build (parts := [(0, .const (.int .u8 14))]) (vs := [(0, .int .u8 14)]) (cs := (Et.cl ⟨14, none, 0, []⟩).toArray) (fun _ _ => rfl) (fun _ => by kernel_rfl)) ?_
    refine JL.callN rfl (.none rfl) rfl Tryd.call12 (fun w1 hw1 => bAdd_any o1 c1 xs1 ⟨14, none, 0, []⟩ w1 (hB1 w1 hw1 (fun p hp => by rcases List.mem_append.1 hp with hp | hp <;> simp [hp])) bs_nil) ?_
    rintro _ _ ⟨z3, rfl, r3, os3, rfl, rfl, hr3, hok3, he3⟩
    refine JL.mv ?_
    refine JL.val rfl rfl rfl (.none rfl) (Ev.ex0 rfl) ?_
    refine JL.val rfl rfl rfl (.none rfl) (Ev.ex1 rfl) ?_
    refine JL.new rfl rfl rfl (.none rfl) (En.allocZ (cs := #[.slice none 0 0]) Tryd.zeroValue24 rfl) (fun b8 hb8 => ?_)
    refine JL.sto rfl rfl (.none rfl) (Es.storeA rfl rfl Tryd.sizeOf24 (by repeat (first | exact .here | apply Upd.there | apply Upd.assoc | apply Upd.left)) rfl rfl (fun u hu => by simp only [List.mem_singleton] at hu; subst hu; exact rowv_one _ _)) ?_
    refine JL.re (d := 66) (v' := .int .i64 2) rfl (congrArg (Value.int .i64) (by rw [hxe]; decide +kernel)) ?_
    refine JL.asg ?_
    refine JL.nil ?_
    refine JQ.thenN ?_
    refine JC.seq ?_
    refine JC.subH (H' := [(b1, Obj.cells #[.slice o1 xs1.length c1] 24 (0, 0)), (b3, Obj.cells #[.slice (some ⟨b42, 0, none⟩) 1024 1024] 24 (0, 0)), (b42, Obj.cells (ef (fullE 1024)).toArray 30 (0, 0))] ++ ((Row.b 30 r1 ++ oeD 5 os1) ++ Row.b 5 rT)) (Sub.of_cnt (fun a => by (try dsimp only); simp only [cntA]; omega)) ?_
    refine JC.cut (X := Unit) (fun _ => [(1, .pointer (some ⟨b1, 0, none⟩)), (3, .pointer (some ⟨b3, 0, none⟩)), (5, Row.v (txt h258).length rT), (7, .int .i64 2), (9, .int .i64 2), (11, .int .i64 2)]) (fun _ => [(b1, Obj.cells #[.slice o1 xs1.length c1] 24 (0, 0)), (b3, Obj.cells #[.slice (some ⟨b42, 0, none⟩) 1024 1024] 24 (0, 0)), (b42, Obj.cells (ef (fullE 1024)).toArray 30 (0, 0))] ++ ((Row.b 30 r1 ++ oeD 5 os1) ++ Row.b 5 rT)) ?_ ?_
    · refine JC.regionA (by kernel_rfl) ?_
      refine JA.branch [0, 1, 7] (by kernel_rfl) rfl ?_
      refine JAll.cons rfl ?_ ?_
      · -- 0
        refine JO.val rfl rfl rfl (.none rfl) (Ev.lB Tryd.underlying24 Tryd.sizeOf24) ?_
        refine JA.branch [1, 7] (by kernel_rfl) rfl ?_
        refine JAll.cons rfl ?_ ?_
        · -- 1
          refine JO.new rfl rfl rfl (.none rfl) (En.make8 (n := 8001) rfl rfl Tryd.underlying28 (by kernel_rfl) (by decide)) (fun b69 hb69 => ?_)
          obtain ⟨bm, rfl⟩ : ∃ b, b = b69 := ⟨_, rfl⟩
          refine JA.branch [2, 7] (by kernel_rfl) rfl ?_
          refine JAll.cons rfl ?_ ?_
          · -- 2
            refine JO.val rfl rfl rfl (.none rfl) (Ev.bu2 (v1 := u8 1) rfl rfl rfl rfl Tryd.underlying30 (fun _ => by kernel_rfl) Tryd.zeroValue30) ?_
            refine JA.branch [3, 7] (by kernel_rfl) rfl ?_
            refine JAll.cons rfl ?_ ?_
            · -- 3
              refine JO.re (d := 70) (v' := .agg (Et.cl ⟨1, some ⟨bm, 0, none⟩, 8001, bigE⟩).toArray) rfl (bigE_cl bm) ?_
              refine JO.callN rfl (.none rfl) rfl Tryd.call12 (fun w1 hw1 => bAdd_any o1 c1 xs1 ⟨1, some ⟨bm, 0, none⟩, 8001, bigE⟩ w1 (hB1 w1 hw1 (fun p hp => by rcases List.mem_append.1 hp with hp | hp <;> simp [hp])) (bs_big hw1 (by repeat (first | exact List.Mem.head _ | refine List.Mem.tail _ ?_ | refine List.mem_append_right _ ?_)))) ?_
              rintro _ _ ⟨z4, rfl, r4, os4, rfl, rfl, hr4, hok4, he4⟩
              refine JA.re (d := 71) (v' := .tuple #[.agg #[Row.v os4.length r4], .int .i64 2]) rfl (congrArg (fun e => Value.tuple #[.agg #[Row.v os4.length r4], .int .i64 e]) (by rw [hxe]; exact nm_big)) ?_
              refine JA.tkc 4 rfl (.none rfl) (fun _ => (Ev.move rfl)) ?_
              refine JA.tkc 5 rfl (.none rfl) (fun _ => (Ev.ex0 rfl)) ?_
              refine JA.tkc 6 rfl (.none rfl) (fun _ => (Ev.ex1 rfl)) ?_
              refine JA.one 7 ?_
              refine JO.new rfl rfl rfl (.none rfl) (En.allocZ (cs := #[.slice none 0 0]) Tryd.zeroValue24 rfl) (fun b10 hb10 => ?_)
              refine JA.one 8 ?_
              refine JO.sto rfl rfl (.none rfl) (Es.storeA rfl rfl Tryd.sizeOf24 (by repeat (first | exact .here | apply Upd.there | apply Upd.assoc | apply Upd.left)) rfl rfl (fun u hu => by simp only [List.mem_singleton] at hu; subst hu; exact rowv_one _ _)) ?_
              refine JA.tkc 9 rfl (.none rfl) (fun _ => (Ev.assign rfl)) ?_
              refine JA.done (by kernel_rfl) ?_
              refine JQ.cutN () ?_ ?_
              · (first | exact Keeps.k | skip)
              · exact Sub.of_cnt (fun a => by (try dsimp only); simp only [cntA]; omega)
            refine JAll.cons rfl ?_ JAll.nil
            refine JO.new rfl rfl rfl (.none rfl) (En.allocZ (cs := #[.slice none 0 0]) Tryd.zeroValue24 rfl) (fun b10 hb10 => ?_)
            refine JA.one 3 ?_
            refine JO.re (d := 70) (v' := .agg (Et.cl ⟨1, some ⟨bm, 0, none⟩, 8001, bigE⟩).toArray) rfl (bigE_cl bm) ?_
            refine JO.callN rfl (.none rfl) rfl Tryd.call12 (fun w1 hw1 => bAdd_any o1 c1 xs1 ⟨1, some ⟨bm, 0, none⟩, 8001, bigE⟩ w1 (hB1 w1 hw1 (fun p hp => by rcases List.mem_append.1 hp with hp | hp <;> simp [hp])) (bs_big hw1 (by repeat (first | exact List.Mem.head _ | refine List.Mem.tail _ ?_ | refine List.mem_append_right _ ?_)))) ?_
            rintro _ _ ⟨z4, rfl, r4, os4, rfl, rfl, hr4, hok4, he4⟩
            refine JA.re (d := 71) (v' := .tuple #[.agg #[Row.v os4.length r4], .int .i64 2]) rfl (congrArg (fun e => Value.tuple #[.agg #[Row.v os4.length r4], .int .i64 e]) (by rw [hxe]; exact nm_big)) ?_
            refine JA.tkc 4 rfl (.none rfl) (fun _ => (Ev.move rfl)) ?_
            refine JA.tkc 5 rfl (.none rfl) (fun _ => (Ev.ex0 rfl)) ?_
            refine JA.tkc 6 rfl (.none rfl) (fun _ => (Ev.ex1 rfl)) ?_
            refine JA.one 8 ?_
            refine JO.sto rfl rfl (.none rfl) (Es.storeA rfl rfl Tryd.sizeOf24 (by repeat (first | exact .here | apply Upd.there | apply Upd.assoc | apply Upd.left)) rfl rfl (fun u hu => by simp only [List.mem_singleton] at hu; subst hu; exact rowv_one _ _)) ?_
            refine JA.tkc 9 rfl (.none rfl) (fun _ => (Ev.assign rfl)) ?_
            refine JA.done (by kernel_rfl) ?_
            refine JQ.cutN () ?_ ?_
            · (first | exact Keeps.k | skip)
            · exact Sub.of_cnt (fun a => by (try dsimp only); simp only [cntA]; omega)
          refine JAll.cons rfl ?_ JAll.nil
          refine JO.new rfl rfl rfl (.none rfl) (En.allocZ (cs := #[.slice none 0 0]) Tryd.zeroValue24 rfl) (fun b10 hb10 => ?_)
          refine JA.one 2 ?_
          refine JO.val rfl rfl rfl (.none rfl) (Ev.bu2 (v1 := u8 1) rfl rfl rfl rfl Tryd.underlying30 (fun _ => by kernel_rfl) Tryd.zeroValue30) ?_
          refine JA.one 3 ?_
          refine JO.re (d := 70) (v' := .agg (Et.cl ⟨1, some ⟨bm, 0, none⟩, 8001, bigE⟩).toArray) rfl (bigE_cl bm) ?_
          refine JO.callN rfl (.none rfl) rfl Tryd.call12 (fun w1 hw1 => bAdd_any o1 c1 xs1 ⟨1, some ⟨bm, 0, none⟩, 8001, bigE⟩ w1 (hB1 w1 hw1 (fun p hp => by rcases List.mem_append.1 hp with hp | hp <;> simp [hp])) (bs_big hw1 (by repeat (first | exact List.Mem.head _ | refine List.Mem.tail _ ?_ | refine List.mem_append_right _ ?_)))) ?_
          rintro _ _ ⟨z4, rfl, r4, os4, rfl, rfl, hr4, hok4, he4⟩
          refine JA.re (d := 71) (v' := .tuple #[.agg #[Row.v os4.length r4], .int .i64 2]) rfl (congrArg (fun e => Value.tuple #[.agg #[Row.v os4.length r4], .int .i64 e]) (by rw [hxe]; exact nm_big)) ?_
          refine JA.tkc 4 rfl (.none rfl) (fun _ => (Ev.move rfl)) ?_
          refine JA.tkc 5 rfl (.none rfl) (fun _ => (Ev.ex0 rfl)) ?_
          refine JA.tkc 6 rfl (.none rfl) (fun _ => (Ev.ex1 rfl)) ?_
          refine JA.one 8 ?_
          refine JO.sto rfl rfl (.none rfl) (Es.storeA rfl rfl Tryd.sizeOf24 (by repeat (first | exact .here | apply Upd.there | apply Upd.assoc | apply Upd.left)) rfl rfl (fun u hu => by simp only [List.mem_singleton] at hu; subst hu; exact rowv_one _ _)) ?_
          refine JA.tkc 9 rfl (.none rfl) (fun _ => (Ev.assign rfl)) ?_
          refine JA.done (by kernel_rfl) ?_
          refine JQ.cutN () ?_ ?_
          · (first | exact Keeps.k | skip)
          · exact Sub.of_cnt (fun a => by (try dsimp only); simp only [cntA]; omega)
        refine JAll.cons rfl ?_ JAll.nil
        refine JO.new rfl rfl rfl (.none rfl) (En.allocZ (cs := #[.slice none 0 0]) Tryd.zeroValue24 rfl) (fun b10 hb10 => ?_)
        refine JA.one 1 ?_
        refine JO.new rfl rfl rfl (.none rfl) (En.make8 (n := 8001) rfl rfl Tryd.underlying28 (by kernel_rfl) (by decide)) (fun b69 hb69 => ?_)
        obtain ⟨bm, rfl⟩ : ∃ b, b = b69 := ⟨_, rfl⟩
        refine JA.one 2 ?_
        refine JO.val rfl rfl rfl (.none rfl) (Ev.bu2 (v1 := u8 1) rfl rfl rfl rfl Tryd.underlying30 (fun _ => by kernel_rfl) Tryd.zeroValue30) ?_
        refine JA.one 3 ?_
        refine JO.re (d := 70) (v' := .agg (Et.cl ⟨1, some ⟨bm, 0, none⟩, 8001, bigE⟩).toArray) rfl (bigE_cl bm) ?_
        refine JO.callN rfl (.none rfl) rfl Tryd.call12 (fun w1 hw1 => bAdd_any o1 c1 xs1 ⟨1, some ⟨bm, 0, none⟩, 8001, bigE⟩ w1 (hB1 w1 hw1 (fun p hp => by rcases List.mem_append.1 hp with hp | hp <;> simp [hp])) (bs_big hw1 (by repeat (first | exact List.Mem.head _ | refine List.Mem.tail _ ?_ | refine List.mem_append_right _ ?_)))) ?_
        rintro _ _ ⟨z4, rfl, r4, os4, rfl, rfl, hr4, hok4, he4⟩
        refine JA.re (d := 71) (v' := .tuple #[.agg #[Row.v os4.length r4], .int .i64 2]) rfl (congrArg (fun e => Value.tuple #[.agg #[Row.v os4.length r4], .int .i64 e]) (by rw [hxe]; exact nm_big)) ?_
        refine JA.tkc 4 rfl (.none rfl) (fun _ => (Ev.move rfl)) ?_
        refine JA.tkc 5 rfl (.none rfl) (fun _ => (Ev.ex0 rfl)) ?_
        refine JA.tkc 6 rfl (.none rfl) (fun _ => (Ev.ex1 rfl)) ?_
        refine JA.one 8 ?_
        refine JO.sto rfl rfl (.none rfl) (Es.storeA rfl rfl Tryd.sizeOf24 (by repeat (first | exact .here | apply Upd.there | apply Upd.assoc | apply Upd.left)) rfl rfl (fun u hu => by simp only [List.mem_singleton] at hu; subst hu; exact rowv_one _ _)) ?_
        refine JA.tkc 9 rfl (.none rfl) (fun _ => (Ev.assign rfl)) ?_
        refine JA.done (by kernel_rfl) ?_
        refine JQ.cutN () ?_ ?_
        · (first | exact Keeps.k | skip)
        · exact Sub.of_cnt (fun a => by (try dsimp only); simp only [cntA]; omega)
      refine JAll.cons rfl ?_ ?_
      · -- 1
        refine JO.new rfl rfl rfl (.none rfl) (En.make8 (n := 8001) rfl rfl Tryd.underlying28 (by kernel_rfl) (by decide)) (fun b69 hb69 => ?_)
        obtain ⟨bm, rfl⟩ : ∃ b, b = b69 := ⟨_, rfl⟩
        refine JA.branch [0, 2, 7] (by kernel_rfl) rfl ?_
        refine JAll.cons rfl ?_ ?_
        · -- 0
          refine JO.val rfl rfl rfl (.none rfl) (Ev.lB Tryd.underlying24 Tryd.sizeOf24) ?_
          refine JA.branch [2, 7] (by kernel_rfl) rfl ?_
          refine JAll.cons rfl ?_ ?_
          · -- 2
            refine JO.val rfl rfl rfl (.none rfl) (Ev.bu2 (v1 := u8 1) rfl rfl rfl rfl Tryd.underlying30 (fun _ => by kernel_rfl) Tryd.zeroValue30) ?_
            refine JA.branch [3, 7] (by kernel_rfl) rfl ?_
            refine JAll.cons rfl ?_ ?_
            · -- 3
              refine JO.re (d := 70) (v' := .agg (Et.cl ⟨1, some ⟨bm, 0, none⟩, 8001, bigE⟩).toArray) rfl (bigE_cl bm) ?_
              refine JO.callN rfl (.none rfl) rfl Tryd.call12 (fun w1 hw1 => bAdd_any o1 c1 xs1 ⟨1, some ⟨bm, 0, none⟩, 8001, bigE⟩ w1 (hB1 w1 hw1 (fun p hp => by rcases List.mem_append.1 hp with hp | hp <;> simp [hp])) (bs_big hw1 (by repeat (first | exact List.Mem.head _ | refine List.Mem.tail _ ?_ | refine List.mem_append_right _ ?_)))) ?_
              rintro _ _ ⟨z4, rfl, r4, os4, rfl, rfl, hr4, hok4, he4⟩
              refine JA.re (d := 71) (v' := .tuple #[.agg #[Row.v os4.length r4], .int .i64 2]) rfl (congrArg (fun e => Value.tuple #[.agg #[Row.v os4.length r4], .int .i64 e]) (by rw [hxe]; exact nm_big)) ?_
              refine JA.tkc 4 rfl (.none rfl) (fun _ => (Ev.move rfl)) ?_
              refine JA.tkc 5 rfl (.none rfl) (fun _ => (Ev.ex0 rfl)) ?_
              refine JA.tkc 6 rfl (.none rfl) (fun _ => (Ev.ex1 rfl)) ?_
              refine JA.one 7 ?_
              refine JO.new rfl rfl rfl (.none rfl) (En.allocZ (cs := #[.slice none 0 0]) Tryd.zeroValue24 rfl) (fun b10 hb10 => ?_)
              refine JA.one 8 ?_
              refine JO.sto rfl rfl (.none rfl) (Es.storeA rfl rfl Tryd.sizeOf24 (by repeat (first | exact .here | apply Upd.there | apply Upd.assoc | apply Upd.left)) rfl rfl (fun u hu => by simp only [List.mem_singleton] at hu; subst hu; exact rowv_one _ _)) ?_
              refine JA.tkc 9 rfl (.none rfl) (fun _ => (Ev.assign rfl)) ?_
              refine JA.done (by kernel_rfl) ?_
              refine JQ.cutN () ?_ ?_
              · (first | exact Keeps.k | skip)
              · exact Sub.of_cnt (fun a => by (try dsimp only); simp only [cntA]; omega)
            refine JAll.cons rfl ?_ JAll.nil
            refine JO.new rfl rfl rfl (.none rfl) (En.allocZ (cs := #[.slice none 0 0]) Tryd.zeroValue24 rfl) (fun b10 hb10 => ?_)
            refine JA.one 3 ?_
            refine JO.re (d := 70) (v' := .agg (Et.cl ⟨1, some ⟨bm, 0, none⟩, 8001, bigE⟩).toArray) rfl (bigE_cl bm) ?_
            refine JO.callN rfl (.none rfl) rfl Tryd.call12 (fun w1 hw1 => bAdd_any o1 c1 xs1 ⟨1, some ⟨bm, 0, none⟩, 8001, bigE⟩ w1 (hB1 w1 hw1 (fun p hp => by rcases List.mem_append.1 hp with hp | hp <;> simp [hp])) (bs_big hw1 (by repeat (first | exact List.Mem.head _ | refine List.Mem.tail _ ?_ | refine List.mem_append_right _ ?_)))) ?_
            rintro _ _ ⟨z4, rfl, r4, os4, rfl, rfl, hr4, hok4, he4⟩
            refine JA.re (d := 71) (v' := .tuple #[.agg #[Row.v os4.length r4], .int .i64 2]) rfl (congrArg (fun e => Value.tuple #[.agg #[Row.v os4.length r4], .int .i64 e]) (by rw [hxe]; exact nm_big)) ?_
            refine JA.tkc 4 rfl (.none rfl) (fun _ => (Ev.move rfl)) ?_
            refine JA.tkc 5 rfl (.none rfl) (fun _ => (Ev.ex0 rfl)) ?_
            refine JA.tkc 6 rfl (.none rfl) (fun _ => (Ev.ex1 rfl)) ?_
            refine JA.one 8 ?_
            refine JO.sto rfl rfl (.none rfl) (Es.storeA rfl rfl Tryd.sizeOf24 (by repeat (first | exact .here | apply Upd.there | apply Upd.assoc | apply Upd.left)) rfl rfl (fun u hu => by simp only [List.mem_singleton] at hu; subst hu; exact rowv_one _ _)) ?_
            refine JA.tkc 9 rfl (.none rfl) (fun _ => (Ev.assign rfl)) ?_
            refine JA.done (by kernel_rfl) ?_
            refine JQ.cutN () ?_ ?_
            · (first | exact Keeps.k | skip)
            · exact Sub.of_cnt (fun a => by (try dsimp only); simp only [cntA]; omega)
          refine JAll.cons rfl ?_ JAll.nil
          refine JO.new rfl rfl rfl (.none rfl) (En.allocZ (cs := #[.slice none 0 0]) Tryd.zeroValue24 rfl) (fun b10 hb10 => ?_)
          refine JA.one 2 ?_
          refine JO.val rfl rfl rfl (.none rfl) (Ev.bu2 (v1 := u8 1) rfl rfl rfl rfl Tryd.underlying30 (fun _ => by kernel_rfl) Tryd.zeroValue30) ?_
          refine JA.one 3 ?_
          refine JO.re (d := 70) (v' := .agg (Et.cl ⟨1, some ⟨bm, 0, none⟩, 8001, bigE⟩).toArray) rfl (bigE_cl bm) ?_
          refine JO.callN rfl (.none rfl) rfl Tryd.call12 (fun w1 hw1 => bAdd_any o1 c1 xs1 ⟨1, some ⟨bm, 0, none⟩, 8001, bigE⟩ w1 (hB1 w1 hw1 (fun p hp => by rcases List.mem_append.1 hp with hp | hp <;> simp [hp])) (bs_big hw1 (by repeat (first | exact List.Mem.head _ | refine List.Mem.tail _ ?_ | refine List.mem_append_right _ ?_)))) ?_
          rintro _ _ ⟨z4, rfl, r4, os4, rfl, rfl, hr4, hok4, he4⟩
          refine JA.re (d := 71) (v' := .tuple #[.agg #[Row.v os4.length r4], .int .i64 2]) rfl (congrArg (fun e => Value.tuple #[.agg #[Row.v os4.length r4], .int .i64 e]) (by rw [hxe]; exact nm_big)) ?_
          refine JA.tkc 4 rfl (.none rfl) (fun _ => (Ev.move rfl)) ?_
          refine JA.tkc 5 rfl (.none rfl) (fun _ => (Ev.ex0 rfl)) ?_
          refine JA.tkc 6 rfl (.none rfl) (fun _ => (Ev.ex1 rfl)) ?_
          refine JA.one 8 ?_
          refine JO.sto rfl rfl (.none rfl) (Es.storeA rfl rfl Tryd.sizeOf24 (by repeat (first | exact .here | apply Upd.there | apply Upd.assoc | apply Upd.left)) rfl rfl (fun u hu => by simp only [List.mem_singleton] at hu; subst hu; exact rowv_one _ _)) ?_
          refine JA.tkc 9 rfl (.none rfl) (fun _ => (Ev.assign rfl)) ?_
          refine JA.done (by kernel_rfl) ?_
          refine JQ.cutN () ?_ ?_
          · (first | exact Keeps.k | skip)
          · exact Sub.of_cnt (fun a => by (try dsimp only); simp only [cntA]; omega)
        refine JAll.cons rfl ?_ ?_
        · -- 2
          refine JO.val rfl rfl rfl (.none rfl) (Ev.bu2 (v1 := u8 1) rfl rfl rfl rfl Tryd.underlying30 (fun _ => by kernel_rfl) Tryd.zeroValue30) ?_
          refine JA.branch [0, 7] (by kernel_rfl) rfl ?_
          refine JAll.cons rfl ?_ ?_
          · -- 0
            refine JO.val rfl rfl rfl (.none rfl) (Ev.lB Tryd.underlying24 Tryd.sizeOf24) ?_
            refine JA.branch [3, 7] (by kernel_rfl) rfl ?_
            refine JAll.cons rfl ?_ ?_
            · -- 3
              refine JO.re (d := 70) (v' := .agg (Et.cl ⟨1, some ⟨bm, 0, none⟩, 8001, bigE⟩).toArray) rfl (bigE_cl bm) ?_
              refine JO.callN rfl (.none rfl) rfl Tryd.call12 (fun w1 hw1 => bAdd_any o1 c1 xs1 ⟨1, some ⟨bm, 0, none⟩, 8001, bigE⟩ w1 (hB1 w1 hw1 (fun p hp => by rcases List.mem_append.1 hp with hp | hp <;> simp [hp])) (bs_big hw1 (by repeat (first | exact List.Mem.head _ | refine List.Mem.tail _ ?_ | refine List.mem_append_right _ ?_)))) ?_
              rintro _ _ ⟨z4, rfl, r4, os4, rfl, rfl, hr4, hok4, he4⟩
              refine JA.re (d := 71) (v' := .tuple #[.agg #[Row.v os4.length r4], .int .i64 2]) rfl (congrArg (fun e => Value.tuple #[.agg #[Row.v os4.length r4], .int .i64 e]) (by rw [hxe]; exact nm_big)) ?_
              refine JA.tkc 4 rfl (.none rfl) (fun _ => (Ev.move rfl)) ?_
              refine JA.tkc 5 rfl (.none rfl) (fun _ => (Ev.ex0 rfl)) ?_
              refine JA.tkc 6 rfl (.none rfl) (fun _ => (Ev.ex1 rfl)) ?_
              refine JA.one 7 ?_
              refine JO.new rfl rfl rfl (.none rfl) (En.allocZ (cs := #[.slice none 0 0]) Tryd.zeroValue24 rfl) (fun b10 hb10 => ?_)
              refine JA.one 8 ?_
              refine JO.sto rfl rfl (.none rfl) (Es.storeA rfl rfl Tryd.sizeOf24 (by repeat (first | exact .here | apply Upd.there | apply Upd.assoc | apply Upd.left)) rfl rfl (fun u hu => by simp only [List.mem_singleton] at hu; subst hu; exact rowv_one _ _)) ?_
              refine JA.tkc 9 rfl (.none rfl) (fun _ => (Ev.assign rfl)) ?_
              refine JA.done (by kernel_rfl) ?_
              refine JQ.cutN () ?_ ?_
              · (first | exact Keeps.k | skip)
              · exact Sub.of_cnt (fun a => by (try dsimp only); simp only [cntA]; omega)
            refine JAll.cons rfl ?_ JAll.nil
            refine JO.new rfl rfl rfl (.none rfl) (En.allocZ (cs := #[.slice none 0 0]) Tryd.zeroValue24 rfl) (fun b10 hb10 => ?_)
            refine JA.one 3 ?_
            refine JO.re (d := 70) (v' := .agg (Et.cl ⟨1, some ⟨bm, 0, none⟩, 8001, bigE⟩).toArray) rfl (bigE_cl bm) ?_
            refine JO.callN rfl (.none rfl) rfl Tryd.call12 (fun w1 hw1 => bAdd_any o1 c1 xs1 ⟨1, some ⟨bm, 0, none⟩, 8001, bigE⟩ w1 (hB1 w1 hw1 (fun p hp => by rcases List.mem_append.1 hp with hp | hp <;> simp [hp])) (bs_big hw1 (by repeat (first | exact List.Mem.head _ | refine List.Mem.tail _ ?_ | refine List.mem_append_right _ ?_)))) ?_
            rintro _ _ ⟨z4, rfl, r4, os4, rfl, rfl, hr4, hok4, he4⟩
            refine JA.re (d := 71) (v' := .tuple #[.agg #[Row.v os4.length r4], .int .i64 2]) rfl (congrArg (fun e => Value.tuple #[.agg #[Row.v os4.length r4], .int .i64 e]) (by rw [hxe]; exact nm_big)) ?_
            refine JA.tkc 4 rfl (.none rfl) (fun _ => (Ev.move rfl)) ?_
            refine JA.tkc 5 rfl (.none rfl) (fun _ => (Ev.ex0 rfl)) ?_
            refine JA.tkc 6 rfl (.none rfl) (fun _ => (Ev.ex1 rfl)) ?_
            refine JA.one 8 ?_
            refine JO.sto rfl rfl (.none rfl) (Es.storeA rfl rfl Tryd.sizeOf24 (by repeat (first | exact .here | apply Upd.there | apply Upd.assoc | apply Upd.left)) rfl rfl (fun u hu => by simp only [List.mem_singleton] at hu; subst hu; exact rowv_one _ _)) ?_
            refine JA.tkc 9 rfl (.none rfl) (fun _ => (Ev.assign rfl)) ?_
            refine JA.done (by kernel_rfl) ?_
            refine JQ.cutN () ?_ ?_
            · (first | exact Keeps.k | skip)
            · exact Sub.of_cnt (fun a => by (try dsimp only); simp only [cntA]; omega)
          refine JAll.cons rfl ?_ JAll.nil
          refine JO.new rfl rfl rfl (.none rfl) (En.allocZ (cs := #[.slice none 0 0]) Tryd.zeroValue24 rfl) (fun b10 hb10 => ?_)
          refine JA.one 0 ?_
          refine JO.val rfl rfl rfl (.none rfl) (Ev.lB Tryd.underlying24 Tryd.sizeOf24) ?_
          refine JA.one 3 ?_
          refine JO.re (d := 70) (v' := .agg (Et.cl ⟨1, some ⟨bm, 0, none⟩, 8001, bigE⟩).toArray) rfl (bigE_cl bm) ?_
          refine JO.callN rfl (.none rfl) rfl Tryd.call12 (fun w1 hw1 => bAdd_any o1 c1 xs1 ⟨1, some ⟨bm, 0, none⟩, 8001, bigE⟩ w1 (hB1 w1 hw1 (fun p hp => by rcases List.mem_append.1 hp with hp | hp <;> simp [hp])) (bs_big hw1 (by repeat (first | exact List.Mem.head _ | refine List.Mem.tail _ ?_ | refine List.mem_append_right _ ?_)))) ?_
          rintro _ _ ⟨z4, rfl, r4, os4, rfl, rfl, hr4, hok4, he4⟩
          refine JA.re (d := 71) (v' := .tuple #[.agg #[Row.v os4.length r4], .int .i64 2]) rfl (congrArg (fun e => Value.tuple #[.agg #[Row.v os4.length r4], .int .i64 e]) (by rw [hxe]; exact nm_big)) ?_
          refine JA.tkc 4 rfl (.none rfl) (fun _ => (Ev.move rfl)) ?_
          refine JA.tkc 5 rfl (.none rfl) (fun _ => (Ev.ex0 rfl)) ?_
          refine JA.tkc 6 rfl (.none rfl) (fun _ => (Ev.ex1 rfl)) ?_
          refine JA.one 8 ?_
          refine JO.sto rfl rfl (.none rfl) (Es.storeA rfl rfl Tryd.sizeOf24 (by repeat (first | exact .here | apply Upd.there | apply Upd.assoc | apply Upd.left)) rfl rfl (fun u hu => by simp only [List.mem_singleton] at hu; subst hu; exact rowv_one _ _)) ?_
          refine JA.tkc 9 rfl (.none rfl) (fun _ => (Ev.assign rfl)) ?_
          refine JA.done (by kernel_rfl) ?_
          refine JQ.cutN () ?_ ?_
          · (first | exact Keeps.k | skip)
          · exact Sub.of_cnt (fun a => by (try dsimp only); simp only [cntA]; omega)
        refine JAll.cons rfl ?_ JAll.nil
        refine JO.new rfl rfl rfl (.none rfl) (En.allocZ (cs := #[.slice none 0 0]) Tryd.zeroValue24 rfl) (fun b10 hb10 => ?_)
        refine JA.branch [0, 2] (by kernel_rfl) rfl ?_
        refine JAll.cons rfl ?_ ?_
        · -- 0
          refine JO.val rfl rfl rfl (.none rfl) (Ev.lB Tryd.underlying24 Tryd.sizeOf24) ?_
          refine JA.one 2 ?_
          refine JO.val rfl rfl rfl (.none rfl) (Ev.bu2 (v1 := u8 1) rfl rfl rfl rfl Tryd.underlying30 (fun _ => by kernel_rfl) Tryd.zeroValue30) ?_
          refine JA.one 3 ?_
          refine JO.re (d := 70) (v' := .agg (Et.cl ⟨1, some ⟨bm, 0, none⟩, 8001, bigE⟩).toArray) rfl (bigE_cl bm) ?_
          refine JO.callN rfl (.none rfl) rfl Tryd.call12 (fun w1 hw1 => bAdd_any o1 c1 xs1 ⟨1, some ⟨bm, 0, none⟩, 8001, bigE⟩ w1 (hB1 w1 hw1 (fun p hp => by rcases List.mem_append.1 hp with hp | hp <;> simp [hp])) (bs_big hw1 (by repeat (first | exact List.Mem.head _ | refine List.Mem.tail _ ?_ | refine List.mem_append_right _ ?_)))) ?_
          rintro _ _ ⟨z4, rfl, r4, os4, rfl, rfl, hr4, hok4, he4⟩
          refine JA.re (d := 71) (v' := .tuple #[.agg #[Row.v os4.length r4], .int .i64 2]) rfl (congrArg (fun e => Value.tuple #[.agg #[Row.v os4.length r4], .int .i64 e]) (by rw [hxe]; exact nm_big)) ?_
          refine JA.tkc 4 rfl (.none rfl) (fun _ => (Ev.move rfl)) ?_
          refine JA.tkc 5 rfl (.none rfl) (fun _ => (Ev.ex0 rfl)) ?_
          refine JA.tkc 6 rfl (.none rfl) (fun _ => (Ev.ex1 rfl)) ?_
          refine JA.one 8 ?_
          refine JO.sto rfl rfl (.none rfl) (Es.storeA rfl rfl Tryd.sizeOf24 (by repeat (first | exact .here | apply Upd.there | apply Upd.assoc | apply Upd.left)) rfl rfl (fun u hu => by simp only [List.mem_singleton] at hu; subst hu; exact rowv_one _ _)) ?_
          refine JA.tkc 9 rfl (.none rfl) (fun _ => (Ev.assign rfl)) ?_
          refine JA.done (by kernel_rfl) ?_
          refine JQ.cutN () ?_ ?_
          · (first | exact Keeps.k | skip)
          · exact Sub.of_cnt (fun a => by (try dsimp only); simp only [cntA]; omega)
        refine JAll.cons rfl ?_ JAll.nil
        refine JO.val rfl rfl rfl (.none rfl) (Ev.bu2 (v1 := u8 1) rfl rfl rfl rfl Tryd.underlying30 (fun _ => by kernel_rfl) Tryd.zeroValue30) ?_
        refine JA.one 0 ?_
        refine JO.val rfl rfl rfl (.none rfl) (Ev.lB Tryd.underlying24 Tryd.sizeOf24) ?_
        refine JA.one 3 ?_
        refine JO.re (d := 70) (v' := .agg (Et.cl ⟨1, some ⟨bm, 0, none⟩, 8001, bigE⟩).toArray) rfl (bigE_cl bm) ?_
        refine JO.callN rfl (.none rfl) rfl Tryd.call12 (fun w1 hw1 => bAdd_any o1 c1 xs1 ⟨1, some ⟨bm, 0, none⟩, 8001, bigE⟩ w1 (hB1 w1 hw1 (fun p hp => by rcases List.mem_append.1 hp with hp | hp <;> simp [hp])) (bs_big hw1 (by repeat (first | exact List.Mem.head _ | refine List.Mem.tail _ ?_ | refine List.mem_append_right _ ?_)))) ?_
        rintro _ _ ⟨z4, rfl, r4, os4, rfl, rfl, hr4, hok4, he4⟩
        refine JA.re (d := 71) (v' := .tuple #[.agg #[Row.v os4.length r4], .int .i64 2]) rfl (congrArg (fun e => Value.tuple #[.agg #[Row.v os4.length r4], .int .i64 e]) (by rw [hxe]; exact nm_big)) ?_
        refine JA.tkc 4 rfl (.none rfl) (fun _ => (Ev.move rfl)) ?_
        refine JA.tkc 5 rfl (.none rfl) (fun _ => (Ev.ex0 rfl)) ?_
        refine JA.tkc 6 rfl (.none rfl) (fun _ => (Ev.ex1 rfl)) ?_
        refine JA.one 8 ?_
        refine JO.sto rfl rfl (.none rfl) (Es.storeA rfl rfl Tryd.sizeOf24 (by repeat (first | exact .here | apply Upd.there | apply Upd.assoc | apply Upd.left)) rfl rfl (fun u hu => by simp only [List.mem_singleton] at hu; subst hu; exact rowv_one _ _)) ?_
        refine JA.tkc 9 rfl (.none rfl) (fun _ => (Ev.assign rfl)) ?_
        refine JA.done (by kernel_rfl) ?_
        refine JQ.cutN () ?_ ?_
        · (first | exact Keeps.k | skip)
        · exact Sub.of_cnt (fun a => by (try dsimp only); simp only [cntA]; omega)
      refine JAll.cons rfl ?_ JAll.nil
      refine JO.new rfl rfl rfl (.none rfl) (En.allocZ (cs := #[.slice none 0 0]) Tryd.zeroValue24 rfl) (fun b10 hb10 => ?_)
      refine JA.branch [0, 1] (by kernel_rfl) rfl ?_
      refine JAll.cons rfl ?_ ?_
      · -- 0
        refine JO.val rfl rfl rfl (.none rfl) (Ev.lB Tryd.underlying24 Tryd.sizeOf24) ?_
        refine JA.one 1 ?_
        refine JO.new rfl rfl rfl (.none rfl) (En.make8 (n := 8001) rfl rfl Tryd.underlying28 (by kernel_rfl) (by decide)) (fun b69 hb69 => ?_)
        obtain ⟨bm, rfl⟩ : ∃ b, b = b69 := ⟨_, rfl⟩
        refine JA.one 2 ?_
        refine JO.val rfl rfl rfl (.none rfl) (Ev.bu2 (v1 := u8 1) rfl rfl rfl rfl Tryd.underlying30 (fun _ => by kernel_rfl) Tryd.zeroValue30) ?_
        refine JA.one 3 ?_
        refine JO.re (d := 70) (v' := .agg (Et.cl ⟨1, some ⟨bm, 0, none⟩, 8001, bigE⟩).toArray) rfl (bigE_cl bm) ?_
        refine JO.callN rfl (.none rfl) rfl Tryd.call12 (fun w1 hw1 => bAdd_any o1 c1 xs1 ⟨1, some ⟨bm, 0, none⟩, 8001, bigE⟩ w1 (hB1 w1 hw1 (fun p hp => by rcases List.mem_append.1 hp with hp | hp <;> simp [hp])) (bs_big hw1 (by repeat (first | exact List.Mem.head _ | refine List.Mem.tail _ ?_ | refine List.mem_append_right _ ?_)))) ?_
        rintro _ _ ⟨z4, rfl, r4, os4, rfl, rfl, hr4, hok4, he4⟩
        refine JA.re (d := 71) (v' := .tuple #[.agg #[Row.v os4.length r4], .int .i64 2]) rfl (congrArg (fun e => Value.tuple #[.agg #[Row.v os4.length r4], .int .i64 e]) (by rw [hxe]; exact nm_big)) ?_
        refine JA.tkc 4 rfl (.none rfl) (fun _ => (Ev.move rfl)) ?_
        refine JA.tkc 5 rfl (.none rfl) (fun _ => (Ev.ex0 rfl)) ?_
        refine JA.tkc 6 rfl (.none rfl) (fun _ => (Ev.ex1 rfl)) ?_
        refine JA.one 8 ?_
        refine JO.sto rfl rfl (.none rfl) (Es.storeA rfl rfl Tryd.sizeOf24 (by repeat (first | exact .here | apply Upd.there | apply Upd.assoc | apply Upd.left)) rfl rfl (fun u hu => by simp only [List.mem_singleton] at hu; subst hu; exact rowv_one _ _)) ?_
        refine JA.tkc 9 rfl (.none rfl) (fun _ => (Ev.assign rfl)) ?_
        refine JA.done (by kernel_rfl) ?_
        refine JQ.cutN () ?_ ?_
        · (first | exact Keeps.k | skip)
        · exact Sub.of_cnt (fun a => by (try dsimp only); simp only [cntA]; omega)
      refine JAll.cons rfl ?_ JAll.nil
      refine JO.new rfl rfl rfl (.none rfl) (En.make8 (n := 8001) rfl rfl Tryd.underlying28 (by kernel_rfl) (by decide)) (fun b69 hb69 => ?_)
      obtain ⟨bm, rfl⟩ : ∃ b, b = b69 := ⟨_, rfl⟩
      refine JA.branch [0, 2] (by kernel_rfl) rfl ?_
      refine JAll.cons rfl ?_ ?_
      · -- 0
        refine JO.val rfl rfl rfl (.none rfl) (Ev.lB Tryd.underlying24 Tryd.sizeOf24) ?_
        refine JA.one 2 ?_
        refine JO.val rfl rfl rfl (.none rfl) (Ev.bu2 (v1 := u8 1) rfl rfl rfl rfl Tryd.underlying30 (fun _ => by kernel_rfl) Tryd.zeroValue30) ?_
        refine JA.one 3 ?_
        refine JO.re (d := 70) (v' := .agg (Et.cl ⟨1, some ⟨bm, 0, none⟩, 8001, bigE⟩).toArray) rfl (bigE_cl bm) ?_
        refine JO.callN rfl (.none rfl) rfl Tryd.call12 (fun w1 hw1 => bAdd_any o1 c1 xs1 ⟨1, some ⟨bm, 0, none⟩, 8001, bigE⟩ w1 (hB1 w1 hw1 (fun p hp => by rcases List.mem_append.1 hp with hp | hp <;> simp [hp])) (bs_big hw1 (by repeat (first | exact List.Mem.head _ | refine List.Mem.tail _ ?_ | refine List.mem_append_right _ ?_)))) ?_
        rintro _ _ ⟨z4, rfl, r4, os4, rfl, rfl, hr4, hok4, he4⟩
        refine JA.re (d := 71) (v' := .tuple #[.agg #[Row.v os4.length r4], .int .i64 2]) rfl (congrArg (fun e => Value.tuple #[.agg #[Row.v os4.length r4], .int .i64 e]) (by rw [hxe]; exact nm_big)) ?_
        refine JA.tkc 4 rfl (.none rfl) (fun _ => (Ev.move rfl)) ?_
        refine JA.tkc 5 rfl (.none rfl) (fun _ => (Ev.ex0 rfl)) ?_
        refine JA.tkc 6 rfl (.none rfl) (fun _ => (Ev.ex1 rfl)) ?_
        refine JA.one 8 ?_
        refine JO.sto rfl rfl (.none rfl) (Es.storeA rfl rfl Tryd.sizeOf24 (by repeat (first | exact .here | apply Upd.there | apply Upd.assoc | apply Upd.left)) rfl rfl (fun u hu => by simp only [List.mem_singleton] at hu; subst hu; exact rowv_one _ _)) ?_
        refine JA.tkc 9 rfl (.none rfl) (fun _ => (Ev.assign rfl)) ?_
        refine JA.done (by kernel_rfl) ?_
        refine JQ.cutN () ?_ ?_
        · (first | exact Keeps.k | skip)
        · exact Sub.of_cnt (fun a => by (try dsimp only); simp only [cntA]; omega)
      refine JAll.cons rfl ?_ JAll.nil
      refine JO.val rfl rfl rfl (.none rfl) (Ev.bu2 (v1 := u8 1) rfl rfl rfl rfl Tryd.underlying30 (fun _ => by kernel_rfl) Tryd.zeroValue30) ?_
      refine JA.one 0 ?_
      refine JO.val rfl rfl rfl (.none rfl) (Ev.lB Tryd.underlying24 Tryd.sizeOf24) ?_
      refine JA.one 3 ?_
      refine JO.re (d := 70) (v' := .agg (Et.cl ⟨1, some ⟨bm, 0, none⟩, 8001, bigE⟩).toArray) rfl (bigE_cl bm) ?_
      refine JO.callN rfl (.none rfl) rfl Tryd.call12 (fun w1 hw1 => bAdd_any o1 c1 xs1 ⟨1, some ⟨bm, 0, none⟩, 8001, bigE⟩ w1 (hB1 w1 hw1 (fun p hp => by rcases List.mem_append.1 hp with hp | hp <;> simp [hp])) (bs_big hw1 (by repeat (first | exact List.Mem.head _ | refine List.Mem.tail _ ?_ | refine List.mem_append_right _ ?_)))) ?_
      rintro _ _ ⟨z4, rfl, r4, os4, rfl, rfl, hr4, hok4, he4⟩
      refine JA.re (d := 71) (v' := .tuple #[.agg #[Row.v os4.length r4], .int .i64 2]) rfl (congrArg (fun e => Value.tuple #[.agg #[Row.v os4.length r4], .int .i64 e]) (by rw [hxe]; exact nm_big)) ?_
      refine JA.tkc 4 rfl (.none rfl) (fun _ => (Ev.move rfl)) ?_
      refine JA.tkc 5 rfl (.none rfl) (fun _ => (Ev.ex0 rfl)) ?_
      refine JA.tkc 6 rfl (.none rfl) (fun _ => (Ev.ex1 rfl)) ?_
      refine JA.one 8 ?_
      refine JO.sto rfl rfl (.none rfl) (Es.storeA rfl rfl Tryd.sizeOf24 (by repeat (first | exact .here | apply Upd.there | apply Upd.assoc | apply Upd.left)) rfl rfl (fun u hu => by simp only [List.mem_singleton] at hu; subst hu; exact rowv_one _ _)) ?_
      refine JA.tkc 9 rfl (.none rfl) (fun _ => (Ev.assign rfl)) ?_
      refine JA.done (by kernel_rfl) ?_
      refine JQ.cutN () ?_ ?_
      · (first | exact Keeps.k | skip)
      · exact Sub.of_cnt (fun a => by (try dsimp only); simp only [cntA]; omega)
    rintro _
    refine JQ.thenN ?_
    refine JC.seq ?_
    refine JC.subH (H' := [(b1, Obj.cells #[.slice o1 xs1.length c1] 24 (0, 0)), (b3, Obj.cells #[.slice (some ⟨b42, 0, none⟩) 1024 1024] 24 (0, 0)), (b42, Obj.cells (ef (fullE 1024)).toArray 30 (0, 0))] ++ ((Row.b 30 r1 ++ oeD 5 os1) ++ Row.b 5 rT)) (Sub.of_cnt (fun a => by (try dsimp only); simp only [cntA]; omega)) ?_
    refine JC.cut (X := Unit) (fun _ => [(1, .pointer (some ⟨b1, 0, none⟩)), (3, .pointer (some ⟨b3, 0, none⟩)), (5, Row.v (txt h258).length rT), (7, .int .i64 2), (9, .int .i64 2), (11, .int .i64 2), (13, .int .i64 9)]) (fun _ => [(b1, Obj.cells #[.slice o1 xs1.length c1] 24 (0, 0)), (b3, Obj.cells #[.slice (some ⟨b42, 0, none⟩) 1024 1024] 24 (0, 0)), (b42, Obj.cells (ef (fullE 1024)).toArray 30 (0, 0))] ++ ((Row.b 30 r1 ++ oeD 5 os1) ++ Row.b 5 rT)) ?_ ?_
    · refine JC.regionA (by kernel_rfl) ?_
      refine JA.branch [0, 1, 6] (by kernel_rfl) rfl ?_
      refine JAll.cons rfl ?_ ?_
      · -- 0
        refine JO.val rfl rfl rfl (.none rfl) (Ev.lB Tryd.underlying24 Tryd.sizeOf24) ?_
        refine JA.branch [1, 6] (by kernel_rfl) rfl ?_
        refine JAll.cons rfl ?_ ?_
        · -- 1
          refine JO.callV rfl (.none rfl) rfl Tryd.call13 (fun w1 hw1 => entry_any none 0 [] w1) ?_
          refine JA.branch [2, 6] (by kernel_rfl) rfl ?_
          refine JAll.cons rfl ?_ ?_
          · -- 2
            refine JO.re (d := 75) (v' := .agg #[.slice (some ⟨b42, 0, none⟩) (fullE 1024).length 1024]) rfl (by rw [fullE_len (by decide)]) ?_
            refine JO.callN rfl (.none rfl) rfl Tryd.call12 (fun w1 hw1 => bAdd_any (some ⟨b42, 0, none⟩) 1024 (fullE 1024) ⟨5, none, 0, []⟩ w1 (bd_full hw1 (by repeat (first | exact List.Mem.head _ | refine List.Mem.tail _ ?_ | refine List.mem_append_right _ ?_))) bs_nil) ?_
            rintro _ _ ⟨z5, rfl, r5, os5, rfl, rfl, hr5, hok5, he5⟩
            refine JA.re (d := 77) (v' := .tuple #[.agg #[Row.v os5.length r5], .int .i64 9]) rfl (congrArg (fun e => Value.tuple #[.agg #[Row.v os5.length r5], .int .i64 e]) (nm_full)) ?_
            refine JA.tkc 3 rfl (.none rfl) (fun _ => (Ev.move rfl)) ?_
            refine JA.tkc 4 rfl (.none rfl) (fun _ => (Ev.ex0 rfl)) ?_
            refine JA.tkc 5 rfl (.none rfl) (fun _ => (Ev.ex1 rfl)) ?_
            refine JA.one 6 ?_
            refine JO.new rfl rfl rfl (.none rfl) (En.allocZ (cs := #[.slice none 0 0]) Tryd.zeroValue24 rfl) (fun b12 hb12 => ?_)
            refine JA.one 7 ?_
            refine JO.sto rfl rfl (.none rfl) (Es.storeA rfl rfl Tryd.sizeOf24 (by repeat (first | exact .here | apply Upd.there | apply Upd.assoc | apply Upd.left)) rfl rfl (fun u hu => by simp only [List.mem_singleton] at hu; subst hu; exact rowv_one _ _)) ?_
            refine JA.tkc 8 rfl (.none rfl) (fun _ => (Ev.assign rfl)) ?_
            refine JA.done (by kernel_rfl) ?_
            refine JQ.cutN () ?_ ?_
            · (first | exact Keeps.k | skip)
            · exact Sub.of_cnt (fun a => by (try dsimp only); simp only [cntA]; omega)
          refine JAll.cons rfl ?_ JAll.nil
          refine JO.new rfl rfl rfl (.none rfl) (En.allocZ (cs := #[.slice none 0 0]) Tryd.zeroValue24 rfl) (fun b12 hb12 => ?_)
          refine JA.one 2 ?_
          refine JO.re (d := 75) (v' := .agg #[.slice (some ⟨b42, 0, none⟩) (fullE 1024).length 1024]) rfl (by rw [fullE_len (by decide)]) ?_
          refine JO.callN rfl (.none rfl) rfl Tryd.call12 (fun w1 hw1 => bAdd_any (some ⟨b42, 0, none⟩) 1024 (fullE 1024) ⟨5, none, 0, []⟩ w1 (bd_full hw1 (by repeat (first | exact List.Mem.head _ | refine List.Mem.tail _ ?_ | refine List.mem_append_right _ ?_))) bs_nil) ?_
          rintro _ _ ⟨z5, rfl, r5, os5, rfl, rfl, hr5, hok5, he5⟩
          refine JA.re (d := 77) (v' := .tuple #[.agg #[Row.v os5.length r5], .int .i64 9]) rfl (congrArg (fun e => Value.tuple #[.agg #[Row.v os5.length r5], .int .i64 e]) (nm_full)) ?_
          refine JA.tkc 3 rfl (.none rfl) (fun _ => (Ev.move rfl)) ?_
          refine JA.tkc 4 rfl (.none rfl) (fun _ => (Ev.ex0 rfl)) ?_
          refine JA.tkc 5 rfl (.none rfl) (fun _ => (Ev.ex1 rfl)) ?_
          refine JA.one 7 ?_
          refine JO.sto rfl rfl (.none rfl) (Es.storeA rfl rfl Tryd.sizeOf24 (by repeat (first | exact .here | apply Upd.there | apply Upd.assoc | apply Upd.left)) rfl rfl (fun u hu => by simp only [List.mem_singleton] at hu; subst hu; exact rowv_one _ _)) ?_
          refine JA.tkc 8 rfl (.none rfl) (fun _ => (Ev.assign rfl)) ?_
          refine JA.done (by kernel_rfl) ?_
          refine JQ.cutN () ?_ ?_
          · (first | exact Keeps.k | skip)
          · exact Sub.of_cnt (fun a => by (try dsimp only); simp only [cntA]; omega)
        refine JAll.cons rfl ?_ JAll.nil
        refine JO.new rfl rfl rfl (.none rfl) (En.allocZ (cs := #[.slice none 0 0]) Tryd.zeroValue24 rfl) (fun b12 hb12 => ?_)
        refine JA.one 1 ?_
        refine JO.callV rfl (.none rfl) rfl Tryd.call13 (fun w1 hw1 => entry_any none 0 [] w1) ?_
        refine JA.one 2 ?_
        refine JO.re (d := 75) (v' := .agg #[.slice (some ⟨b42, 0, none⟩) (fullE 1024).length 1024]) rfl (by rw [fullE_len (by decide)]) ?_
        refine JO.callN rfl (.none rfl) rfl Tryd.call12 (fun w1 hw1 => bAdd_any (some ⟨b42, 0, none⟩) 1024 (fullE 1024) ⟨5, none, 0, []⟩ w1 (bd_full hw1 (by repeat (first | exact List.Mem.head _ | refine List.Mem.tail _ ?_ | refine List.mem_append_right _ ?_))) bs_nil) ?_
        rintro _ _ ⟨z5, rfl, r5, os5, rfl, rfl, hr5, hok5, he5⟩
        refine JA.re (d := 77) (v' := .tuple #[.agg #[Row.v os5.length r5], .int .i64 9]) rfl (congrArg (fun e => Value.tuple #[.agg #[Row.v os5.length r5], .int .i64 e]) (nm_full)) ?_
        refine JA.tkc 3 rfl (.none rfl) (fun _ => (Ev.move rfl)) ?_
        refine JA.tkc 4 rfl (.none rfl) (fun _ => (Ev.ex0 rfl)) ?_
        refine JA.tkc 5 rfl (.none rfl) (fun _ => (Ev.ex1 rfl)) ?_
        refine JA.one 7 ?_
        refine JO.sto rfl rfl (.none rfl) (Es.storeA rfl rfl Tryd.sizeOf24 (by repeat (first | exact .here | apply Upd.there | apply Upd.assoc | apply Upd.left)) rfl rfl (fun u hu => by simp only [List.mem_singleton] at hu; subst hu; exact rowv_one _ _)) ?_
        refine JA.tkc 8 rfl (.none rfl) (fun _ => (Ev.assign rfl)) ?_
        refine JA.done (by kernel_rfl) ?_
        refine JQ.cutN () ?_ ?_
        · (first | exact Keeps.k | skip)
        · exact Sub.of_cnt (fun a => by (try dsimp only); simp only [cntA]; omega)
      refine JAll.cons rfl ?_ ?_
      · -- 1
        refine JO.callV rfl (.none rfl) rfl Tryd.call13 (fun w1 hw1 => entry_any none 0 [] w1) ?_
        refine JA.branch [0, 6] (by kernel_rfl) rfl ?_
        refine JAll.cons rfl ?_ ?_
        · -- 0
          refine JO.val rfl rfl rfl (.none rfl) (Ev.lB Tryd.underlying24 Tryd.sizeOf24) ?_
          refine JA.branch [2, 6] (by kernel_rfl) rfl ?_
          refine JAll.cons rfl ?_ ?_
          · -- 2
            refine JO.re (d := 75) (v' := .agg #[.slice (some ⟨b42, 0, none⟩) (fullE 1024).length 1024]) rfl (by rw [fullE_len (by decide)]) ?_
            refine JO.callN rfl (.none rfl) rfl Tryd.call12 (fun w1 hw1 => bAdd_any (some ⟨b42, 0, none⟩) 1024 (fullE 1024) ⟨5, none, 0, []⟩ w1 (bd_full hw1 (by repeat (first | exact List.Mem.head _ | refine List.Mem.tail _ ?_ | refine List.mem_append_right _ ?_))) bs_nil) ?_
            rintro _ _ ⟨z5, rfl, r5, os5, rfl, rfl, hr5, hok5, he5⟩
            refine JA.re (d := 77) (v' := .tuple #[.agg #[Row.v os5.length r5], .int .i64 9]) rfl (congrArg (fun e => Value.tuple #[.agg #[Row.v os5.length r5], .int .i64 e]) (nm_full)) ?_
            refine JA.tkc 3 rfl (.none rfl) (fun _ => (Ev.move rfl)) ?_
            refine JA.tkc 4 rfl (.none rfl) (fun _ => (Ev.ex0 rfl)) ?_
            refine JA.tkc 5 rfl (.none rfl) (fun _ => (Ev.ex1 rfl)) ?_
            refine JA.one 6 ?_
            refine JO.new rfl rfl rfl (.none rfl) (En.allocZ (cs := #[.slice none 0 0]) Tryd.zeroValue24 rfl) (fun b12 hb12 => ?_)
            refine JA.one 7 ?_
            refine JO.sto rfl rfl (.none rfl) (Es.storeA rfl rfl Tryd.sizeOf24 (by repeat (first | exact .here | apply Upd.there | apply Upd.assoc | apply Upd.left)) rfl rfl (fun u hu => by simp only [List.mem_singleton] at hu; subst hu; exact rowv_one _ _)) ?_
            refine JA.tkc 8 rfl (.none rfl) (fun _ => (Ev.assign rfl)) ?_
            refine JA.done (by kernel_rfl) ?_
            refine JQ.cutN () ?_ ?_
            · (first | exact Keeps.k | skip)
            · exact Sub.of_cnt (fun a => by (try dsimp only); simp only [cntA]; omega)
          refine JAll.cons rfl ?_ JAll.nil
          refine JO.new rfl rfl rfl (.none rfl) (En.allocZ (cs := #[.slice none 0 0]) Tryd.zeroValue24 rfl) (fun b12 hb12 => ?_)
          refine JA.one 2 ?_
          refine JO.re (d := 75) (v' := .agg #[.slice (some ⟨b42, 0, none⟩) (fullE 1024).length 1024]) rfl (by rw [fullE_len (by decide)]) ?_
          refine JO.callN rfl (.none rfl) rfl Tryd.call12 (fun w1 hw1 => bAdd_any (some ⟨b42, 0, none⟩) 1024 (fullE 1024) ⟨5, none, 0, []⟩ w1 (bd_full hw1 (by repeat (first | exact List.Mem.head _ | refine List.Mem.tail _ ?_ | refine List.mem_append_right _ ?_))) bs_nil) ?_
          rintro _ _ ⟨z5, rfl, r5, os5, rfl, rfl, hr5, hok5, he5⟩
          refine JA.re (d := 77) (v' := .tuple #[.agg #[Row.v os5.length r5], .int .i64 9]) rfl (congrArg (fun e => Value.tuple #[.agg #[Row.v os5.length r5], .int .i64 e]) (nm_full)) ?_
          refine JA.tkc 3 rfl (.none rfl) (fun _ => (Ev.move rfl)) ?_
          refine JA.tkc 4 rfl (.none rfl) (fun _ => (Ev.ex0 rfl)) ?_
          refine JA.tkc 5 rfl (.none rfl) (fun _ => (Ev.ex1 rfl)) ?_
          refine JA.one 7 ?_
          refine JO.sto rfl rfl (.none rfl) (Es.storeA rfl rfl Tryd.sizeOf24 (by repeat (first | exact .here | apply Upd.there | apply Upd.assoc | apply Upd.left)) rfl rfl (fun u hu => by simp only [List.mem_singleton] at hu; subst hu; exact rowv_one _ _)) ?_
          refine JA.tkc 8 rfl (.none rfl) (fun _ => (Ev.assign rfl)) ?_
          refine JA.done (by kernel_rfl) ?_
          refine JQ.cutN () ?_ ?_
          · (first | exact Keeps.k | skip)
          · exact Sub.of_cnt (fun a => by (try dsimp only); simp only [cntA]; omega)
        refine JAll.cons rfl ?_ JAll.nil
        refine JO.new rfl rfl rfl (.none rfl) (En.allocZ (cs := #[.slice none 0 0]) Tryd.zeroValue24 rfl) (fun b12 hb12 => ?_)
        refine JA.one 0 ?_
        refine JO.val rfl rfl rfl (.none rfl) (Ev.lB Tryd.underlying24 Tryd.sizeOf24) ?_
        refine JA.one 2 ?_
        refine JO.re (d := 75) (v' := .agg #[.slice (some ⟨b42, 0, none⟩) (fullE 1024).length 1024]) rfl (by rw [fullE_len (by decide)]) ?_
        refine JO.callN rfl (.none rfl) rfl Tryd.call12 (fun w1 hw1 => bAdd_any (some ⟨b42, 0, none⟩) 1024 (fullE 1024) ⟨5, none, 0, []⟩ w1 (bd_full hw1 (by repeat (first | exact List.Mem.head _ | refine List.Mem.tail _ ?_ | refine List.mem_append_right _ ?_))) bs_nil) ?_
        rintro _ _ ⟨z5, rfl, r5, os5, rfl, rfl, hr5, hok5, he5⟩
        refine JA.re (d := 77) (v' := .tuple #[.agg #[Row.v os5.length r5], .int .i64 9]) rfl (congrArg (fun e => Value.tuple #[.agg #[Row.v os5.length r5], .int .i64 e]) (nm_full)) ?_
        refine JA.tkc 3 rfl (.none rfl) (fun _ => (Ev.move rfl)) ?_
        refine JA.tkc 4 rfl (.none rfl) (fun _ => (Ev.ex0 rfl)) ?_
        refine JA.tkc 5 rfl (.none rfl) (fun _ => (Ev.ex1 rfl)) ?_
        refine JA.one 7 ?_
        refine JO.sto rfl rfl (.none rfl) (Es.storeA rfl rfl Tryd.sizeOf24 (by repeat (first | exact .here | apply Upd.there | apply Upd.assoc | apply Upd.left)) rfl rfl (fun u hu => by simp only [List.mem_singleton] at hu; subst hu; exact rowv_one _ _)) ?_
        refine JA.tkc 8 rfl (.none rfl) (fun _ => (Ev.assign rfl)) ?_
        refine JA.done (by kernel_rfl) ?_
        refine JQ.cutN () ?_ ?_
        · (first | exact Keeps.k | skip)
        · exact Sub.of_cnt (fun a => by (try dsimp only); simp only [cntA]; omega)
      refine JAll.cons rfl ?_ JAll.nil
      refine JO.new rfl rfl rfl (.none rfl) (En.allocZ (cs := #[.slice none 0 0]) Tryd.zeroValue24 rfl) (fun b12 hb12 => ?_)
      refine JA.branch [0, 1] (by kernel_rfl) rfl ?_
      refine JAll.cons rfl ?_ ?_
      · -- 0
        refine JO.val rfl rfl rfl (.none rfl) (Ev.lB Tryd.underlying24 Tryd.sizeOf24) ?_
        refine JA.one 1 ?_
        refine JO.callV rfl (.none rfl) rfl Tryd.call13 (fun w1 hw1 => entry_any none 0 [] w1) ?_
        refine JA.one 2 ?_
        refine JO.re (d := 75) (v' := .agg #[.slice (some ⟨b42, 0, none⟩) (fullE 1024).length 1024]) rfl (by rw [fullE_len (by decide)]) ?_
        refine JO.callN rfl (.none rfl) rfl Tryd.call12 (fun w1 hw1 => bAdd_any (some ⟨b42, 0, none⟩) 1024 (fullE 1024) ⟨5, none, 0, []⟩ w1 (bd_full hw1 (by repeat (first | exact List.Mem.head _ | refine List.Mem.tail _ ?_ | refine List.mem_append_right _ ?_))) bs_nil) ?_
        rintro _ _ ⟨z5, rfl, r5, os5, rfl, rfl, hr5, hok5, he5⟩
        refine JA.re (d := 77) (v' := .tuple #[.agg #[Row.v os5.length r5], .int .i64 9]) rfl (congrArg (fun e => Value.tuple #[.agg #[Row.v os5.length r5], .int .i64 e]) (nm_full)) ?_
        refine JA.tkc 3 rfl (.none rfl) (fun _ => (Ev.move rfl)) ?_
        refine JA.tkc 4 rfl (.none rfl) (fun _ => (Ev.ex0 rfl)) ?_
        refine JA.tkc 5 rfl (.none rfl) (fun _ => (Ev.ex1 rfl)) ?_
        refine JA.one 7 ?_
        refine JO.sto rfl rfl (.none rfl) (Es.storeA rfl rfl Tryd.sizeOf24 (by repeat (first | exact .here | apply Upd.there | apply Upd.assoc | apply Upd.left)) rfl rfl (fun u hu => by simp only [List.mem_singleton] at hu; subst hu; exact rowv_one _ _)) ?_
        refine JA.tkc 8 rfl (.none rfl) (fun _ => (Ev.assign rfl)) ?_
        refine JA.done (by kernel_rfl) ?_
        refine JQ.cutN () ?_ ?_
        · (first | exact Keeps.k | skip)
        · exact Sub.of_cnt (fun a => by (try dsimp only); simp only [cntA]; omega)
      refine JAll.cons rfl ?_ JAll.nil
      refine JO.callV rfl (.none rfl) rfl Tryd.call13 (fun w1 hw1 => entry_any none 0 [] w1) ?_
      refine JA.one 0 ?_
      refine JO.val rfl rfl rfl (.none rfl) (Ev.lB Tryd.underlying24 Tryd.sizeOf24) ?_
      refine JA.one 2 ?_
      refine JO.re (d := 75) (v' := .agg #[.slice (some ⟨b42, 0, none⟩) (fullE 1024).length 1024]) rfl (by rw [fullE_len (by decide)]) ?_
      refine JO.callN rfl (.none rfl) rfl Tryd.call12 (fun w1 hw1 => bAdd_any (some ⟨b42, 0, none⟩) 1024 (fullE 1024) ⟨5, none, 0, []⟩ w1 (bd_full hw1 (by repeat (first | exact List.Mem.head _ | refine List.Mem.tail _ ?_ | refine List.mem_append_right _ ?_))) bs_nil) ?_
      rintro _ _ ⟨z5, rfl, r5, os5, rfl, rfl, hr5, hok5, he5⟩
      refine JA.re (d := 77) (v' := .tuple #[.agg #[Row.v os5.length r5], .int .i64 9]) rfl (congrArg (fun e => Value.tuple #[.agg #[Row.v os5.length r5], .int .i64 e]) (nm_full)) ?_
      refine JA.tkc 3 rfl (.none rfl) (fun _ => (Ev.move rfl)) ?_
      refine JA.tkc 4 rfl (.none rfl) (fun _ => (Ev.ex0 rfl)) ?_
      refine JA.tkc 5 rfl (.none rfl) (fun _ => (Ev.ex1 rfl)) ?_
      refine JA.one 7 ?_
      refine JO.sto rfl rfl (.none rfl) (Es.storeA rfl rfl Tryd.sizeOf24 (by repeat (first | exact .here | apply Upd.there | apply Upd.assoc | apply Upd.left)) rfl rfl (fun u hu => by simp only [List.mem_singleton] at hu; subst hu; exact rowv_one _ _)) ?_
      refine JA.tkc 8 rfl (.none rfl) (fun _ => (Ev.assign rfl)) ?_
      refine JA.done (by kernel_rfl) ?_
      refine JQ.cutN () ?_ ?_
      · (first | exact Keeps.k | skip)
      · exact Sub.of_cnt (fun a => by (try dsimp only); simp only [cntA]; omega)
    rintro _
    refine JQ.thenN ?_
    refine JC.seq ?_
    refine JC.subH (H' := [(b1, Obj.cells #[.slice o1 xs1.length c1] 24 (0, 0)), (b3, Obj.cells #[.slice (some ⟨b42, 0, none⟩) 1024 1024] 24 (0, 0)), (b42, Obj.cells (ef (fullE 1024)).toArray 30 (0, 0))] ++ ((Row.b 30 r1 ++ oeD 5 os1) ++ Row.b 5 rT)) (Sub.of_cnt (fun a => by (try dsimp only); simp only [cntA]; omega)) ?_
    refine JC.region ?_
    refine JL.new rfl rfl rfl (.none rfl) (En.makeE (n := 1) rfl rfl Tryd.underlying22 (by kernel_rfl) (by decide)) (fun b81 hb81 => ?_)
    refine JL.val rfl rfl rfl (.none rfl) (Ev.buN rfl (fun _ => by kernel_rfl)) ?_
    refine JL.val rfl rfl rfl (.none rfl) (Ev.build (parts := []) (vs := []) (cs := (Et.cl ⟨0, none, 0, []⟩).toArray) (fun _ _ => rfl) (fun _ => by kernel_rfl)) ?_
    refine JL.callN rfl (.none rfl) rfl Tryd.call12 (fun w1 hw1 => bAdd_any (some ⟨b81, 0, none⟩) 1 [⟨0, none, 0, []⟩] ⟨0, none, 0, []⟩ w1 (bd_zero (n := 1) hw1 (by repeat (first | exact List.Mem.head _ | refine List.Mem.tail _ ?_ | refine List.mem_append_right _ ?_)) (by decide)) bs_nil) ?_
    rintro _ _ ⟨z6, rfl, r6, os6, rfl, rfl, hr6, hok6, he6⟩
    refine JL.mv ?_
    refine JL.val rfl rfl rfl (.none rfl) (Ev.ex0 rfl) ?_
    refine JL.val rfl rfl rfl (.none rfl) (Ev.ex1 rfl) ?_
    refine JL.new rfl rfl rfl (.none rfl) (En.allocZ (cs := #[.slice none 0 0]) Tryd.zeroValue24 rfl) (fun b14 hb14 => ?_)
    refine JL.sto rfl rfl (.none rfl) (Es.storeA rfl rfl Tryd.sizeOf24 (by repeat (first | exact .here | apply Upd.there | apply Upd.assoc | apply Upd.left)) rfl rfl (fun u hu => by simp only [List.mem_singleton] at hu; subst hu; exact rowv_one _ _)) ?_
    refine JL.re (d := 86) (v' := .int .i64 8) rfl (congrArg (Value.int .i64) (by decide +kernel)) ?_
    refine JL.asg ?_
    refine JL.nil ?_
    refine JQ.thenN ?_
    refine JC.seq ?_
    refine JC.subH (H' := [(b1, Obj.cells #[.slice o1 xs1.length c1] 24 (0, 0)), (b3, Obj.cells #[.slice (some ⟨b42, 0, none⟩) 1024 1024] 24 (0, 0)), (b42, Obj.cells (ef (fullE 1024)).toArray 30 (0, 0))] ++ ((Row.b 30 r1 ++ oeD 5 os1) ++ Row.b 5 rT)) (Sub.of_cnt (fun a => by (try dsimp only); simp only [cntA]; omega)) ?_
    refine JC.region ?_
    refine JL.val rfl rfl rfl (.none rfl) (Ev.lB Tryd.underlying24 Tryd.sizeOf24) ?_
    refine JL.callN rfl (.none rfl) rfl Tryd.call15 (fun w1 hw1 => bProve_any o1 c1 xs1 1 (by decide) w1 (hB1 w1 hw1 (fun p hp => by rcases List.mem_append.1 hp with hp | hp <;> simp [hp])) (hk.old hw1) (hf.old hw1)) ?_
    rintro _ _ ⟨r7, rfl, rfl, hr7⟩
    refine JL.mv ?_
    refine JL.val rfl rfl rfl (.none rfl) (Ev.ex0 rfl) ?_
    refine JL.val rfl rfl rfl (.none rfl) (Ev.ex1 rfl) ?_
    refine JL.asg ?_
    refine JL.re (d := 91) (v' := .int .i64 2) rfl (congrArg (Value.int .i64) (by rw [hxe]; exact nm_prove)) ?_
    refine JL.asg ?_
    refine JL.nil ?_
    refine JQ.thenN ?_
    refine JC.seq ?_
    refine JC.subH (H' := [(b1, Obj.cells #[.slice o1 xs1.length c1] 24 (0, 0)), (b3, Obj.cells #[.slice (some ⟨b42, 0, none⟩) 1024 1024] 24 (0, 0)), (b42, Obj.cells (ef (fullE 1024)).toArray 30 (0, 0))] ++ ((Row.b 30 r1 ++ oeD 5 os1) ++ Row.b 5 rT)) (Sub.of_cnt (fun a => by (try dsimp only); simp only [cntA]; omega)) ?_
    refine JC.region ?_
    refine JL.val rfl rfl rfl (.none rfl) (Ev.lB Tryd.underlying24 Tryd.sizeOf24) ?_
    refine JL.callN rfl (.none rfl) rfl Tryd.call16 (fun w1 hw1 => bExtend_any o1 c1 xs1 0 (by decide) w1 (hB1 w1 hw1 (fun p hp => by rcases List.mem_append.1 hp with hp | hp <;> simp [hp])) (hk.old hw1) (hf.old hw1)) ?_
    rintro _ _ ⟨r8, rfl, rfl, hr8⟩
    refine JL.mv ?_
    refine JL.val rfl rfl rfl (.none rfl) (Ev.ex0 rfl) ?_
    refine JL.val rfl rfl rfl (.none rfl) (Ev.ex1 rfl) ?_
    refine JL.asg ?_
    refine JL.re (d := 96) (v' := .int .i64 2) rfl (congrArg (Value.int .i64) (by rw [hxe]; exact nm_extend)) ?_
    refine JL.asg ?_
    refine JL.nil ?_
    refine JQ.thenN ?_
    refine JC.seq ?_
    refine JC.subH (H' := [(b1, Obj.cells #[.slice o1 xs1.length c1] 24 (0, 0)), (b3, Obj.cells #[.slice (some ⟨b42, 0, none⟩) 1024 1024] 24 (0, 0)), (b42, Obj.cells (ef (fullE 1024)).toArray 30 (0, 0))] ++ ((Row.b 30 r1 ++ oeD 5 os1) ++ Row.b 5 rT)) (Sub.of_cnt (fun a => by (try dsimp only); simp only [cntA]; omega)) ?_
    refine JC.region ?_
    refine JL.val rfl rfl rfl (.none rfl) (Ev.lB Tryd.underlying24 Tryd.sizeOf24) ?_
    refine JL.callN rfl (.none rfl) rfl Tryd.call17 (fun w1 hw1 => bFind_any o1 c1 xs1 0 w1 (hB1 w1 hw1 (fun p hp => by rcases List.mem_append.1 hp with hp | hp <;> simp [hp]))) ?_
    rintro _ _ ⟨r9, rfl, rfl, hr9⟩
    refine JL.mv ?_
    refine JL.val rfl rfl rfl (.none rfl) (Ev.ex0 rfl) ?_
    refine JL.val rfl rfl rfl (.none rfl) (Ev.ex1 rfl) ?_
    refine JL.asg ?_
    refine JL.re (d := 101) (v' := .int .i64 2) rfl (congrArg (Value.int .i64) (by rw [hxe]; decide +kernel)) ?_
    refine JL.asg ?_
    refine JL.nil ?_
    refine JQ.thenN ?_
    refine JC.seq ?_
    refine JC.subH (H' := [(b1, Obj.cells #[.slice o1 xs1.length c1] 24 (0, 0)), (b3, Obj.cells #[.slice (some ⟨b42, 0, none⟩) 1024 1024] 24 (0, 0)), (b42, Obj.cells (ef (fullE 1024)).toArray 30 (0, 0))] ++ ((Row.b 30 r1 ++ oeD 5 os1) ++ Row.b 5 rT)) (Sub.of_cnt (fun a => by (try dsimp only); simp only [cntA]; omega)) ?_
    refine JC.region ?_
    refine JL.val rfl rfl rfl (.none rfl) (Ev.build (parts := [(0, .const (.int .u8 14))]) (vs := [(0, .int .u8 14)]) (cs := (Et.cl ⟨14, none, 0, []⟩).toArray) (fun _ _ => rfl) (fun _ => by kernel_rfl)) ?_
    refine JL.callV rfl (.none rfl) rfl Tryd.call18 (fun w1 hw1 => bLeaf_any ⟨14, none, 0, []⟩ w1 bs_nil (hk.old hw1) (hf.old hw1)) ?_
    refine JL.mv ?_
    refine JL.val rfl rfl rfl (.none rfl) (Ev.ex0 rfl) ?_
    refine JL.val rfl rfl rfl (.none rfl) (Ev.ex1 rfl) ?_
    refine JL.new rfl rfl rfl (.none rfl) (En.allocZ (cs := arr8 (List.replicate 32 0)) Tryd.zeroValue33 rfl) (fun b22 hb22 => ?_)
    refine JL.sto rfl rfl (.none rfl) (Es.sA Tryd.sizeOf33) ?_
    refine JL.re (d := 106) (v' := .int .i64 2) rfl (congrArg (Value.int .i64) (by decide +kernel)) ?_
    refine JL.asg ?_
    refine JL.nil ?_
    refine JQ.thenN ?_
    refine JC.seq ?_
    refine JC.subH (H' := [(b1, Obj.cells #[.slice o1 xs1.length c1] 24 (0, 0)), (b3, Obj.cells #[.slice (some ⟨b42, 0, none⟩) 1024 1024] 24 (0, 0)), (b42, Obj.cells (ef (fullE 1024)).toArray 30 (0, 0))] ++ ((Row.b 30 r1 ++ oeD 5 os1) ++ Row.b 5 rT)) (Sub.of_cnt (fun a => by (try dsimp only); simp only [cntA]; omega)) ?_
    refine JC.region ?_
    refine JL.val rfl rfl rfl (.none rfl) (Ev.build (parts := []) (vs := []) (cs := (Hd.cl ⟨0, zeroD, 0, 0⟩).toArray) (fun _ _ => rfl) (fun _ => by kernel_rfl)) ?_
    refine JL.new rfl rfl rfl (.none rfl) (En.bsN (e := 5) rfl (fun _ => by kernel_rfl)) (fun b109 hb109 => ?_)
    refine JL.callV rfl (.none rfl) rfl Tryd.call13 (fun w1 hw1 => entry_any (some ⟨b109, 0, none⟩) 1 [1] w1) ?_
    refine JL.callV rfl (.none rfl) rfl Tryd.call19 (fun w1 hw1 => bIncludes_any ⟨0, zeroD, 0, 0⟩ ⟨5, some ⟨b109, 0, none⟩, 1, [1]⟩ 0 none 0 [] w1 cs_nil ((cs_block (xs := ([1] : List UInt8).map u8) hw1 (by repeat (first | exact List.Mem.head _ | refine List.Mem.tail _ ?_ | refine List.mem_append_right _ ?_)) (show 1 ≤ 1000000 by decide)).bs rfl) (hk.old hw1) (hf.old hw1)) ?_
    refine JL.mv ?_
    refine JL.val rfl rfl rfl (.none rfl) (Ev.ex0 rfl) ?_
    refine JL.val rfl rfl rfl (.none rfl) (Ev.ex1 rfl) ?_
    refine JL.asg ?_
    refine JL.re (d := 113) (v' := .int .i64 2) rfl (congrArg (Value.int .i64) (inE_bad (.inr (by unfold badT; decide)))) ?_
    refine JL.asg ?_
    refine JL.nil ?_
    refine JQ.thenN ?_
    refine JC.seq ?_
    refine JC.subH (H' := [(b1, Obj.cells #[.slice o1 xs1.length c1] 24 (0, 0)), (b3, Obj.cells #[.slice (some ⟨b42, 0, none⟩) 1024 1024] 24 (0, 0)), (b42, Obj.cells (ef (fullE 1024)).toArray 30 (0, 0))] ++ ((Row.b 30 r1 ++ oeD 5 os1) ++ Row.b 5 rT)) (Sub.of_cnt (fun a => by (try dsimp only); simp only [cntA]; omega)) ?_
    refine JC.region ?_
    refine JL.val rfl rfl rfl (.none rfl) (Ev.build (parts := [(0, .const (.int .i64 2))]) (vs := [(0, .int .i64 2)]) (cs := (Hd.cl ⟨2, zeroD, 0, 0⟩).toArray) (fun _ _ => rfl) (fun _ => by kernel_rfl)) ?_
    refine JL.val rfl rfl rfl (.none rfl) (Ev.build (parts := [(0, .const (.int .i64 1))]) (vs := [(0, .int .i64 1)]) (cs := (Hd.cl ⟨1, zeroD, 0, 0⟩).toArray) (fun _ _ => rfl) (fun _ => by kernel_rfl)) ?_
    refine JL.callV rfl (.none rfl) rfl Tryd.call20 (fun w1 hw1 => bExtends_any ⟨2, zeroD, 0, 0⟩ ⟨1, zeroD, 0, 0⟩ none 0 [] w1 cs_nil (hk.old hw1) (hf.old hw1)) ?_
    refine JL.mv ?_
    refine JL.val rfl rfl rfl (.none rfl) (Ev.ex0 rfl) ?_
    refine JL.val rfl rfl rfl (.none rfl) (Ev.ex1 rfl) ?_
    refine JL.asg ?_
    refine JL.re (d := 119) (v' := .int .i64 2) rfl (congrArg (Value.int .i64) (vcE_bad (fcE_bad (by unfold badC; decide)))) ?_
    refine JL.asg ?_
    refine JL.nil ?_
    refine JQ.thenN ?_
    refine JC.seq ?_
    refine JC.subH (H' := [(b1, Obj.cells #[.slice o1 xs1.length c1] 24 (0, 0)), (b3, Obj.cells #[.slice (some ⟨b42, 0, none⟩) 1024 1024] 24 (0, 0)), (b42, Obj.cells (ef (fullE 1024)).toArray 30 (0, 0))] ++ ((Row.b 30 r1 ++ oeD 5 os1) ++ Row.b 5 rT)) (Sub.of_cnt (fun a => by (try dsimp only); simp only [cntA]; omega)) ?_
    refine JC.cut (X := Unit) (fun _ => [(1, .pointer (some ⟨b1, 0, none⟩)), (3, .pointer (some ⟨b3, 0, none⟩)), (5, Row.v (txt h258).length rT), (7, .int .i64 2), (9, .int .i64 2), (11, .int .i64 2), (13, .int .i64 9), (15, .int .i64 8), (17, .int .i64 2), (19, .int .i64 2), (21, .int .i64 2), (23, .int .i64 2), (25, .int .i64 2), (27, .int .i64 2), (29, .int .i64 2)]) (fun _ => [(b1, Obj.cells #[.slice o1 xs1.length c1] 24 (0, 0)), (b3, Obj.cells #[.slice (some ⟨b42, 0, none⟩) 1024 1024] 24 (0, 0)), (b42, Obj.cells (ef (fullE 1024)).toArray 30 (0, 0))] ++ ((Row.b 30 r1 ++ oeD 5 os1) ++ Row.b 5 rT)) ?_ ?_
    · refine JC.regionA (by kernel_rfl) ?_
      refine JA.branch [0, 1, 6] (by kernel_rfl) rfl ?_
      refine JAll.cons rfl ?_ ?_
      · -- 0
        refine JO.callV rfl (.none rfl) rfl Tryd.call22 (fun w1 hw1 => gDefault_any w1) ?_
        refine JA.branch [1, 6] (by kernel_rfl) rfl ?_
        refine JAll.cons rfl ?_ ?_
        · -- 1
          refine JO.val rfl rfl rfl (.none rfl) (Ev.lB Tryd.underlying24 Tryd.sizeOf24) ?_
          refine JA.branch [2, 6] (by kernel_rfl) rfl ?_
          refine JAll.cons rfl ?_ ?_
          · -- 2
            refine JO.callV rfl (.none rfl) rfl Tryd.call21 (fun w1 hw1 => bSign_any ⟨1000000007, 500000003, 4⟩ 0 o1 c1 xs1 w1 (hB1 w1 hw1 (fun p hp => by rcases List.mem_append.1 hp with hp | hp <;> simp [hp])) (hk.old hw1) (hf.old hw1)) ?_
            refine JA.re (d := 123) (v' := .tuple #[.agg (Hd.cl (sgH ⟨1000000007, 500000003, 4⟩ 0 (xs1.map Et.e))).toArray, .int .i64 2]) rfl (congrArg (fun e => Value.tuple #[.agg (Hd.cl (sgH ⟨1000000007, 500000003, 4⟩ 0 (xs1.map Et.e))).toArray, .int .i64 e]) (by rw [hxe]; exact nm_sign)) ?_
            refine JA.tkc 3 rfl (.none rfl) (fun _ => (Ev.move rfl)) ?_
            refine JA.tkc 4 rfl (.none rfl) (fun _ => (Ev.ex0 rfl)) ?_
            refine JA.tkc 5 rfl (.none rfl) (fun _ => (Ev.ex1 rfl)) ?_
            refine JA.one 6 ?_
            refine JO.new rfl rfl rfl (.none rfl) (En.allocZ (cs := (Hd.cl ⟨0, zeroD, 0, 0⟩).toArray) Tryd.zeroValue38 rfl) (fun b28 hb28 => ?_)
            refine JA.one 7 ?_
            refine JO.sto rfl rfl (.none rfl) (Es.storeA rfl rfl Tryd.sizeOf38 Upd.k (Hd.size _) (Hd.size _) (Hd.one _)) ?_
            refine JA.tkc 8 rfl (.none rfl) (fun _ => (Ev.assign rfl)) ?_
            refine JA.done (by kernel_rfl) ?_
            refine JQ.cutN () ?_ ?_
            · (first | exact Keeps.k | skip)
            · exact Sub.of_cnt (fun a => by (try dsimp only); simp only [cntA]; omega)
          refine JAll.cons rfl ?_ JAll.nil
          refine JO.new rfl rfl rfl (.none rfl) (En.allocZ (cs := (Hd.cl ⟨0, zeroD, 0, 0⟩).toArray) Tryd.zeroValue38 rfl) (fun b28 hb28 => ?_)
          refine JA.one 2 ?_
          refine JO.callV rfl (.none rfl) rfl Tryd.call21 (fun w1 hw1 => bSign_any ⟨1000000007, 500000003, 4⟩ 0 o1 c1 xs1 w1 (hB1 w1 hw1 (fun p hp => by rcases List.mem_append.1 hp with hp | hp <;> simp [hp])) (hk.old hw1) (hf.old hw1)) ?_
          refine JA.re (d := 123) (v' := .tuple #[.agg (Hd.cl (sgH ⟨1000000007, 500000003, 4⟩ 0 (xs1.map Et.e))).toArray, .int .i64 2]) rfl (congrArg (fun e => Value.tuple #[.agg (Hd.cl (sgH ⟨1000000007, 500000003, 4⟩ 0 (xs1.map Et.e))).toArray, .int .i64 e]) (by rw [hxe]; exact nm_sign)) ?_
          refine JA.tkc 3 rfl (.none rfl) (fun _ => (Ev.move rfl)) ?_
          refine JA.tkc 4 rfl (.none rfl) (fun _ => (Ev.ex0 rfl)) ?_
          refine JA.tkc 5 rfl (.none rfl) (fun _ => (Ev.ex1 rfl)) ?_
          refine JA.one 7 ?_
          refine JO.sto rfl rfl (.none rfl) (Es.storeA rfl rfl Tryd.sizeOf38 Upd.k (Hd.size _) (Hd.size _) (Hd.one _)) ?_
          refine JA.tkc 8 rfl (.none rfl) (fun _ => (Ev.assign rfl)) ?_
          refine JA.done (by kernel_rfl) ?_
          refine JQ.cutN () ?_ ?_
          · (first | exact Keeps.k | skip)
          · exact Sub.of_cnt (fun a => by (try dsimp only); simp only [cntA]; omega)
        refine JAll.cons rfl ?_ JAll.nil
        refine JO.new rfl rfl rfl (.none rfl) (En.allocZ (cs := (Hd.cl ⟨0, zeroD, 0, 0⟩).toArray) Tryd.zeroValue38 rfl) (fun b28 hb28 => ?_)
        refine JA.one 1 ?_
        refine JO.val rfl rfl rfl (.none rfl) (Ev.lB Tryd.underlying24 Tryd.sizeOf24) ?_
        refine JA.one 2 ?_
        refine JO.callV rfl (.none rfl) rfl Tryd.call21 (fun w1 hw1 => bSign_any ⟨1000000007, 500000003, 4⟩ 0 o1 c1 xs1 w1 (hB1 w1 hw1 (fun p hp => by rcases List.mem_append.1 hp with hp | hp <;> simp [hp])) (hk.old hw1) (hf.old hw1)) ?_
        refine JA.re (d := 123) (v' := .tuple #[.agg (Hd.cl (sgH ⟨1000000007, 500000003, 4⟩ 0 (xs1.map Et.e))).toArray, .int .i64 2]) rfl (congrArg (fun e => Value.tuple #[.agg (Hd.cl (sgH ⟨1000000007, 500000003, 4⟩ 0 (xs1.map Et.e))).toArray, .int .i64 e]) (by rw [hxe]; exact nm_sign)) ?_
        refine JA.tkc 3 rfl (.none rfl) (fun _ => (Ev.move rfl)) ?_
        refine JA.tkc 4 rfl (.none rfl) (fun _ => (Ev.ex0 rfl)) ?_
        refine JA.tkc 5 rfl (.none rfl) (fun _ => (Ev.ex1 rfl)) ?_
        refine JA.one 7 ?_
        refine JO.sto rfl rfl (.none rfl) (Es.storeA rfl rfl Tryd.sizeOf38 Upd.k (Hd.size _) (Hd.size _) (Hd.one _)) ?_
        refine JA.tkc 8 rfl (.none rfl) (fun _ => (Ev.assign rfl)) ?_
        refine JA.done (by kernel_rfl) ?_
        refine JQ.cutN () ?_ ?_
        · (first | exact Keeps.k | skip)
        · exact Sub.of_cnt (fun a => by (try dsimp only); simp only [cntA]; omega)
      refine JAll.cons rfl ?_ ?_
      · -- 1
        refine JO.val rfl rfl rfl (.none rfl) (Ev.lB Tryd.underlying24 Tryd.sizeOf24) ?_
        refine JA.branch [0, 6] (by kernel_rfl) rfl ?_
        refine JAll.cons rfl ?_ ?_
        · -- 0
          refine JO.callV rfl (.none rfl) rfl Tryd.call22 (fun w1 hw1 => gDefault_any w1) ?_
          refine JA.branch [2, 6] (by kernel_rfl) rfl ?_
          refine JAll.cons rfl ?_ ?_
          · -- 2
            refine JO.callV rfl (.none rfl) rfl Tryd.call21 (fun w1 hw1 => bSign_any ⟨1000000007, 500000003, 4⟩ 0 o1 c1 xs1 w1 (hB1 w1 hw1 (fun p hp => by rcases List.mem_append.1 hp with hp | hp <;> simp [hp])) (hk.old hw1) (hf.old hw1)) ?_
            refine JA.re (d := 123) (v' := .tuple #[.agg (Hd.cl (sgH ⟨1000000007, 500000003, 4⟩ 0 (xs1.map Et.e))).toArray, .int .i64 2]) rfl (congrArg (fun e => Value.tuple #[.agg (Hd.cl (sgH ⟨1000000007, 500000003, 4⟩ 0 (xs1.map Et.e))).toArray, .int .i64 e]) (by rw [hxe]; exact nm_sign)) ?_
            refine JA.tkc 3 rfl (.none rfl) (fun _ => (Ev.move rfl)) ?_
            refine JA.tkc 4 rfl (.none rfl) (fun _ => (Ev.ex0 rfl)) ?_
            refine JA.tkc 5 rfl (.none rfl) (fun _ => (Ev.ex1 rfl)) ?_
            refine JA.one 6 ?_
            refine JO.new rfl rfl rfl (.none rfl) (En.allocZ (cs := (Hd.cl ⟨0, zeroD, 0, 0⟩).toArray) Tryd.zeroValue38 rfl) (fun b28 hb28 => ?_)
            refine JA.one 7 ?_
            refine JO.sto rfl rfl (.none rfl) (Es.storeA rfl rfl Tryd.sizeOf38 Upd.k (Hd.size _) (Hd.size _) (Hd.one _)) ?_
            refine JA.tkc 8 rfl (.none rfl) (fun _ => (Ev.assign rfl)) ?_
            refine JA.done (by kernel_rfl) ?_
            refine JQ.cutN () ?_ ?_
            · (first | exact Keeps.k | skip)
            · exact Sub.of_cnt (fun a => by (try dsimp only); simp only [cntA]; omega)
          refine JAll.cons rfl ?_ JAll.nil
          refine JO.new rfl rfl rfl (.none rfl) (En.allocZ (cs := (Hd.cl ⟨0, zeroD, 0, 0⟩).toArray) Tryd.zeroValue38 rfl) (fun b28 hb28 => ?_)
          refine JA.one 2 ?_
          refine JO.callV rfl (.none rfl) rfl Tryd.call21 (fun w1 hw1 => bSign_any ⟨1000000007, 500000003, 4⟩ 0 o1 c1 xs1 w1 (hB1 w1 hw1 (fun p hp => by rcases List.mem_append.1 hp with hp | hp <;> simp [hp])) (hk.old hw1) (hf.old hw1)) ?_
          refine JA.re (d := 123) (v' := .tuple #[.agg (Hd.cl (sgH ⟨1000000007, 500000003, 4⟩ 0 (xs1.map Et.e))).toArray, .int .i64 2]) rfl (congrArg (fun e => Value.tuple #[.agg (Hd.cl (sgH ⟨1000000007, 500000003, 4⟩ 0 (xs1.map Et.e))).toArray, .int .i64 e]) (by rw [hxe]; exact nm_sign)) ?_
          refine JA.tkc 3 rfl (.none rfl) (fun _ => (Ev.move rfl)) ?_
          refine JA.tkc 4 rfl (.none rfl) (fun _ => (Ev.ex0 rfl)) ?_
          refine JA.tkc 5 rfl (.none rfl) (fun _ => (Ev.ex1 rfl)) ?_
          refine JA.one 7 ?_
          refine JO.sto rfl rfl (.none rfl) (Es.storeA rfl rfl Tryd.sizeOf38 Upd.k (Hd.size _) (Hd.size _) (Hd.one _)) ?_
          refine JA.tkc 8 rfl (.none rfl) (fun _ => (Ev.assign rfl)) ?_
          refine JA.done (by kernel_rfl) ?_
          refine JQ.cutN () ?_ ?_
          · (first | exact Keeps.k | skip)
          · exact Sub.of_cnt (fun a => by (try dsimp only); simp only [cntA]; omega)
        refine JAll.cons rfl ?_ JAll.nil
        refine JO.new rfl rfl rfl (.none rfl) (En.allocZ (cs := (Hd.cl ⟨0, zeroD, 0, 0⟩).toArray) Tryd.zeroValue38 rfl) (fun b28 hb28 => ?_)
        refine JA.one 0 ?_
        refine JO.callV rfl (.none rfl) rfl Tryd.call22 (fun w1 hw1 => gDefault_any w1) ?_
        refine JA.one 2 ?_
        refine JO.callV rfl (.none rfl) rfl Tryd.call21 (fun w1 hw1 => bSign_any ⟨1000000007, 500000003, 4⟩ 0 o1 c1 xs1 w1 (hB1 w1 hw1 (fun p hp => by rcases List.mem_append.1 hp with hp | hp <;> simp [hp])) (hk.old hw1) (hf.old hw1)) ?_
        refine JA.re (d := 123) (v' := .tuple #[.agg (Hd.cl (sgH ⟨1000000007, 500000003, 4⟩ 0 (xs1.map Et.e))).toArray, .int .i64 2]) rfl (congrArg (fun e => Value.tuple #[.agg (Hd.cl (sgH ⟨1000000007, 500000003, 4⟩ 0 (xs1.map Et.e))).toArray, .int .i64 e]) (by rw [hxe]; exact nm_sign)) ?_
        refine JA.tkc 3 rfl (.none rfl) (fun _ => (Ev.move rfl)) ?_
        refine JA.tkc 4 rfl (.none rfl) (fun _ => (Ev.ex0 rfl)) ?_
        refine JA.tkc 5 rfl (.none rfl) (fun _ => (Ev.ex1 rfl)) ?_
        refine JA.one 7 ?_
        refine JO.sto rfl rfl (.none rfl) (Es.storeA rfl rfl Tryd.sizeOf38 Upd.k (Hd.size _) (Hd.size _) (Hd.one _)) ?_
        refine JA.tkc 8 rfl (.none rfl) (fun _ => (Ev.assign rfl)) ?_
        refine JA.done (by kernel_rfl) ?_
        refine JQ.cutN () ?_ ?_
        · (first | exact Keeps.k | skip)
        · exact Sub.of_cnt (fun a => by (try dsimp only); simp only [cntA]; omega)
      refine JAll.cons rfl ?_ JAll.nil
      refine JO.new rfl rfl rfl (.none rfl) (En.allocZ (cs := (Hd.cl ⟨0, zeroD, 0, 0⟩).toArray) Tryd.zeroValue38 rfl) (fun b28 hb28 => ?_)
      refine JA.branch [0, 1] (by kernel_rfl) rfl ?_
      refine JAll.cons rfl ?_ ?_
      · -- 0
        refine JO.callV rfl (.none rfl) rfl Tryd.call22 (fun w1 hw1 => gDefault_any w1) ?_
        refine JA.one 1 ?_
        refine JO.val rfl rfl rfl (.none rfl) (Ev.lB Tryd.underlying24 Tryd.sizeOf24) ?_
        refine JA.one 2 ?_
        refine JO.callV rfl (.none rfl) rfl Tryd.call21 (fun w1 hw1 => bSign_any ⟨1000000007, 500000003, 4⟩ 0 o1 c1 xs1 w1 (hB1 w1 hw1 (fun p hp => by rcases List.mem_append.1 hp with hp | hp <;> simp [hp])) (hk.old hw1) (hf.old hw1)) ?_
        refine JA.re (d := 123) (v' := .tuple #[.agg (Hd.cl (sgH ⟨1000000007, 500000003, 4⟩ 0 (xs1.map Et.e))).toArray, .int .i64 2]) rfl (congrArg (fun e => Value.tuple #[.agg (Hd.cl (sgH ⟨1000000007, 500000003, 4⟩ 0 (xs1.map Et.e))).toArray, .int .i64 e]) (by rw [hxe]; exact nm_sign)) ?_
        refine JA.tkc 3 rfl (.none rfl) (fun _ => (Ev.move rfl)) ?_
        refine JA.tkc 4 rfl (.none rfl) (fun _ => (Ev.ex0 rfl)) ?_
        refine JA.tkc 5 rfl (.none rfl) (fun _ => (Ev.ex1 rfl)) ?_
        refine JA.one 7 ?_
        refine JO.sto rfl rfl (.none rfl) (Es.storeA rfl rfl Tryd.sizeOf38 Upd.k (Hd.size _) (Hd.size _) (Hd.one _)) ?_
        refine JA.tkc 8 rfl (.none rfl) (fun _ => (Ev.assign rfl)) ?_
        refine JA.done (by kernel_rfl) ?_
        refine JQ.cutN () ?_ ?_
        · (first | exact Keeps.k | skip)
        · exact Sub.of_cnt (fun a => by (try dsimp only); simp only [cntA]; omega)
      refine JAll.cons rfl ?_ JAll.nil
      refine JO.val rfl rfl rfl (.none rfl) (Ev.lB Tryd.underlying24 Tryd.sizeOf24) ?_
      refine JA.one 0 ?_
      refine JO.callV rfl (.none rfl) rfl Tryd.call22 (fun w1 hw1 => gDefault_any w1) ?_
      refine JA.one 2 ?_
      refine JO.callV rfl (.none rfl) rfl Tryd.call21 (fun w1 hw1 => bSign_any ⟨1000000007, 500000003, 4⟩ 0 o1 c1 xs1 w1 (hB1 w1 hw1 (fun p hp => by rcases List.mem_append.1 hp with hp | hp <;> simp [hp])) (hk.old hw1) (hf.old hw1)) ?_
      refine JA.re (d := 123) (v' := .tuple #[.agg (Hd.cl (sgH ⟨1000000007, 500000003, 4⟩ 0 (xs1.map Et.e))).toArray, .int .i64 2]) rfl (congrArg (fun e => Value.tuple #[.agg (Hd.cl (sgH ⟨1000000007, 500000003, 4⟩ 0 (xs1.map Et.e))).toArray, .int .i64 e]) (by rw [hxe]; exact nm_sign)) ?_
      refine JA.tkc 3 rfl (.none rfl) (fun _ => (Ev.move rfl)) ?_
      refine JA.tkc 4 rfl (.none rfl) (fun _ => (Ev.ex0 rfl)) ?_
      refine JA.tkc 5 rfl (.none rfl) (fun _ => (Ev.ex1 rfl)) ?_
      refine JA.one 7 ?_
      refine JO.sto rfl rfl (.none rfl) (Es.storeA rfl rfl Tryd.sizeOf38 Upd.k (Hd.size _) (Hd.size _) (Hd.one _)) ?_
      refine JA.tkc 8 rfl (.none rfl) (fun _ => (Ev.assign rfl)) ?_
      refine JA.done (by kernel_rfl) ?_
      refine JQ.cutN () ?_ ?_
      · (first | exact Keeps.k | skip)
      · exact Sub.of_cnt (fun a => by (try dsimp only); simp only [cntA]; omega)
    rintro _
    refine JQ.thenN ?_
    refine JC.seq ?_
    refine JC.subH (H' := [(b1, Obj.cells #[.slice o1 xs1.length c1] 24 (0, 0)), (b3, Obj.cells #[.slice (some ⟨b42, 0, none⟩) 1024 1024] 24 (0, 0)), (b42, Obj.cells (ef (fullE 1024)).toArray 30 (0, 0))] ++ ((Row.b 30 r1 ++ oeD 5 os1) ++ Row.b 5 rT)) (Sub.of_cnt (fun a => by (try dsimp only); simp only [cntA]; omega)) ?_
    refine JC.cut (X := Unit) (fun _ => [(1, .pointer (some ⟨b1, 0, none⟩)), (3, .pointer (some ⟨b3, 0, none⟩)), (5, Row.v (txt h258).length rT), (7, .int .i64 2), (9, .int .i64 2), (11, .int .i64 2), (13, .int .i64 9), (15, .int .i64 8), (17, .int .i64 2), (19, .int .i64 2), (21, .int .i64 2), (23, .int .i64 2), (25, .int .i64 2), (27, .int .i64 2), (29, .int .i64 2), (31, .int .i64 8)]) (fun _ => [(b1, Obj.cells #[.slice o1 xs1.length c1] 24 (0, 0)), (b3, Obj.cells #[.slice (some ⟨b42, 0, none⟩) 1024 1024] 24 (0, 0)), (b42, Obj.cells (ef (fullE 1024)).toArray 30 (0, 0))] ++ ((Row.b 30 r1 ++ oeD 5 os1) ++ Row.b 5 rT)) ?_ ?_
    · refine JC.regionA (by kernel_rfl) ?_
      refine JA.branch [0, 1, 7] (by kernel_rfl) rfl ?_
      refine JAll.cons rfl ?_ ?_
      · -- 0
        refine JO.callV rfl (.none rfl) rfl Tryd.call22 (fun w1 hw1 => gDefault_any w1) ?_
        refine JA.branch [1, 7] (by kernel_rfl) rfl ?_
        refine JAll.cons rfl ?_ ?_
        · -- 1
          refine JO.new rfl rfl rfl (.none rfl) (En.makeE (n := 1) rfl rfl Tryd.underlying22 (by kernel_rfl) (by decide)) (fun b128 hb128 => ?_)
          obtain ⟨bm, rfl⟩ : ∃ b, b = b128 := ⟨_, rfl⟩
          refine JA.branch [2, 7] (by kernel_rfl) rfl ?_
          refine JAll.cons rfl ?_ ?_
          · -- 2
            refine JO.val rfl rfl rfl (.none rfl) (Ev.buN rfl (fun _ => by kernel_rfl)) ?_
            refine JA.branch [3, 7] (by kernel_rfl) rfl ?_
            refine JAll.cons rfl ?_ ?_
            · -- 3
              refine JO.callV rfl (.none rfl) rfl Tryd.call21 (fun w1 hw1 => bSign_any ⟨1000000007, 500000003, 4⟩ 0 (some ⟨bm, 0, none⟩) 1 [⟨0, none, 0, []⟩] w1 (bd_zero (n := 1) hw1 (by repeat (first | exact List.Mem.head _ | refine List.Mem.tail _ ?_ | refine List.mem_append_right _ ?_)) (by decide)) (hk.old hw1) (hf.old hw1)) ?_
              refine JA.re (d := 130) (v' := .tuple #[.agg (Hd.cl (sgH ⟨1000000007, 500000003, 4⟩ 0 ([⟨0, none, 0, []⟩].map Et.e))).toArray, .int .i64 8]) rfl (congrArg (fun e => Value.tuple #[.agg (Hd.cl (sgH ⟨1000000007, 500000003, 4⟩ 0 ([⟨0, none, 0, []⟩].map Et.e))).toArray, .int .i64 e]) (by decide +kernel)) ?_
              refine JA.tkc 4 rfl (.none rfl) (fun _ => (Ev.move rfl)) ?_
              refine JA.tkc 5 rfl (.none rfl) (fun _ => (Ev.ex0 rfl)) ?_
              refine JA.tkc 6 rfl (.none rfl) (fun _ => (Ev.ex1 rfl)) ?_
              refine JA.one 7 ?_
              refine JO.new rfl rfl rfl (.none rfl) (En.allocZ (cs := (Hd.cl ⟨0, zeroD, 0, 0⟩).toArray) Tryd.zeroValue38 rfl) (fun b30 hb30 => ?_)
              refine JA.one 8 ?_
              refine JO.sto rfl rfl (.none rfl) (Es.storeA rfl rfl Tryd.sizeOf38 Upd.k (Hd.size _) (Hd.size _) (Hd.one _)) ?_
              refine JA.tkc 9 rfl (.none rfl) (fun _ => (Ev.assign rfl)) ?_
              refine JA.done (by kernel_rfl) ?_
              refine JQ.cutN () ?_ ?_
              · (first | exact Keeps.k | skip)
              · exact Sub.of_cnt (fun a => by (try dsimp only); simp only [cntA]; omega)
            refine JAll.cons rfl ?_ JAll.nil
            refine JO.new rfl rfl rfl (.none rfl) (En.allocZ (cs := (Hd.cl ⟨0, zeroD, 0, 0⟩).toArray) Tryd.zeroValue38 rfl) (fun b30 hb30 => ?_)
            refine JA.one 3 ?_
            refine JO.callV rfl (.none rfl) rfl Tryd.call21 (fun w1 hw1 => bSign_any ⟨1000000007, 500000003, 4⟩ 0 (some ⟨bm, 0, none⟩) 1 [⟨0, none, 0, []⟩] w1 (bd_zero (n := 1) hw1 (by repeat (first | exact List.Mem.head _ | refine List.Mem.tail _ ?_ | refine List.mem_append_right _ ?_)) (by decide)) (hk.old hw1) (hf.old hw1)) ?_
            refine JA.re (d := 130) (v' := .tuple #[.agg (Hd.cl (sgH ⟨1000000007, 500000003, 4⟩ 0 ([⟨0, none, 0, []⟩].map Et.e))).toArray, .int .i64 8]) rfl (congrArg (fun e => Value.tuple #[.agg (Hd.cl (sgH ⟨1000000007, 500000003, 4⟩ 0 ([⟨0, none, 0, []⟩].map Et.e))).toArray, .int .i64 e]) (by decide +kernel)) ?_
            refine JA.tkc 4 rfl (.none rfl) (fun _ => (Ev.move rfl)) ?_
            refine JA.tkc 5 rfl (.none rfl) (fun _ => (Ev.ex0 rfl)) ?_
            refine JA.tkc 6 rfl (.none rfl) (fun _ => (Ev.ex1 rfl)) ?_
            refine JA.one 8 ?_
            refine JO.sto rfl rfl (.none rfl) (Es.storeA rfl rfl Tryd.sizeOf38 Upd.k (Hd.size _) (Hd.size _) (Hd.one _)) ?_
            refine JA.tkc 9 rfl (.none rfl) (fun _ => (Ev.assign rfl)) ?_
            refine JA.done (by kernel_rfl) ?_
            refine JQ.cutN () ?_ ?_
            · (first | exact Keeps.k | skip)
            · exact Sub.of_cnt (fun a => by (try dsimp only); simp only [cntA]; omega)
          refine JAll.cons rfl ?_ JAll.nil
          refine JO.new rfl rfl rfl (.none rfl) (En.allocZ (cs := (Hd.cl ⟨0, zeroD, 0, 0⟩).toArray) Tryd.zeroValue38 rfl) (fun b30 hb30 => ?_)
          refine JA.one 2 ?_
          refine JO.val rfl rfl rfl (.none rfl) (Ev.buN rfl (fun _ => by kernel_rfl)) ?_
          refine JA.one 3 ?_
          refine JO.callV rfl (.none rfl) rfl Tryd.call21 (fun w1 hw1 => bSign_any ⟨1000000007, 500000003, 4⟩ 0 (some ⟨bm, 0, none⟩) 1 [⟨0, none, 0, []⟩] w1 (bd_zero (n := 1) hw1 (by repeat (first | exact List.Mem.head _ | refine List.Mem.tail _ ?_ | refine List.mem_append_right _ ?_)) (by decide)) (hk.old hw1) (hf.old hw1)) ?_
          refine JA.re (d := 130) (v' := .tuple #[.agg (Hd.cl (sgH ⟨1000000007, 500000003, 4⟩ 0 ([⟨0, none, 0, []⟩].map Et.e))).toArray, .int .i64 8]) rfl (congrArg (fun e => Value.tuple #[.agg (Hd.cl (sgH ⟨1000000007, 500000003, 4⟩ 0 ([⟨0, none, 0, []⟩].map Et.e))).toArray, .int .i64 e]) (by decide +kernel)) ?_
          refine JA.tkc 4 rfl (.none rfl) (fun _ => (Ev.move rfl)) ?_
          refine JA.tkc 5 rfl (.none rfl) (fun _ => (Ev.ex0 rfl)) ?_
          refine JA.tkc 6 rfl (.none rfl) (fun _ => (Ev.ex1 rfl)) ?_
          refine JA.one 8 ?_
          refine JO.sto rfl rfl (.none rfl) (Es.storeA rfl rfl Tryd.sizeOf38 Upd.k (Hd.size _) (Hd.size _) (Hd.one _)) ?_
          refine JA.tkc 9 rfl (.none rfl) (fun _ => (Ev.assign rfl)) ?_
          refine JA.done (by kernel_rfl) ?_
          refine JQ.cutN () ?_ ?_
          · (first | exact Keeps.k | skip)
          · exact Sub.of_cnt (fun a => by (try dsimp only); simp only [cntA]; omega)
        refine JAll.cons rfl ?_ JAll.nil
        refine JO.new rfl rfl rfl (.none rfl) (En.allocZ (cs := (Hd.cl ⟨0, zeroD, 0, 0⟩).toArray) Tryd.zeroValue38 rfl) (fun b30 hb30 => ?_)
        refine JA.one 1 ?_
        refine JO.new rfl rfl rfl (.none rfl) (En.makeE (n := 1) rfl rfl Tryd.underlying22 (by kernel_rfl) (by decide)) (fun b128 hb128 => ?_)
        obtain ⟨bm, rfl⟩ : ∃ b, b = b128 := ⟨_, rfl⟩
        refine JA.one 2 ?_
        refine JO.val rfl rfl rfl (.none rfl) (Ev.buN rfl (fun _ => by kernel_rfl)) ?_
        refine JA.one 3 ?_
        refine JO.callV rfl (.none rfl) rfl Tryd.call21 (fun w1 hw1 => bSign_any ⟨1000000007, 500000003, 4⟩ 0 (some ⟨bm, 0, none⟩) 1 [⟨0, none, 0, []⟩] w1 (bd_zero (n := 1) hw1 (by repeat (first | exact List.Mem.head _ | refine List.Mem.tail _ ?_ | refine List.mem_append_right _ ?_)) (by decide)) (hk.old hw1) (hf.old hw1)) ?_
        refine JA.re (d := 130) (v' := .tuple #[.agg (Hd.cl (sgH ⟨1000000007, 500000003, 4⟩ 0 ([⟨0, none, 0, []⟩].map Et.e))).toArray, .int .i64 8]) rfl (congrArg (fun e => Value.tuple #[.agg (Hd.cl (sgH ⟨1000000007, 500000003, 4⟩ 0 ([⟨0, none, 0, []⟩].map Et.e))).toArray, .int .i64 e]) (by decide +kernel)) ?_
        refine JA.tkc 4 rfl (.none rfl) (fun _ => (Ev.move rfl)) ?_
        refine JA.tkc 5 rfl (.none rfl) (fun _ => (Ev.ex0 rfl)) ?_
        refine JA.tkc 6 rfl (.none rfl) (fun _ => (Ev.ex1 rfl)) ?_
        refine JA.one 8 ?_
        refine JO.sto rfl rfl (.none rfl) (Es.storeA rfl rfl Tryd.sizeOf38 Upd.k (Hd.size _) (Hd.size _) (Hd.one _)) ?_
        refine JA.tkc 9 rfl (.none rfl) (fun _ => (Ev.assign rfl)) ?_
        refine JA.done (by kernel_rfl) ?_
        refine JQ.cutN () ?_ ?_
        · (first | exact Keeps.k | skip)
        · exact Sub.of_cnt (fun a => by (try dsimp only); simp only [cntA]; omega)
      refine JAll.cons rfl ?_ ?_
      · -- 1
        refine JO.new rfl rfl rfl (.none rfl) (En.makeE (n := 1) rfl rfl Tryd.underlying22 (by kernel_rfl) (by decide)) (fun b128 hb128 => ?_)
        obtain ⟨bm, rfl⟩ : ∃ b, b = b128 := ⟨_, rfl⟩
        refine JA.branch [0, 2, 7] (by kernel_rfl) rfl ?_
        refine JAll.cons rfl ?_ ?_
        · -- 0
          refine JO.callV rfl (.none rfl) rfl Tryd.call22 (fun w1 hw1 => gDefault_any w1) ?_
          refine JA.branch [2, 7] (by kernel_rfl) rfl ?_
          refine JAll.cons rfl ?_ ?_
          · -- 2
            refine JO.val rfl rfl rfl (.none rfl) (Ev.buN rfl (fun _ => by kernel_rfl)) ?_
            refine JA.branch [3, 7] (by kernel_rfl) rfl ?_
            refine JAll.cons rfl ?_ ?_
            · -- 3
              refine JO.callV rfl (.none rfl) rfl Tryd.call21 (fun w1 hw1 => bSign_any ⟨1000000007, 500000003, 4⟩ 0 (some ⟨bm, 0, none⟩) 1 [⟨0, none, 0, []⟩] w1 (bd_zero (n := 1) hw1 (by repeat (first | exact List.Mem.head _ | refine List.Mem.tail _ ?_ | refine List.mem_append_right _ ?_)) (by decide)) (hk.old hw1) (hf.old hw1)) ?_
              refine JA.re (d := 130) (v' := .tuple #[.agg (Hd.cl (sgH ⟨1000000007, 500000003, 4⟩ 0 ([⟨0, none, 0, []⟩].map Et.e))).toArray, .int .i64 8]) rfl (congrArg (fun e => Value.tuple #[.agg (Hd.cl (sgH ⟨1000000007, 500000003, 4⟩ 0 ([⟨0, none, 0, []⟩].map Et.e))).toArray, .int .i64 e]) (by decide +kernel)) ?_
              refine JA.tkc 4 rfl (.none rfl) (fun _ => (Ev.move rfl)) ?_
              refine JA.tkc 5 rfl (.none rfl) (fun _ => (Ev.ex0 rfl)) ?_
              refine JA.tkc 6 rfl (.none rfl) (fun _ => (Ev.ex1 rfl)) ?_
              refine JA.one 7 ?_
              refine JO.new rfl rfl rfl (.none rfl) (En.allocZ (cs := (Hd.cl ⟨0, zeroD, 0, 0⟩).toArray) Tryd.zeroValue38 rfl) (fun b30 hb30 => ?_)
              refine JA.one 8 ?_
              refine JO.sto rfl rfl (.none rfl) (Es.storeA rfl rfl Tryd.sizeOf38 Upd.k (Hd.size _) (Hd.size _) (Hd.one _)) ?_
              refine JA.tkc 9 rfl (.none rfl) (fun _ => (Ev.assign rfl)) ?_
              refine JA.done (by kernel_rfl) ?_
              refine JQ.cutN () ?_ ?_
              · (first | exact Keeps.k | skip)
              · exact Sub.of_cnt (fun a => by (try dsimp only); simp only [cntA]; omega)
            refine JAll.cons rfl ?_ JAll.nil
            refine JO.new rfl rfl rfl (.none rfl) (En.allocZ (cs := (Hd.cl ⟨0, zeroD, 0, 0⟩).toArray) Tryd.zeroValue38 rfl) (fun b30 hb30 => ?_)
            refine JA.one 3 ?_
            refine JO.callV rfl (.none rfl) rfl Tryd.call21 (fun w1 hw1 => bSign_any ⟨1000000007, 500000003, 4⟩ 0 (some ⟨bm, 0, none⟩) 1 [⟨0, none, 0, []⟩] w1 (bd_zero (n := 1) hw1 (by repeat (first | exact List.Mem.head _ | refine List.Mem.tail _ ?_ | refine List.mem_append_right _ ?_)) (by decide)) (hk.old hw1) (hf.old hw1)) ?_
            refine JA.re (d := 130) (v' := .tuple #[.agg (Hd.cl (sgH ⟨1000000007, 500000003, 4⟩ 0 ([⟨0, none, 0, []⟩].map Et.e))).toArray, .int .i64 8]) rfl (congrArg (fun e => Value.tuple #[.agg (Hd.cl (sgH ⟨1000000007, 500000003, 4⟩ 0 ([⟨0, none, 0, []⟩].map Et.e))).toArray, .int .i64 e]) (by decide +kernel)) ?_
            refine JA.tkc 4 rfl (.none rfl) (fun _ => (Ev.move rfl)) ?_
            refine JA.tkc 5 rfl (.none rfl) (fun _ => (Ev.ex0 rfl)) ?_
            refine JA.tkc 6 rfl (.none rfl) (fun _ => (Ev.ex1 rfl)) ?_
            refine JA.one 8 ?_
            refine JO.sto rfl rfl (.none rfl) (Es.storeA rfl rfl Tryd.sizeOf38 Upd.k (Hd.size _) (Hd.size _) (Hd.one _)) ?_
            refine JA.tkc 9 rfl (.none rfl) (fun _ => (Ev.assign rfl)) ?_
            refine JA.done (by kernel_rfl) ?_
            refine JQ.cutN () ?_ ?_
            · (first | exact Keeps.k | skip)
            · exact Sub.of_cnt (fun a => by (try dsimp only); simp only [cntA]; omega)
          refine JAll.cons rfl ?_ JAll.nil
          refine JO.new rfl rfl rfl (.none rfl) (En.allocZ (cs := (Hd.cl ⟨0, zeroD, 0, 0⟩).toArray) Tryd.zeroValue38 rfl) (fun b30 hb30 => ?_)
          refine JA.one 2 ?_
          refine JO.val rfl rfl rfl (.none rfl) (Ev.buN rfl (fun _ => by kernel_rfl)) ?_
          refine JA.one 3 ?_
          refine JO.callV rfl (.none rfl) rfl Tryd.call21 (fun w1 hw1 => bSign_any ⟨1000000007, 500000003, 4⟩ 0 (some ⟨bm, 0, none⟩) 1 [⟨0, none, 0, []⟩] w1 (bd_zero (n := 1) hw1 (by repeat (first | exact List.Mem.head _ | refine List.Mem.tail _ ?_ | refine List.mem_append_right _ ?_)) (by decide)) (hk.old hw1) (hf.old hw1)) ?_
          refine JA.re (d := 130) (v' := .tuple #[.agg (Hd.cl (sgH ⟨1000000007, 500000003, 4⟩ 0 ([⟨0, none, 0, []⟩].map Et.e))).toArray, .int .i64 8]) rfl (congrArg (fun e => Value.tuple #[.agg (Hd.cl (sgH ⟨1000000007, 500000003, 4⟩ 0 ([⟨0, none, 0, []⟩].map Et.e))).toArray, .int .i64 e]) (by decide +kernel)) ?_
          refine JA.tkc 4 rfl (.none rfl) (fun _ => (Ev.move rfl)) ?_
          refine JA.tkc 5 rfl (.none rfl) (fun _ => (Ev.ex0 rfl)) ?_
          refine JA.tkc 6 rfl (.none rfl) (fun _ => (Ev.ex1 rfl)) ?_
          refine JA.one 8 ?_
          refine JO.sto rfl rfl (.none rfl) (Es.storeA rfl rfl Tryd.sizeOf38 Upd.k (Hd.size _) (Hd.size _) (Hd.one _)) ?_
          refine JA.tkc 9 rfl (.none rfl) (fun _ => (Ev.assign rfl)) ?_
          refine JA.done (by kernel_rfl) ?_
          refine JQ.cutN () ?_ ?_
          · (first | exact Keeps.k | skip)
          · exact Sub.of_cnt (fun a => by (try dsimp only); simp only [cntA]; omega)
        refine JAll.cons rfl ?_ ?_
        · -- 2
          refine JO.val rfl rfl rfl (.none rfl) (Ev.buN rfl (fun _ => by kernel_rfl)) ?_
          refine JA.branch [0, 7] (by kernel_rfl) rfl ?_
          refine JAll.cons rfl ?_ ?_
          · -- 0
            refine JO.callV rfl (.none rfl) rfl Tryd.call22 (fun w1 hw1 => gDefault_any w1) ?_
            refine JA.branch [3, 7] (by kernel_rfl) rfl ?_
            refine JAll.cons rfl ?_ ?_
            · -- 3
              refine JO.callV rfl (.none rfl) rfl Tryd.call21 (fun w1 hw1 => bSign_any ⟨1000000007, 500000003, 4⟩ 0 (some ⟨bm, 0, none⟩) 1 [⟨0, none, 0, []⟩] w1 (bd_zero (n := 1) hw1 (by repeat (first | exact List.Mem.head _ | refine List.Mem.tail _ ?_ | refine List.mem_append_right _ ?_)) (by decide)) (hk.old hw1) (hf.old hw1)) ?_
              refine JA.re (d := 130) (v' := .tuple #[.agg (Hd.cl (sgH ⟨1000000007, 500000003, 4⟩ 0 ([⟨0, none, 0, []⟩].map Et.e))).toArray, .int .i64 8]) rfl (congrArg (fun e => Value.tuple #[.agg (Hd.cl (sgH ⟨1000000007, 500000003, 4⟩ 0 ([⟨0, none, 0, []⟩].map Et.e))).toArray, .int .i64 e]) (by decide +kernel)) ?_
              refine JA.tkc 4 rfl (.none rfl) (fun _ => (Ev.move rfl)) ?_
              refine JA.tkc 5 rfl (.none rfl) (fun _ => (Ev.ex0 rfl)) ?_
              refine JA.tkc 6 rfl (.none rfl) (fun _ => (Ev.ex1 rfl)) ?_
              refine JA.one 7 ?_
              refine JO.new rfl rfl rfl (.none rfl) (En.allocZ (cs := (Hd.cl ⟨0, zeroD, 0, 0⟩).toArray) Tryd.zeroValue38 rfl) (fun b30 hb30 => ?_)
              refine JA.one 8 ?_
              refine JO.sto rfl rfl (.none rfl) (Es.storeA rfl rfl Tryd.sizeOf38 Upd.k (Hd.size _) (Hd.size _) (Hd.one _)) ?_
              refine JA.tkc 9 rfl (.none rfl) (fun _ => (Ev.assign rfl)) ?_
              refine JA.done (by kernel_rfl) ?_
              refine JQ.cutN () ?_ ?_
              · (first | exact Keeps.k | skip)
              · exact Sub.of_cnt (fun a => by (try dsimp only); simp only [cntA]; omega)
            refine JAll.cons rfl ?_ JAll.nil
            refine JO.new rfl rfl rfl (.none rfl) (En.allocZ (cs := (Hd.cl ⟨0, zeroD, 0, 0⟩).toArray) Tryd.zeroValue38 rfl) (fun b30 hb30 => ?_)
            refine JA.one 3 ?_
            refine JO.callV rfl (.none rfl) rfl Tryd.call21 (fun w1 hw1 => bSign_any ⟨1000000007, 500000003, 4⟩ 0 (some ⟨bm, 0, none⟩) 1 [⟨0, none, 0, []⟩] w1 (bd_zero (n := 1) hw1 (by repeat (first | exact List.Mem.head _ | refine List.Mem.tail _ ?_ | refine List.mem_append_right _ ?_)) (by decide)) (hk.old hw1) (hf.old hw1)) ?_
            refine JA.re (d := 130) (v' := .tuple #[.agg (Hd.cl (sgH ⟨1000000007, 500000003, 4⟩ 0 ([⟨0, none, 0, []⟩].map Et.e))).toArray, .int .i64 8]) rfl (congrArg (fun e => Value.tuple #[.agg (Hd.cl (sgH ⟨1000000007, 500000003, 4⟩ 0 ([⟨0, none, 0, []⟩].map Et.e))).toArray, .int .i64 e]) (by decide +kernel)) ?_
            refine JA.tkc 4 rfl (.none rfl) (fun _ => (Ev.move rfl)) ?_
            refine JA.tkc 5 rfl (.none rfl) (fun _ => (Ev.ex0 rfl)) ?_
            refine JA.tkc 6 rfl (.none rfl) (fun _ => (Ev.ex1 rfl)) ?_
            refine JA.one 8 ?_
            refine JO.sto rfl rfl (.none rfl) (Es.storeA rfl rfl Tryd.sizeOf38 Upd.k (Hd.size _) (Hd.size _) (Hd.one _)) ?_
            refine JA.tkc 9 rfl (.none rfl) (fun _ => (Ev.assign rfl)) ?_
            refine JA.done (by kernel_rfl) ?_
            refine JQ.cutN () ?_ ?_
            · (first | exact Keeps.k | skip)
            · exact Sub.of_cnt (fun a => by (try dsimp only); simp only [cntA]; omega)
          refine JAll.cons rfl ?_ JAll.nil
          refine JO.new rfl rfl rfl (.none rfl) (En.allocZ (cs := (Hd.cl ⟨0, zeroD, 0, 0⟩).toArray) Tryd.zeroValue38 rfl) (fun b30 hb30 => ?_)
          refine JA.one 0 ?_
          refine JO.callV rfl (.none rfl) rfl Tryd.call22 (fun w1 hw1 => gDefault_any w1) ?_
          refine JA.one 3 ?_
          refine JO.callV rfl (.none rfl) rfl Tryd.call21 (fun w1 hw1 => bSign_any ⟨1000000007, 500000003, 4⟩ 0 (some ⟨bm, 0, none⟩) 1 [⟨0, none, 0, []⟩] w1 (bd_zero (n := 1) hw1 (by repeat (first | exact List.Mem.head _ | refine List.Mem.tail _ ?_ | refine List.mem_append_right _ ?_)) (by decide)) (hk.old hw1) (hf.old hw1)) ?_
          refine JA.re (d := 130) (v' := .tuple #[.agg (Hd.cl (sgH ⟨1000000007, 500000003, 4⟩ 0 ([⟨0, none, 0, []⟩].map Et.e))).toArray, .int .i64 8]) rfl (congrArg (fun e => Value.tuple #[.agg (Hd.cl (sgH ⟨1000000007, 500000003, 4⟩ 0 ([⟨0, none, 0, []⟩].map Et.e))).toArray, .int .i64 e]) (by decide +kernel)) ?_
          refine JA.tkc 4 rfl (.none rfl) (fun _ => (Ev.move rfl)) ?_
          refine JA.tkc 5 rfl (.none rfl) (fun _ => (Ev.ex0 rfl)) ?_
          refine JA.tkc 6 rfl (.none rfl) (fun _ => (Ev.ex1 rfl)) ?_
          refine JA.one 8 ?_
          refine JO.sto rfl rfl (.none rfl) (Es.storeA rfl rfl Tryd.sizeOf38 Upd.k (Hd.size _) (Hd.size _) (Hd.one _)) ?_
          refine JA.tkc 9 rfl (.none rfl) (fun _ => (Ev.assign rfl)) ?_
          refine JA.done (by kernel_rfl) ?_
          refine JQ.cutN () ?_ ?_
          · (first | exact Keeps.k | skip)
          · exact Sub.of_cnt (fun a => by (try dsimp only); simp only [cntA]; omega)
        refine JAll.cons rfl ?_ JAll.nil
        refine JO.new rfl rfl rfl (.none rfl) (En.allocZ (cs := (Hd.cl ⟨0, zeroD, 0, 0⟩).toArray) Tryd.zeroValue38 rfl) (fun b30 hb30 => ?_)
        refine JA.branch [0, 2] (by kernel_rfl) rfl ?_
        refine JAll.cons rfl ?_ ?_
        · -- 0
          refine JO.callV rfl (.none rfl) rfl Tryd.call22 (fun w1 hw1 => gDefault_any w1) ?_
          refine JA.one 2 ?_
          refine JO.val rfl rfl rfl (.none rfl) (Ev.buN rfl (fun _ => by kernel_rfl)) ?_
          refine JA.one 3 ?_
          refine JO.callV rfl (.none rfl) rfl Tryd.call21 (fun w1 hw1 => bSign_any ⟨1000000007, 500000003, 4⟩ 0 (some ⟨bm, 0, none⟩) 1 [⟨0, none, 0, []⟩] w1 (bd_zero (n := 1) hw1 (by repeat (first | exact List.Mem.head _ | refine List.Mem.tail _ ?_ | refine List.mem_append_right _ ?_)) (by decide)) (hk.old hw1) (hf.old hw1)) ?_
          refine JA.re (d := 130) (v' := .tuple #[.agg (Hd.cl (sgH ⟨1000000007, 500000003, 4⟩ 0 ([⟨0, none, 0, []⟩].map Et.e))).toArray, .int .i64 8]) rfl (congrArg (fun e => Value.tuple #[.agg (Hd.cl (sgH ⟨1000000007, 500000003, 4⟩ 0 ([⟨0, none, 0, []⟩].map Et.e))).toArray, .int .i64 e]) (by decide +kernel)) ?_
          refine JA.tkc 4 rfl (.none rfl) (fun _ => (Ev.move rfl)) ?_
          refine JA.tkc 5 rfl (.none rfl) (fun _ => (Ev.ex0 rfl)) ?_
          refine JA.tkc 6 rfl (.none rfl) (fun _ => (Ev.ex1 rfl)) ?_
          refine JA.one 8 ?_
          refine JO.sto rfl rfl (.none rfl) (Es.storeA rfl rfl Tryd.sizeOf38 Upd.k (Hd.size _) (Hd.size _) (Hd.one _)) ?_
          refine JA.tkc 9 rfl (.none rfl) (fun _ => (Ev.assign rfl)) ?_
          refine JA.done (by kernel_rfl) ?_
          refine JQ.cutN () ?_ ?_
          · (first | exact Keeps.k | skip)
          · exact Sub.of_cnt (fun a => by (try dsimp only); simp only [cntA]; omega)
        refine JAll.cons rfl ?_ JAll.nil
        refine JO.val rfl rfl rfl (.none rfl) (Ev.buN rfl (fun _ => by kernel_rfl)) ?_
        refine JA.one 0 ?_
        refine JO.callV rfl (.none rfl) rfl Tryd.call22 (fun w1 hw1 => gDefault_any w1) ?_
        refine JA.one 3 ?_
        refine JO.callV rfl (.none rfl) rfl Tryd.call21 (fun w1 hw1 => bSign_any ⟨1000000007, 500000003, 4⟩ 0 (some ⟨bm, 0, none⟩) 1 [⟨0, none, 0, []⟩] w1 (bd_zero (n := 1) hw1 (by repeat (first | exact List.Mem.head _ | refine List.Mem.tail _ ?_ | refine List.mem_append_right _ ?_)) (by decide)) (hk.old hw1) (hf.old hw1)) ?_
        refine JA.re (d := 130) (v' := .tuple #[.agg (Hd.cl (sgH ⟨1000000007, 500000003, 4⟩ 0 ([⟨0, none, 0, []⟩].map Et.e))).toArray, .int .i64 8]) rfl (congrArg (fun e => Value.tuple #[.agg (Hd.cl (sgH ⟨1000000007, 500000003, 4⟩ 0 ([⟨0, none, 0, []⟩].map Et.e))).toArray, .int .i64 e]) (by decide +kernel)) ?_
        refine JA.tkc 4 rfl (.none rfl) (fun _ => (Ev.move rfl)) ?_
        refine JA.tkc 5 rfl (.none rfl) (fun _ => (Ev.ex0 rfl)) ?_
        refine JA.tkc 6 rfl (.none rfl) (fun _ => (Ev.ex1 rfl)) ?_
        refine JA.one 8 ?_
        refine JO.sto rfl rfl (.none rfl) (Es.storeA rfl rfl Tryd.sizeOf38 Upd.k (Hd.size _) (Hd.size _) (Hd.one _)) ?_
        refine JA.tkc 9 rfl (.none rfl) (fun _ => (Ev.assign rfl)) ?_
        refine JA.done (by kernel_rfl) ?_
        refine JQ.cutN () ?_ ?_
        · (first | exact Keeps.k | skip)
        · exact Sub.of_cnt (fun a => by (try dsimp only); simp only [cntA]; omega)
      refine JAll.cons rfl ?_ JAll.nil
      refine JO.new rfl rfl rfl (.none rfl) (En.allocZ (cs := (Hd.cl ⟨0, zeroD, 0, 0⟩).toArray) Tryd.zeroValue38 rfl) (fun b30 hb30 => ?_)
      refine JA.branch [0, 1] (by kernel_rfl) rfl ?_
      refine JAll.cons rfl ?_ ?_
      · -- 0
        refine JO.callV rfl (.none rfl) rfl Tryd.call22 (fun w1 hw1 => gDefault_any w1) ?_
        refine JA.one 1 ?_
        refine JO.new rfl rfl rfl (.none rfl) (En.makeE (n := 1) rfl rfl Tryd.underlying22 (by kernel_rfl) (by decide)) (fun b128 hb128 => ?_)
        obtain ⟨bm, rfl⟩ : ∃ b, b = b128 := ⟨_, rfl⟩
        refine JA.one 2 ?_
        refine JO.val rfl rfl rfl (.none rfl) (Ev.buN rfl (fun _ => by kernel_rfl)) ?_
        refine JA.one 3 ?_
        refine JO.callV rfl (.none rfl) rfl Tryd.call21 (fun w1 hw1 => bSign_any ⟨1000000007, 500000003, 4⟩ 0 (some ⟨bm, 0, none⟩) 1 [⟨0, none, 0, []⟩] w1 (bd_zero (n := 1) hw1 (by repeat (first | exact List.Mem.head _ | refine List.Mem.tail _ ?_ | refine List.mem_append_right _ ?_)) (by decide)) (hk.old hw1) (hf.old hw1)) ?_
        refine JA.re (d := 130) (v' := .tuple #[.agg (Hd.cl (sgH ⟨1000000007, 500000003, 4⟩ 0 ([⟨0, none, 0, []⟩].map Et.e))).toArray, .int .i64 8]) rfl (congrArg (fun e => Value.tuple #[.agg (Hd.cl (sgH ⟨1000000007, 500000003, 4⟩ 0 ([⟨0, none, 0, []⟩].map Et.e))).toArray, .int .i64 e]) (by decide +kernel)) ?_
        refine JA.tkc 4 rfl (.none rfl) (fun _ => (Ev.move rfl)) ?_
        refine JA.tkc 5 rfl (.none rfl) (fun _ => (Ev.ex0 rfl)) ?_
        refine JA.tkc 6 rfl (.none rfl) (fun _ => (Ev.ex1 rfl)) ?_
        refine JA.one 8 ?_
        refine JO.sto rfl rfl (.none rfl) (Es.storeA rfl rfl Tryd.sizeOf38 Upd.k (Hd.size _) (Hd.size _) (Hd.one _)) ?_
        refine JA.tkc 9 rfl (.none rfl) (fun _ => (Ev.assign rfl)) ?_
        refine JA.done (by kernel_rfl) ?_
        refine JQ.cutN () ?_ ?_
        · (first | exact Keeps.k | skip)
        · exact Sub.of_cnt (fun a => by (try dsimp only); simp only [cntA]; omega)
      refine JAll.cons rfl ?_ JAll.nil
      refine JO.new rfl rfl rfl (.none rfl) (En.makeE (n := 1) rfl rfl Tryd.underlying22 (by kernel_rfl) (by decide)) (fun b128 hb128 => ?_)
      obtain ⟨bm, rfl⟩ : ∃ b, b = b128 := ⟨_, rfl⟩
      refine JA.branch [0, 2] (by kernel_rfl) rfl ?_
      refine JAll.cons rfl ?_ ?_
      · -- 0
        refine JO.callV rfl (.none rfl) rfl Tryd.call22 (fun w1 hw1 => gDefault_any w1) ?_
        refine JA.one 2 ?_
        refine JO.val rfl rfl rfl (.none rfl) (Ev.buN rfl (fun _ => by kernel_rfl)) ?_
        refine JA.one 3 ?_
        refine JO.callV rfl (.none rfl) rfl Tryd.call21 (fun w1 hw1 => bSign_any ⟨1000000007, 500000003, 4⟩ 0 (some ⟨bm, 0, none⟩) 1 [⟨0, none, 0, []⟩] w1 (bd_zero (n := 1) hw1 (by repeat (first | exact List.Mem.head _ | refine List.Mem.tail _ ?_ | refine List.mem_append_right _ ?_)) (by decide)) (hk.old hw1) (hf.old hw1)) ?_
        refine JA.re (d := 130) (v' := .tuple #[.agg (Hd.cl (sgH ⟨1000000007, 500000003, 4⟩ 0 ([⟨0, none, 0, []⟩].map Et.e))).toArray, .int .i64 8]) rfl (congrArg (fun e => Value.tuple #[.agg (Hd.cl (sgH ⟨1000000007, 500000003, 4⟩ 0 ([⟨0, none, 0, []⟩].map Et.e))).toArray, .int .i64 e]) (by decide +kernel)) ?_
        refine JA.tkc 4 rfl (.none rfl) (fun _ => (Ev.move rfl)) ?_
        refine JA.tkc 5 rfl (.none rfl) (fun _ => (Ev.ex0 rfl)) ?_
        refine JA.tkc 6 rfl (.none rfl) (fun _ => (Ev.ex1 rfl)) ?_
        refine JA.one 8 ?_
        refine JO.sto rfl rfl (.none rfl) (Es.storeA rfl rfl Tryd.sizeOf38 Upd.k (Hd.size _) (Hd.size _) (Hd.one _)) ?_
        refine JA.tkc 9 rfl (.none rfl) (fun _ => (Ev.assign rfl)) ?_
        refine JA.done (by kernel_rfl) ?_
        refine JQ.cutN () ?_ ?_
        · (first | exact Keeps.k | skip)
        · exact Sub.of_cnt (fun a => by (try dsimp only); simp only [cntA]; omega)
      refine JAll.cons rfl ?_ JAll.nil
      refine JO.val rfl rfl rfl (.none rfl) (Ev.buN rfl (fun _ => by kernel_rfl)) ?_
      refine JA.one 0 ?_
      refine JO.callV rfl (.none rfl) rfl Tryd.call22 (fun w1 hw1 => gDefault_any w1) ?_
      refine JA.one 3 ?_
      refine JO.callV rfl (.none rfl) rfl Tryd.call21 (fun w1 hw1 => bSign_any ⟨1000000007, 500000003, 4⟩ 0 (some ⟨bm, 0, none⟩) 1 [⟨0, none, 0, []⟩] w1 (bd_zero (n := 1) hw1 (by repeat (first | exact List.Mem.head _ | refine List.Mem.tail _ ?_ | refine List.mem_append_right _ ?_)) (by decide)) (hk.old hw1) (hf.old hw1)) ?_
      refine JA.re (d := 130) (v' := .tuple #[.agg (Hd.cl (sgH ⟨1000000007, 500000003, 4⟩ 0 ([⟨0, none, 0, []⟩].map Et.e))).toArray, .int .i64 8]) rfl (congrArg (fun e => Value.tuple #[.agg (Hd.cl (sgH ⟨1000000007, 500000003, 4⟩ 0 ([⟨0, none, 0, []⟩].map Et.e))).toArray, .int .i64 e]) (by decide +kernel)) ?_
      refine JA.tkc 4 rfl (.none rfl) (fun _ => (Ev.move rfl)) ?_
      refine JA.tkc 5 rfl (.none rfl) (fun _ => (Ev.ex0 rfl)) ?_
      refine JA.tkc 6 rfl (.none rfl) (fun _ => (Ev.ex1 rfl)) ?_
      refine JA.one 8 ?_
      refine JO.sto rfl rfl (.none rfl) (Es.storeA rfl rfl Tryd.sizeOf38 Upd.k (Hd.size _) (Hd.size _) (Hd.one _)) ?_
      refine JA.tkc 9 rfl (.none rfl) (fun _ => (Ev.assign rfl)) ?_
      refine JA.done (by kernel_rfl) ?_
      refine JQ.cutN () ?_ ?_
      · (first | exact Keeps.k | skip)
      · exact Sub.of_cnt (fun a => by (try dsimp only); simp only [cntA]; omega)
    rintro _
    refine JQ.thenN ?_
    refine JC.seq ?_
    refine JC.subH (H' := [(b1, Obj.cells #[.slice o1 xs1.length c1] 24 (0, 0)), (b3, Obj.cells #[.slice (some ⟨b42, 0, none⟩) 1024 1024] 24 (0, 0)), (b42, Obj.cells (ef (fullE 1024)).toArray 30 (0, 0))] ++ ((Row.b 30 r1 ++ oeD 5 os1) ++ Row.b 5 rT)) (Sub.of_cnt (fun a => by (try dsimp only); simp only [cntA]; omega)) ?_
    refine JC.region ?_
    refine JL.val rfl rfl rfl (.none rfl) (Ev.lB Tryd.underlying24 Tryd.sizeOf24) ?_
    refine JL.callN rfl (.none rfl) rfl Tryd.call17 (fun w1 hw1 => bFind_any o1 c1 xs1 5 w1 (hB1 w1 hw1 (fun p hp => by rcases List.mem_append.1 hp with hp | hp <;> simp [hp]))) ?_
    rintro _ _ ⟨r10, rfl, rfl, hr10⟩
    refine JL.mv ?_
    refine JL.val rfl rfl rfl (.none rfl) (Ev.ex0 rfl) ?_
    refine JL.val rfl rfl rfl (.none rfl) (Ev.ex1 rfl) ?_
    refine JL.asg ?_
    refine JL.re (d := 137) (v' := .int .i64 0) rfl (congrArg (Value.int .i64) (by rw [hxe]; decide +kernel)) ?_
    refine JL.asg ?_
    refine JL.nil ?_
    refine JQ.thenN ?_
    refine JC.seq ?_
    refine JC.region ?_
    obtain ⟨oT, cT, eT, hnT, hCT⟩ := Row.vw (e := 5) hrT
    refine JL.re (d := 5) rfl eT ?_
    have hcT : (txt h258).length ≤ cT := by
      cases rT with
      | none => (have h0 := hrT.1; rw [txt_length] at h0; omega)
      | some q => (have h3 := hrT.2.1; rw [Row.v] at eT; injection eT with _ _ e5; omega)
    have ht4 : ((txt h258).take 4).length = 4 := by rw [List.length_take, txt_length]; rfl
    refine JL.mv ?_
    refine JL.val rfl rfl rfl (.none rfl) (Ev.lenS rfl Tryd.underlying28) ?_
    refine JL.val rfl rfl rfl (.none rfl) (Ev.bin rfl rfl eql_int) ?_
    refine JL.mv ?_
    refine JL.know (d := 141) (b := true) rfl ?_ ?_
    · first | rfl | exact decide_eq_true rfl | exact (bytes_dec _ _).trans (decide_eq_true (by decide)) | exact decide_eq_true (by decide +kernel)
    refine JL.val rfl rfl rfl (.yes rfl rfl rfl) (Ev.move rfl) ?_
    refine JL.val rfl rfl rfl (.yes rfl rfl rfl) (Ev.cast (v' := .slice oT ((txt h258).take 4).length cT) (by rw [sub3_0, ht4]) (Ev.sliceHi rfl rfl Tryd.underlying28 Tryd.sizeOf5 (h := 4) rfl (by rw [txt_length] at hcT; omega))) ?_
    refine JL.val rfl rfl rfl (.yes rfl rfl rfl) (Ev.str (l := (txt h258).take 4) rfl Tryd.underlying28 Tryd.underlying9 Tryd.underlying5 rfl (fun h => by have := hnT h; rw [txt_length] at this; omega) (fun a ha w hw => (Cs.take (f := u8) (hCT w hw (fun p hp => by simp [hp])) (k := 4) (by rw [txt_length]; decide)).mem a ha)) ?_
    refine JL.val rfl rfl rfl (.yes rfl rfl rfl) (Ev.bin rfl rfl eql_string) ?_
    refine JL.val rfl rfl rfl (.none rfl) (Ev.pickT rfl rfl) ?_
    refine JL.mv ?_
    refine JL.know (d := 147) (b := true) rfl ?_ ?_
    · first | rfl | exact decide_eq_true rfl | exact (bytes_dec _ _).trans (decide_eq_true (by decide)) | exact decide_eq_true (by decide +kernel)
    refine JL.val rfl rfl rfl (.yes rfl rfl rfl) (Ev.move rfl) ?_
    refine JL.val rfl rfl rfl (.yes rfl rfl rfl) (Ev.bin rfl rfl eql_int) ?_
    refine JL.val rfl rfl rfl (.none rfl) (Ev.pickT rfl rfl) ?_
    refine JL.mv ?_
    refine JL.know (d := 151) (b := true) rfl ?_ ?_
    · first | rfl | exact decide_eq_true rfl | exact (bytes_dec _ _).trans (decide_eq_true (by decide)) | exact decide_eq_true (by decide +kernel)
    refine JL.val rfl rfl rfl (.yes rfl rfl rfl) (Ev.move rfl) ?_
    refine JL.val rfl rfl rfl (.yes rfl rfl rfl) (Ev.bin rfl rfl eql_int) ?_
    refine JL.val rfl rfl rfl (.none rfl) (Ev.pickT rfl rfl) ?_
    refine JL.mv ?_
    refine JL.know (d := 155) (b := true) rfl ?_ ?_
    · first | rfl | exact decide_eq_true rfl | exact (bytes_dec _ _).trans (decide_eq_true (by decide)) | exact decide_eq_true (by decide +kernel)
    refine JL.val rfl rfl rfl (.yes rfl rfl rfl) (Ev.move rfl) ?_
    refine JL.val rfl rfl rfl (.yes rfl rfl rfl) (Ev.bin rfl rfl eql_int) ?_
    refine JL.val rfl rfl rfl (.none rfl) (Ev.pickT rfl rfl) ?_
    refine JL.mv ?_
    refine JL.know (d := 159) (b := true) rfl ?_ ?_
    · first | rfl | exact decide_eq_true rfl | exact (bytes_dec _ _).trans (decide_eq_true (by decide)) | exact decide_eq_true (by decide +kernel)
    refine JL.val rfl rfl rfl (.yes rfl rfl rfl) (Ev.move rfl) ?_
    refine JL.val rfl rfl rfl (.yes rfl rfl rfl) (Ev.bin rfl rfl eql_int) ?_
    refine JL.val rfl rfl rfl (.none rfl) (Ev.pickT rfl rfl) ?_
    refine JL.mv ?_
    refine JL.know (d := 163) (b := true) rfl ?_ ?_
    · first | rfl | exact decide_eq_true rfl | exact (bytes_dec _ _).trans (decide_eq_true (by decide)) | exact decide_eq_true (by decide +kernel)
    refine JL.val rfl rfl rfl (.yes rfl rfl rfl) (Ev.move rfl) ?_
    refine JL.val rfl rfl rfl (.yes rfl rfl rfl) (Ev.bin rfl rfl eql_int) ?_
    refine JL.val rfl rfl rfl (.none rfl) (Ev.pickT rfl rfl) ?_
    refine JL.mv ?_
    refine JL.know (d := 167) (b := true) rfl ?_ ?_
    · first | rfl | exact decide_eq_true rfl | exact (bytes_dec _ _).trans (decide_eq_true (by decide)) | exact decide_eq_true (by decide +kernel)
    refine JL.val rfl rfl rfl (.yes rfl rfl rfl) (Ev.move rfl) ?_
    refine JL.val rfl rfl rfl (.yes rfl rfl rfl) (Ev.bin rfl rfl eql_int) ?_
    refine JL.val rfl rfl rfl (.none rfl) (Ev.pickT rfl rfl) ?_
    refine JL.mv ?_
    refine JL.know (d := 171) (b := true) rfl ?_ ?_
    · first | rfl | exact decide_eq_true rfl | exact (bytes_dec _ _).trans (decide_eq_true (by decide)) | exact decide_eq_true (by decide +kernel)
    refine JL.val rfl rfl rfl (.yes rfl rfl rfl) (Ev.move rfl) ?_
    refine JL.val rfl rfl rfl (.yes rfl rfl rfl) (Ev.bin rfl rfl eql_int) ?_
    refine JL.val rfl rfl rfl (.none rfl) (Ev.pickT rfl rfl) ?_
    refine JL.mv ?_
    refine JL.know (d := 175) (b := true) rfl ?_ ?_
    · first | rfl | exact decide_eq_true rfl | exact (bytes_dec _ _).trans (decide_eq_true (by decide)) | exact decide_eq_true (by decide +kernel)
    refine JL.val rfl rfl rfl (.yes rfl rfl rfl) (Ev.move rfl) ?_
    refine JL.val rfl rfl rfl (.yes rfl rfl rfl) (Ev.bin rfl rfl eql_int) ?_
    refine JL.val rfl rfl rfl (.none rfl) (Ev.pickT rfl rfl) ?_
    refine JL.asg ?_
    refine JL.nil ?_
    refine JQ.thenN ?_
    refine JC.seq ?_
    refine JC.region ?_
    rw [hxe] at hr10
    obtain ⟨oF, cF, eF, _, hCF⟩ := Row.vw (e := 3) hr10
    refine JL.re (d := 32) (v' := Row.v (fdV [((5 : UInt8), ([1] : List UInt8))] 5).length r10) rfl (by rw [hxe]) ?_
    refine JL.re (d := 32) rfl eF ?_
    refine JL.mv ?_
    refine JL.callV rfl (.yes rfl rfl rfl) rfl Tryd.call23 (fun w1 hw1 => balive_any w1 (hk.old hw1) (hf.old hw1)) ?_
    refine JL.val rfl rfl rfl (.none rfl) (Ev.pickT rfl rfl) ?_
    refine JL.mv ?_
    refine JL.know (d := 182) (b := true) rfl ?_ ?_
    · first | rfl | exact decide_eq_true rfl | exact (bytes_dec _ _).trans (decide_eq_true (by decide)) | exact decide_eq_true (by decide +kernel)
    refine JL.val rfl rfl rfl (.yes rfl rfl rfl) (Ev.move rfl) ?_
    refine JL.val rfl rfl rfl (.none rfl) (Ev.pickT rfl rfl) ?_
    refine JL.mv ?_
    refine JL.know (d := 185) (b := true) rfl ?_ ?_
    · first | rfl | exact decide_eq_true rfl | exact (bytes_dec _ _).trans (decide_eq_true (by decide)) | exact decide_eq_true (by decide +kernel)
    refine JL.val rfl rfl rfl (.yes rfl rfl rfl) (Ev.move rfl) ?_
    refine JL.val rfl rfl rfl (.yes rfl rfl rfl) (Ev.bin rfl rfl eql_int) ?_
    refine JL.val rfl rfl rfl (.none rfl) (Ev.pickT rfl rfl) ?_
    refine JL.mv ?_
    refine JL.know (d := 189) (b := true) rfl ?_ ?_
    · first | rfl | exact decide_eq_true rfl | exact (bytes_dec _ _).trans (decide_eq_true (by decide)) | exact decide_eq_true (by decide +kernel)
    refine JL.val rfl rfl rfl (.yes rfl rfl rfl) (Ev.move rfl) ?_
    refine JL.val rfl rfl rfl (.yes rfl rfl rfl) (Ev.bin rfl rfl eql_int) ?_
    refine JL.val rfl rfl rfl (.none rfl) (Ev.pickT rfl rfl) ?_
    refine JL.mv ?_
    refine JL.know (d := 193) (b := true) rfl ?_ ?_
    · first | rfl | exact decide_eq_true rfl | exact (bytes_dec _ _).trans (decide_eq_true (by decide)) | exact decide_eq_true (by decide +kernel)
    refine JL.val rfl rfl rfl (.yes rfl rfl rfl) (Ev.move rfl) ?_
    refine JL.val rfl rfl rfl (.yes rfl rfl rfl) (Ev.bin rfl rfl eql_int) ?_
    refine JL.val rfl rfl rfl (.none rfl) (Ev.pickT rfl rfl) ?_
    refine JL.mv ?_
    refine JL.know (d := 197) (b := true) rfl ?_ ?_
    · first | rfl | exact decide_eq_true rfl | exact (bytes_dec _ _).trans (decide_eq_true (by decide)) | exact decide_eq_true (by decide +kernel)
    refine JL.val rfl rfl rfl (.yes rfl rfl rfl) (Ev.move rfl) ?_
    refine JL.val rfl rfl rfl (.yes rfl rfl rfl) (Ev.bin rfl rfl eql_int) ?_
    refine JL.val rfl rfl rfl (.none rfl) (Ev.pickT rfl rfl) ?_
    refine JL.mv ?_
    refine JL.know (d := 201) (b := true) rfl ?_ ?_
    · first | rfl | exact decide_eq_true rfl | exact (bytes_dec _ _).trans (decide_eq_true (by decide)) | exact decide_eq_true (by decide +kernel)
    refine JL.val rfl rfl rfl (.yes rfl rfl rfl) (Ev.move rfl) ?_
    refine JL.val rfl rfl rfl (.yes rfl rfl rfl) (Ev.bin rfl rfl eql_int) ?_
    refine JL.val rfl rfl rfl (.none rfl) (Ev.pickT rfl rfl) ?_
    refine JL.mv ?_
    refine JL.know (d := 205) (b := true) rfl ?_ ?_
    · first | rfl | exact decide_eq_true rfl | exact (bytes_dec _ _).trans (decide_eq_true (by decide)) | exact decide_eq_true (by decide +kernel)
    refine JL.val rfl rfl rfl (.yes rfl rfl rfl) (Ev.move rfl) ?_
    refine JL.val rfl rfl rfl (.yes rfl rfl rfl) (Ev.bin rfl rfl eql_int) ?_
    refine JL.val rfl rfl rfl (.none rfl) (Ev.pickT rfl rfl) ?_
    refine JL.mv ?_
    refine JL.know (d := 209) (b := true) rfl ?_ ?_
    · first | rfl | exact decide_eq_true rfl | exact (bytes_dec _ _).trans (decide_eq_true (by decide)) | exact decide_eq_true (by decide +kernel)
    refine JL.val rfl rfl rfl (.yes rfl rfl rfl) (Ev.move rfl) ?_
    refine JL.new rfl rfl rfl (.yes rfl rfl rfl) (En.bsN (e := 3) rfl (fun _ => by kernel_rfl)) (fun b211 hb211 => ?_)
    refine JL.callV rfl (.yes rfl rfl rfl) rfl Tryd.call24 (fun w1 hw1 => sameInts_any oF (some ⟨b211, 0, none⟩) cF 1 (fdV [((5 : UInt8), ([1] : List UInt8))] 5) [0] w1 (hCF w1 hw1 (fun p hp => by simp [hp])) (cs_block (xs := ints [0]) hw1 (by repeat (first | exact List.Mem.head _ | refine List.Mem.tail _ ?_ | refine List.mem_append_right _ ?_)) (show 1 ≤ 1000000 by decide)) (fdV_le _ _)) ?_
    refine JL.val rfl rfl rfl (.none rfl) (Ev.pickT rfl rfl) ?_
    refine JL.mv ?_
    refine JL.know (d := 214) (b := true) rfl ?_ ?_
    · first | rfl | exact decide_eq_true rfl | exact (bytes_dec _ _).trans (decide_eq_true (by decide)) | exact decide_eq_true (by decide +kernel)
    refine JL.val rfl rfl rfl (.yes rfl rfl rfl) (Ev.lB Tryd.underlying24 Tryd.sizeOf24) ?_
    refine JL.re (d := 215) (v' := .agg #[.slice (some ⟨b42, 0, none⟩) (fullE 1024).length 1024]) rfl (by rw [fullE_len (by decide)]) ?_
    refine JL.callV rfl (.yes rfl rfl rfl) rfl Tryd.call25 (fun w1 hw1 => bCheck_any (some ⟨b42, 0, none⟩) 1024 (fullE 1024) w1 (bd_full hw1 (by repeat (first | exact List.Mem.head _ | refine List.Mem.tail _ ?_ | refine List.mem_append_right _ ?_)))) ?_
    refine JL.re (d := 216) (v' := .int .i64 0) rfl (congrArg (Value.int .i64) (ckE_ok fullE_ok)) ?_
    refine JL.val rfl rfl rfl (.yes rfl rfl rfl) (Ev.bin rfl rfl eql_int) ?_
    refine JL.val rfl rfl rfl (.none rfl) (Ev.pickT rfl rfl) ?_
    refine JL.asg ?_
    refine JL.nil ?_
    refine JQ.thenN ?_
    refine JC.ret ?_
    refine JQ.end1 (H' := []) (.inl rfl) rfl (.tmp rfl) ?_ ?_
    · exact Sub.k
    · first | rfl | exact congrArg Value.bool (decide_eq_true rfl)

end Go.Proofs.YtopaednfjjjnbaaDoor
