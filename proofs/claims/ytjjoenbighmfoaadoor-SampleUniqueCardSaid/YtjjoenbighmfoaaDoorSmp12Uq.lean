/-
  The law of distinct places.
-/
import Derived.Test.YtjjoenbighmfoaaDoorSmp8Uq
namespace Go.Proofs.YtjjoenbighmfoaaDoor
open Go Go.RowKit
set_option maxRecDepth 100000

theorem JW.skipW {c : Cx} {ops : Array Oper} {σ : Slots} {H : Blocks} {l : List Oper} {o : Oper} {G : Act → Prop} {d : Nat} (hd : o.dst = some d) (hdn : Nat.blt d c.n = true) (g : ∀ a, Fr c.n c.ds σ a → Region.wanted o (yielded ops a.tmps) = false)
    (h : JW c ops ((d, undef) :: σ) H l G) : JW c ops σ H (o :: l) G := fun a hf => by
  unfold wpQuiet
  rw [if_neg (by rw [g a hf]; simp)]
  exact h _ (by rw [hd]; exact hf.put (Nat.le_of_ble_eq_true hdn) _)
/-- The counts of places, summed. -/
def totC (l : List Pl) : List Pl → Int
  | [] => 0
  | p :: ps => cntP l p + totC l ps
theorem totC_append (l : List Pl) : ∀ a b : List Pl, totC l (a ++ b) = totC l a + totC l b
  | [], b => by simp [totC]
  | p :: a, b => by
    rw [List.cons_append, totC, totC, totC_append l a b]
    omega
theorem totC_take {l o : List Pl} {i : Nat} {x : Pl} (hx : o[i]? = some x) : totC l (o.take (i + 1)) = totC l (o.take i) + cntP l x := by
  rw [List.take_add_one, hx, totC_append]
  show _ + (cntP l x + 0) = _
  omega
theorem totC_nil : ∀ o : List Pl, totC [] o = 0
  | [] => rfl
  | p :: o => by
    rw [totC, totC_nil o]
    rfl
theorem cntP_cons (x p : Pl) (l : List Pl) : cntP (x :: l) p = (if x = p then 1 else 0) + cntP l p := by
  unfold cntP
  rw [List.filter_cons]
  by_cases h : x = p
  · simp [h]; omega
  · simp [h]
theorem totC_cons (x : Pl) (l : List Pl) : ∀ o : List Pl, totC (x :: l) o = cntP o x + totC l o
  | [] => rfl
  | p :: o => by
    rw [totC, totC, totC_cons x l o, cntP_cons, cntP_cons]
    by_cases h : x = p
    · subst h; omega
    · rw [if_neg h, if_neg (fun e => h e.symm)]; omega
theorem cntP_nodup : ∀ {o : List Pl} {x : Pl}, o.Nodup → x ∈ o → cntP o x = 1
  | [], x, _, h => by simp at h
  | p :: o, x, hn, h => by
    obtain ⟨h1, h2⟩ := List.nodup_cons.1 hn
    rw [cntP_cons]
    by_cases hp : p = x
    · subst hp
      have h0 : o.filter (fun y => decide (y = p)) = [] := List.filter_eq_nil_iff.2 fun y hy => by
        simp only [decide_eq_true_eq]
        exact fun e => h1 (e ▸ hy)
      rw [if_pos rfl, cntP, h0]
      rfl
    · rw [if_neg hp, cntP_nodup h2 ((List.mem_cons.1 h).resolve_left fun e => hp e.symm)]
      rfl
theorem totC_all : ∀ (l o : List Pl), o.Nodup → (∀ x ∈ l, x ∈ o) → totC l o = (l.length : Int)
  | [], o, _, _ => totC_nil o
  | x :: l, o, hn, h => by
    rw [totC_cons, cntP_nodup hn (h x (List.mem_cons_self ..)), totC_all l o hn fun y hy => h y (List.mem_cons_of_mem _ hy), List.length_cons]
    omega
theorem sorted_nodup {o : List Pl} (h : o.Pairwise ltP) : o.Nodup := h.imp fun {a b} hab e => by
  subst e
  unfold ltP at hab
  omega
/-- The distinct indices of a batch. -/
def grp (o : List Pl) (b : Int) : List Int := (o.filter fun p => decide (p.1 = b)).map Prod.snd
section
variable {o : List Pl} {i j : Nat} {x y : Pl}
theorem sorted_lt (h : o.Pairwise ltP) (hx : o[i]? = some x) (hy : o[j]? = some y) (hij : i < j) : ltP x y := by
  obtain ⟨l1, rfl⟩ := List.getElem?_eq_some_iff.1 hx
  obtain ⟨l2, rfl⟩ := List.getElem?_eq_some_iff.1 hy
  exact List.pairwise_iff_getElem.1 h i j l1 l2 hij
theorem sorted_le (h : o.Pairwise ltP) (hx : o[i]? = some x) (hy : o[j]? = some y) (hij : i ≤ j) : x.1 ≤ y.1 := by
  rcases Nat.lt_or_ge i j with h1 | h1
  · have := sorted_lt h hx hy h1
    unfold ltP at this
    omega
  · obtain rfl : i = j := by omega
    rw [hx] at hy
    obtain rfl := Option.some.inj hy
    exact Int.le_refl _
theorem grp_head : ∀ (d : List Pl) (b : Int), d.Pairwise ltP → (∀ p ∈ d, b ≤ p.1) → ∀ (k : Nat) (z : Int), (grp d b)[k]? = some z → d[k]? = some (b, z)
  | [], b, _, _, k, z, h => by simp [grp] at h
  | p :: d, b, hs, hb, k, z, h => by
    obtain ⟨h1, h2⟩ := List.pairwise_cons.1 hs
    by_cases hp : p.1 = b
    · have e : grp (p :: d) b = p.2 :: grp d b := by simp [grp, hp]
      rw [e] at h
      cases k with
      | zero =>
        obtain rfl := Option.some.inj h
        rw [← hp]
        rfl
      | succ k => exact grp_head d b h2 (fun q hq => hb q (List.mem_cons_of_mem _ hq)) k z h
    · have hlt := hb p (List.mem_cons_self ..)
      have e : grp (p :: d) b = [] := by
        unfold grp
        rw [List.filter_eq_nil_iff.2, List.map_nil]
        intro q hq
        simp only [decide_eq_true_eq]
        rcases List.mem_cons.1 hq with rfl | hq
        · exact hp
        · have := h1 q hq
          unfold ltP at this
          omega
      rw [e] at h
      simp at h
/-- A batch's entries follow its first one. -/
theorem grp_at (h : o.Pairwise ltP) (hx : o[i]? = some x) (hf : ∀ (j : Nat) (y : Pl), j < i → o[j]? = some y → y.1 < x.1) {k : Nat} {z : Int} (hz : (grp o x.1)[k]? = some z) : o[i + k]? = some (x.1, z) := by
  have e : grp o x.1 = grp (o.drop i) x.1 := by
    have h1 : o.filter (fun p => decide (p.1 = x.1)) = (o.drop i).filter (fun p => decide (p.1 = x.1)) := by
      conv => lhs; rw [← List.take_append_drop i o, List.filter_append]
      rw [List.filter_eq_nil_iff.2, List.nil_append]
      intro q hq
      obtain ⟨j, hj⟩ := List.getElem?_of_mem hq
      rw [List.getElem?_take] at hj
      split at hj
      · rename_i hji
        have := hf j q hji hj
        simp only [decide_eq_true_eq]
        omega
      · cases hj
    rw [grp, h1]
    rfl
  rw [e] at hz
  have h2 := grp_head (o.drop i) x.1 (h.sublist (List.drop_sublist _ _)) (fun q hq => by
    obtain ⟨j, hj⟩ := List.getElem?_of_mem hq
    rw [List.getElem?_drop] at hj
    exact sorted_le h hx hj (by omega)) k z hz
  rwa [List.getElem?_drop] at h2
theorem flen_add {P Q R : Pl → Bool} : ∀ {o : List Pl}, (∀ p ∈ o, R p = (P p || Q p) ∧ (P p && Q p) = false) → (o.filter R).length = (o.filter P).length + (o.filter Q).length
  | [], _ => rfl
  | p :: o, h => by
    have ih := flen_add (o := o) fun q hq => h q (List.mem_cons_of_mem _ hq)
    obtain ⟨h1, h2⟩ := h p (List.mem_cons_self ..)
    rw [List.filter_cons, List.filter_cons, List.filter_cons, h1]
    cases hP : P p <;> cases hQ : Q p <;> simp [hP, hQ] at h2 ⊢ <;> omega
/-- How many entries are of the batches begun. -/
def begun (o : List Pl) : Nat → Nat
  | 0 => 0
  | i + 1 => (o.filter fun p => decide (p.1 ≤ (o.getD i (0, 0)).1)).length
theorem begun_at (hx : o[i]? = some x) : begun o (i + 1) = (o.filter fun p => decide (p.1 ≤ x.1)).length := by
  rw [begun, List.getD_eq_getElem?_getD, hx]
  rfl
theorem first_lt (h : o.Pairwise ltP) (hx : o[i]? = some x) (hf : i = 0 ∨ ∃ y, o[i - 1]? = some y ∧ x.1 ≠ y.1) : ∀ (j : Nat) (y : Pl), j < i → o[j]? = some y → y.1 < x.1 := by
  intro j y hj hy
  rcases hf with rfl | ⟨z, hz, hne⟩
  · omega
  · have h1 := sorted_le h hy hz (by omega)
    have h2 := sorted_le h hz hx (by omega)
    omega
theorem begun_new (h : o.Pairwise ltP) (hx : o[i]? = some x) (hf : i = 0 ∨ ∃ y, o[i - 1]? = some y ∧ x.1 ≠ y.1) : begun o (i + 1) = begun o i + (grp o x.1).length := by
  have hlo := first_lt h hx hf
  have hge : ∀ (j : Nat) (y : Pl), i ≤ j → o[j]? = some y → x.1 ≤ y.1 := fun j y hj hy => sorted_le h hx hy hj
  rw [begun_at hx, grp, List.length_map]
  rcases hf with rfl | ⟨z, hz, hne⟩
  · rw [begun, Nat.zero_add]
    congr 1
    refine List.filter_congr fun p hp => ?_
    obtain ⟨j, hj⟩ := List.getElem?_of_mem hp
    have := hge j p (Nat.zero_le _) hj
    rw [decide_eq_decide]
    omega
  · cases i with
    | zero =>
      rw [hx] at hz
      exact absurd (congrArg Prod.fst (Option.some.inj hz)) hne
    | succ i =>
      rw [begun_at (i := i) (x := z) hz]
      refine flen_add fun p hp => ?_
      obtain ⟨j, hj⟩ := List.getElem?_of_mem hp
      have hzx := hlo i z (Nat.lt_succ_self _) hz
      rcases Nat.lt_or_ge j (i + 1) with h1 | h1
      · have h2 := sorted_le h hj hz (by omega)
        rw [decide_eq_true h2, decide_eq_true (show p.1 ≤ x.1 by omega), decide_eq_false (show ¬ p.1 = x.1 by omega)]
        exact ⟨rfl, rfl⟩
      · have h2 := hge j p h1 hj
        rw [decide_eq_false (show ¬ p.1 ≤ z.1 by omega), Bool.false_or, Bool.false_and]
        exact ⟨by rw [decide_eq_decide]; omega, rfl⟩
theorem begun_same (hx : o[i]? = some x) (hi : 0 < i) (hy : o[i - 1]? = some y) (e : x.1 = y.1) : begun o (i + 1) = begun o i := by
  obtain ⟨k, rfl⟩ : ∃ k, i = k + 1 := ⟨i - 1, by omega⟩
  rw [begun_at hx, begun_at (i := k) (x := y) hy, e]
theorem begun_all (h : o.Pairwise ltP) : begun o o.length = o.length := by
  cases hl : o.length with
  | zero => rfl
  | succ n =>
    obtain ⟨x, hx⟩ : ∃ x, o[n]? = some x := ⟨_, List.getElem?_eq_getElem (by omega)⟩
    rw [begun_at hx, List.filter_eq_self.2, hl]
    intro p hp
    obtain ⟨j, hj⟩ := List.getElem?_of_mem hp
    have hjl := (List.getElem?_eq_some_iff.1 hj).1
    have := sorted_le h hj hx (by omega)
    simp only [decide_eq_true_eq]
    exact this
theorem begun_le (o : List Pl) : ∀ i, begun o i ≤ o.length
  | 0 => Nat.zero_le _
  | _ + 1 => List.length_filter_le _ _
end
theorem totC_nonneg (l : List Pl) : ∀ o : List Pl, 0 ≤ totC l o
  | [] => Int.le_refl _
  | p :: o => by
    have h1 := totC_nonneg l o
    have h2 := cntP_le l p
    rw [totC]
    omega
theorem totC_un (l : List Pl) : totC l (unL l) = (l.length : Int) := totC_all l (unL l) (sorted_nodup (unL_sorted l)) fun x hx => (unL_mem l x).2 hx
theorem totC_bound (l : List Pl) (i : Nat) : 0 ≤ totC l ((unL l).take i) ∧ totC l ((unL l).take i) ≤ (l.length : Int) := by
  have h1 := totC_un l
  rw [← List.take_append_drop i (unL l), totC_append] at h1
  have h2 := totC_nonneg l ((unL l).take i)
  have h3 := totC_nonneg l ((unL l).drop i)
  omega
theorem unL_self (l : List Pl) : unL (unL l) = unL l := sorted_eq _ _ (unL_sorted _) (unL_sorted l) (unL_mem _)

set_option maxHeartbeats 4000000 in
theorem lawUnique_any (oa : Option Addr) (cap : Nat) (l : List Pl) (w : World) (hs : Pz w oa cap l) (hk : KMem 1 w) (hf : FMem 0 w) :
    Calls Tryd.prog 3 #[.slice oa l.length cap] w (Ret w (fun v _ => v = .bool true)) := by
  refine enter (vs := [.slice oa l.length cap]) Tryd.func3 rfl Tryd.ntmps3 rfl ?_
  refine JC.seq ?_
  refine JC.region ?_
  refine JL.asg ?_
  refine JL.nil ?_
  refine JQ.thenN ?_
  refine JC.seq ?_
  refine JC.seq ?_
  refine JC.region ?_
  refine JL.mv ?_
  refine JL.val rfl rfl rfl (.none rfl) (Ev.lenS rfl Tryd.underlying22) ?_
  refine JL.val rfl rfl rfl (.none rfl) (Ev.bin rfl rfl gtr_int) ?_
  refine JL.nil ?_
  refine JQ.thenN ?_
  refine JC.cond rfl (fun hg => ?_) (fun hg => ?_)
  · -- t12 True
    replace hg := of_decide_eq_true hg
    refine JC.seq ?_
    refine JC.region ?_
    refine JL.callV rfl (.none rfl) rfl Tryd.call4 (fun w1 hw1 => sExamples_any w1 (hk.old hw1) (hf.old hw1)) ?_
    refine JL.asg ?_
    refine JL.nil ?_
    refine JQ.thenN ?_
    refine JC.ret ?_
    refine JQ.thenR ?_
    refine JQ.end1 (H' := []) (.inl rfl) rfl (.tmp rfl) ?_ ?_
    · exact Sub.k
    · rfl
  · -- t12 False
    replace hg := of_decide_eq_false hg
    have hl : l.length ≤ 1100000 := by omega
    have hl2 : l.length ≤ 200 := by omega
    have hul := unL_le l
    refine JC.skip ?_
    refine JQ.thenN ?_
    refine JC.seq ?_
    refine JC.region ?_
    refine JL.mv ?_
    refine JL.callN rfl (.none rfl) rfl Tryd.call10 (fun w1 hw1 => sUnique_any oa cap l w1 (hs.old hw1) hl) ?_
    rintro _ _ ⟨r1, rfl, rfl, hr1⟩
    obtain ⟨o1, c1, e1, hn1, hC1⟩ := Row.vw (e := 27) hr1
    refine JL.re (d := 15) rfl e1 ?_
    refine JL.asg ?_
    refine JL.nil ?_
    refine JQ.thenN ?_
    refine JC.seq ?_
    refine JC.region ?_
    refine JL.asg ?_
    refine JL.asg ?_
    refine JL.nil ?_
    refine JQ.thenN ?_
    refine JC.seq ?_
    refine JC.seq ?_
    refine JC.region ?_
    refine JL.asg ?_
    refine JL.nil ?_
    refine JQ.thenN ?_
    refine JC.block ?_
    refine JC.loop (X := Nat)
      (fun i => [(0, .slice oa l.length cap), (3, .slice o1 (unL l).length c1), (4, .int .i64 (totC l ((unL l).take i))), (5, .int .i64 ((begun (unL l) i : Nat) : Int)), (6, .int .i64 (i : Int))])
      (fun i => Row.b 27 r1)
      (fun i => i ≤ (unL l).length)
      (fun i => (unL l).length - i) 0 ?_ ?_ ?_ ?_
    · exact Keeps.k
    · first | exact Sub.all | exact Sub.of_cnt (fun a => by (try dsimp only); simp only [cntA]; omega)
    · exact Nat.zero_le _
    rintro i hi
    refine JC.seq ?_
    refine JC.seq ?_
    refine JC.region ?_
    refine JL.mv ?_
    refine JL.mv ?_
    refine JL.val rfl rfl rfl (.none rfl) (Ev.lenS rfl Tryd.underlying22) ?_
    refine JL.val rfl rfl rfl (.none rfl) (Ev.bin rfl rfl lss_int) ?_
    refine JL.nil ?_
    refine JQ.thenN ?_
    refine JC.cond rfl (fun hc1 => ?_) (fun hc1 => ?_)
    · -- t19 True
      replace hc1 := of_decide_eq_true hc1
      obtain ⟨a1, rfl⟩ : ∃ a, o1 = some a := by cases o1 with | none => (have := hn1 rfl; omega) | some a => exact ⟨a, rfl⟩
      obtain ⟨x, hx⟩ := get_some (l := unL l) (k := i) (by omega)
      have hso := unL_sorted l
      have hcp := cntP_pos.2 ((unL_mem l x).1 (List.mem_of_getElem? hx))
      have hcl := cntP_le l x
      have htc := totC_bound l i
      have hbg := begun_le (unL l) i
      have hbn := begun_le (unL l) (i + 1)
      refine JC.skip ?_
      refine JQ.thenN ?_
      refine JC.seq ?_
      refine JC.block ?_
      refine JC.seq ?_
      refine JC.region ?_
      refine JL.mv ?_
      refine JL.mv ?_
      refine JL.mv ?_
      refine JL.val rfl rfl rfl (.none rfl) (Ev.idxS rfl rfl Tryd.underlying22 Tryd.sizeOf27 (k := i) rfl (by omega)) ?_
      refine JL.val rfl rfl rfl (.none rfl) (Ev.loadA (l := plc x) rfl Tryd.underlying27 rfl Tryd.sizeOf27 (fun w hw => ((hC1 w hw (fun p hp => by first | exact hp | simp [hp])).mem a1 rfl).plAt hx) rfl) ?_
      refine JL.callV rfl (.none rfl) rfl Tryd.call11 (fun w1 hw1 => sCount_any oa cap l x w1 (hs.old hw1) hl) ?_
      refine JL.asg ?_
      refine JL.nil ?_
      refine JQ.thenN ?_
      refine JC.seq ?_
      refine JC.seq ?_
      refine JC.regionQ (by kernel_rfl) (by kernel_rfl) ?_
      refine JW.val rfl rfl (.none rfl) (Ev.move rfl) ?_
      refine JW.val rfl rfl (.none rfl) (Ev.bin rfl rfl lss_int) ?_
      refine JW.val rfl rfl (.none rfl) (Ev.move rfl) ?_
      refine JW.know (d := 30) (b := false) rfl ?_ ?_
      · first | exact decide_eq_false (by omega) | (exfalso; omega)
      refine JW.val rfl rfl (.yes rfl rfl rfl) (Ev.move rfl) ?_
      refine JW.val rfl rfl (.yes rfl rfl rfl) (Ev.bin rfl rfl gtr_int) ?_
      refine JW.val rfl rfl (.yes rfl rfl rfl) (Ev.move rfl) ?_
      refine JW.split (d := 33) rfl (fun hA => ?_) (fun hA => ?_)
      · -- guard 33 true
        have hA := of_decide_eq_true hA
        obtain ⟨y, hy⟩ := get_some (l := unL l) (k := i - 1) (by omega)
        have hlt := sorted_lt hso hy hx (by omega)
        unfold ltP at hlt
        refine JW.val rfl rfl (.yes rfl rfl rfl) (Ev.move rfl) ?_
        refine JW.val rfl rfl (.yes rfl rfl rfl) (Ev.move rfl) ?_
        refine JW.val rfl rfl (.yes rfl rfl rfl) (Ev.idxS rfl rfl Tryd.underlying22 Tryd.sizeOf27 (k := i) rfl (by omega)) ?_
        refine JW.val rfl rfl (.yes rfl rfl rfl) (Ev.fldP 0 rfl (fun _ _ => by kernel_rfl)) ?_
        refine JW.val rfl rfl (.yes rfl rfl rfl) (Ev.load1 rfl Tryd.underlying3 rfl (fun w hw => ((hC1 w hw (fun p hp => by first | exact hp | simp [hp])).mem a1 rfl).plF hx 0 rfl)) ?_
        refine JW.val rfl rfl (.yes rfl rfl rfl) (Ev.move rfl) ?_
        refine JW.val rfl rfl (.yes rfl rfl rfl) (Ev.move rfl) ?_
        refine JW.val rfl rfl (.yes rfl rfl rfl) (Ev.bin rfl rfl (sub_i64 (by omega))) ?_
        refine JW.val rfl rfl (.yes rfl rfl rfl) (Ev.idxS rfl rfl Tryd.underlying22 Tryd.sizeOf27 (k := i - 1) (by omega) (by omega)) ?_
        refine JW.val rfl rfl (.yes rfl rfl rfl) (Ev.fldP 0 rfl (fun _ _ => by kernel_rfl)) ?_
        refine JW.val rfl rfl (.yes rfl rfl rfl) (Ev.load1 rfl Tryd.underlying3 rfl (fun w hw => ((hC1 w hw (fun p hp => by first | exact hp | simp [hp])).mem a1 rfl).plF hy 0 rfl)) ?_
        refine JW.val rfl rfl (.yes rfl rfl rfl) (Ev.bin rfl rfl lss_int) ?_
        refine JW.val rfl rfl (.yes rfl rfl rfl) (Ev.move rfl) ?_
        refine JW.know (d := 46) (b := false) rfl ?_ ?_
        · first | exact decide_eq_false (by omega) | (exfalso; omega)
        refine JW.val rfl rfl (.yes rfl rfl rfl) (Ev.move rfl) ?_
        refine JW.val rfl rfl (.yes rfl rfl rfl) (Ev.move rfl) ?_
        refine JW.val rfl rfl (.yes rfl rfl rfl) (Ev.idxS rfl rfl Tryd.underlying22 Tryd.sizeOf27 (k := i) rfl (by omega)) ?_
        refine JW.val rfl rfl (.yes rfl rfl rfl) (Ev.fldP 0 rfl (fun _ _ => by kernel_rfl)) ?_
        refine JW.val rfl rfl (.yes rfl rfl rfl) (Ev.load1 rfl Tryd.underlying3 rfl (fun w hw => ((hC1 w hw (fun p hp => by first | exact hp | simp [hp])).mem a1 rfl).plF hx 0 rfl)) ?_
        refine JW.val rfl rfl (.yes rfl rfl rfl) (Ev.move rfl) ?_
        refine JW.val rfl rfl (.yes rfl rfl rfl) (Ev.move rfl) ?_
        refine JW.val rfl rfl (.yes rfl rfl rfl) (Ev.bin rfl rfl (sub_i64 (by omega))) ?_
        refine JW.val rfl rfl (.yes rfl rfl rfl) (Ev.idxS rfl rfl Tryd.underlying22 Tryd.sizeOf27 (k := i - 1) (by omega) (by omega)) ?_
        refine JW.val rfl rfl (.yes rfl rfl rfl) (Ev.fldP 0 rfl (fun _ _ => by kernel_rfl)) ?_
        refine JW.val rfl rfl (.yes rfl rfl rfl) (Ev.load1 rfl Tryd.underlying3 rfl (fun w hw => ((hC1 w hw (fun p hp => by first | exact hp | simp [hp])).mem a1 rfl).plF hy 0 rfl)) ?_
        refine JW.val rfl rfl (.yes rfl rfl rfl) (Ev.bin rfl rfl eql_int) ?_
        refine JW.val rfl rfl (.yes rfl rfl rfl) (Ev.move rfl) ?_
        refine JW.split (d := 59) rfl (fun hB => ?_) (fun hB => ?_)
        · -- guard 59 true
          have hB := of_decide_eq_true hB
          refine JW.val rfl rfl (.yes rfl rfl rfl) (Ev.move rfl) ?_
          refine JW.val rfl rfl (.yes rfl rfl rfl) (Ev.move rfl) ?_
          refine JW.val rfl rfl (.yes rfl rfl rfl) (Ev.idxS rfl rfl Tryd.underlying22 Tryd.sizeOf27 (k := i) rfl (by omega)) ?_
          refine JW.val rfl rfl (.yes rfl rfl rfl) (Ev.fldP 1 rfl (fun _ _ => by kernel_rfl)) ?_
          refine JW.val rfl rfl (.yes rfl rfl rfl) (Ev.load1 rfl Tryd.underlying3 rfl (fun w hw => ((hC1 w hw (fun p hp => by first | exact hp | simp [hp])).mem a1 rfl).plF hx 1 rfl)) ?_
          refine JW.val rfl rfl (.yes rfl rfl rfl) (Ev.move rfl) ?_
          refine JW.val rfl rfl (.yes rfl rfl rfl) (Ev.move rfl) ?_
          refine JW.val rfl rfl (.yes rfl rfl rfl) (Ev.bin rfl rfl (sub_i64 (by omega))) ?_
          refine JW.val rfl rfl (.yes rfl rfl rfl) (Ev.idxS rfl rfl Tryd.underlying22 Tryd.sizeOf27 (k := i - 1) (by omega) (by omega)) ?_
          refine JW.val rfl rfl (.yes rfl rfl rfl) (Ev.fldP 1 rfl (fun _ _ => by kernel_rfl)) ?_
          refine JW.val rfl rfl (.yes rfl rfl rfl) (Ev.load1 rfl Tryd.underlying3 rfl (fun w hw => ((hC1 w hw (fun p hp => by first | exact hp | simp [hp])).mem a1 rfl).plF hy 1 rfl)) ?_
          refine JW.val rfl rfl (.yes rfl rfl rfl) (Ev.bin rfl rfl leq_int) ?_
          refine JW.val rfl rfl (.yes rfl rfl rfl) (Ev.pickT rfl rfl) ?_
          refine JW.val rfl rfl (.yes rfl rfl rfl) (Ev.pickF rfl rfl) ?_
          refine JW.val rfl rfl (.yes rfl rfl rfl) (Ev.pickT rfl rfl) ?_
          refine JW.val rfl rfl (.none rfl) (Ev.pickF rfl rfl) ?_
          refine JW.nilQ ?_
          refine JQ.thenN ?_
          refine JC.knowF rfl ?_ ?_
          · first | exact decide_eq_false (by omega) | (exfalso; omega)
          refine JC.skip ?_
          refine JQ.thenN ?_
          refine JC.seq ?_
          refine JC.region ?_
          refine JL.mv ?_
          refine JL.mv ?_
          refine JL.val rfl rfl rfl (.none rfl) (Ev.cast (v' := .int .i64 (totC l ((unL l).take (i + 1)))) (congrArg (Value.int .i64) (totC_take hx).symm) (Ev.bin rfl rfl (add_i64 (by omega)))) ?_
          refine JL.asg ?_
          refine JL.nil ?_
          refine JQ.thenN ?_
          refine JC.seq ?_
          refine JC.regionQ (by kernel_rfl) (by kernel_rfl) ?_
          refine JW.val rfl rfl (.none rfl) (Ev.move rfl) ?_
          refine JW.val rfl rfl (.none rfl) (Ev.bin rfl rfl eql_int) ?_
          refine JW.val rfl rfl (.none rfl) (Ev.move rfl) ?_
          refine JW.split (d := 81) rfl (fun hD => ?_) (fun hD => ?_)
          · -- guard 81 true
            have hD := of_decide_eq_true hD
            have hfi : i = 0 ∨ ∃ y, (unL l)[i - 1]? = some y ∧ x.1 ≠ y.1 := .inl (by omega)
            refine JW.skip rfl rfl (.noF rfl rfl rfl) ?_
            refine JW.skip rfl rfl (.noF rfl rfl rfl) ?_
            refine JW.skip rfl rfl (.noF rfl rfl rfl) ?_
            refine JW.skip rfl rfl (.noF rfl rfl rfl) ?_
            refine JW.skip rfl rfl (.noF rfl rfl rfl) ?_
            refine JW.skip rfl rfl (.noF rfl rfl rfl) ?_
            refine JW.skip rfl rfl (.noF rfl rfl rfl) ?_
            refine JW.skip rfl rfl (.noF rfl rfl rfl) ?_
            refine JW.skip rfl rfl (.noF rfl rfl rfl) ?_
            refine JW.skip rfl rfl (.noF rfl rfl rfl) ?_
            refine JW.skip rfl rfl (.noF rfl rfl rfl) ?_
            refine JW.skip rfl rfl (.noF rfl rfl rfl) ?_
            refine JW.val rfl rfl (.none rfl) (Ev.pickT rfl rfl) ?_
            refine JW.nilQ ?_
            refine JQ.thenN ?_
            refine JC.condT rfl ?_
            refine JC.seq ?_
            refine JC.region ?_
            refine JL.mv ?_
            refine JL.mv ?_
            refine JL.mv ?_
            refine JL.val rfl rfl rfl (.none rfl) (Ev.idxS rfl rfl Tryd.underlying22 Tryd.sizeOf27 (k := i) rfl (by omega)) ?_
            refine JL.val rfl rfl rfl (.none rfl) (Ev.fldP 0 rfl (fun _ _ => by kernel_rfl)) ?_
            refine JL.val rfl rfl rfl (.none rfl) (Ev.load1 rfl Tryd.underlying3 rfl (fun w hw => ((hC1 w hw (fun p hp => by first | exact hp | simp [hp])).mem a1 rfl).plF hx 0 rfl)) ?_
            refine JL.callN rfl (.none rfl) rfl Tryd.call12 (fun w1 hw1 => sInBatch_any oa cap l x.1 w1 (hs.old hw1) hl) ?_
            rintro _ _ ⟨r3, rfl, rfl, hr3⟩
            obtain ⟨o3, c3, e3, hn3, hC3⟩ := Row.vw (e := 3) hr3
            refine JL.re (d := 101) rfl e3 ?_
            have hbs : begun (unL l) (i + 1) = begun (unL l) i + (inB l x.1).length := begun_new hso hx hfi
            have hib := inB_le l x.1
            refine JL.asg ?_
            refine JL.nil ?_
            refine JQ.thenN ?_
            refine JC.seq ?_
            refine JC.seq ?_
            refine JC.region ?_
            refine JL.asg ?_
            refine JL.nil ?_
            refine JQ.thenN ?_
            refine JC.block ?_
            refine JC.loop (X := Nat)
              (fun k => [(0, .slice oa l.length cap), (3, .slice (some a1) (unL l).length c1), (4, .int .i64 (totC l ((unL l).take (i + 1)))), (5, .int .i64 ((begun (unL l) i : Nat) : Int)), (6, .int .i64 (i : Int)), (8, .slice o3 (inB l x.1).length c3), (9, .int .i64 (k : Int))])
              (fun k => Row.b 27 r1 ++ Row.b 3 r3)
              (fun k => k ≤ (inB l x.1).length)
              (fun k => (inB l x.1).length - k) 0 ?_ ?_ ?_ ?_
            · exact Keeps.k
            · first | exact Sub.all | exact Sub.of_cnt (fun a => by (try dsimp only); simp only [cntA]; omega)
            · exact Nat.zero_le _
            rintro k hki
            refine JC.seq ?_
            refine JC.seq ?_
            refine JC.region ?_
            refine JL.mv ?_
            refine JL.mv ?_
            refine JL.val rfl rfl rfl (.none rfl) (Ev.lenS rfl Tryd.underlying28) ?_
            refine JL.val rfl rfl rfl (.none rfl) (Ev.bin rfl rfl lss_int) ?_
            refine JL.nil ?_
            refine JQ.thenN ?_
            refine JC.cond rfl (fun hc2 => ?_) (fun hc2 => ?_)
            · -- t105 True
              replace hc2 := of_decide_eq_true hc2
              obtain ⟨v, hv⟩ := get_some (l := inB l x.1) (k := k) (by omega)
              have hov := grp_at hso hx (first_lt hso hx hfi) (k := k) (z := v) hv
              have hlk := (List.getElem?_eq_some_iff.1 hov).1
              obtain ⟨a3, rfl⟩ : ∃ a, o3 = some a := by cases o3 with | none => (have := hn3 rfl; omega) | some a => exact ⟨a, rfl⟩
              refine JC.skip ?_
              refine JQ.thenN ?_
              refine JC.seq ?_
              refine JC.block ?_
              refine JC.seq ?_
              refine JC.regionQ (by kernel_rfl) (by kernel_rfl) ?_
              refine JW.val rfl rfl (.none rfl) (Ev.move rfl) ?_
              refine JW.val rfl rfl (.none rfl) (Ev.move rfl) ?_
              refine JW.val rfl rfl (.none rfl) (Ev.bin rfl rfl (add_i64 (by omega))) ?_
              refine JW.val rfl rfl (.none rfl) (Ev.move rfl) ?_
              refine JW.val rfl rfl (.none rfl) (Ev.lenS rfl Tryd.underlying22) ?_
              refine JW.val rfl rfl (.none rfl) (Ev.bin rfl rfl geq_int) ?_
              refine JW.val rfl rfl (.none rfl) (Ev.move rfl) ?_
              refine JW.know (d := 114) (b := false) rfl ?_ ?_
              · first | exact decide_eq_false (by omega) | (exfalso; omega)
              refine JW.val rfl rfl (.yes rfl rfl rfl) (Ev.move rfl) ?_
              refine JW.val rfl rfl (.yes rfl rfl rfl) (Ev.move rfl) ?_
              refine JW.val rfl rfl (.yes rfl rfl rfl) (Ev.move rfl) ?_
              refine JW.val rfl rfl (.yes rfl rfl rfl) (Ev.bin rfl rfl (add_i64 (by omega))) ?_
              refine JW.val rfl rfl (.yes rfl rfl rfl) (Ev.idxS rfl rfl Tryd.underlying22 Tryd.sizeOf27 (k := i + k) (by omega) (by omega)) ?_
              refine JW.val rfl rfl (.yes rfl rfl rfl) (Ev.loadA (l := plc (x.1, v)) rfl Tryd.underlying27 rfl Tryd.sizeOf27 (fun w hw => ((hC1 w hw (fun p hp => by first | exact hp | simp [hp])).mem a1 rfl).plAt hov) rfl) ?_
              refine JW.val rfl rfl (.yes rfl rfl rfl) (Ev.move rfl) ?_
              refine JW.val rfl rfl (.yes rfl rfl rfl) (Ev.move rfl) ?_
              refine JW.val rfl rfl (.yes rfl rfl rfl) (Ev.idxS rfl rfl Tryd.underlying22 Tryd.sizeOf27 (k := i) rfl (by omega)) ?_
              refine JW.val rfl rfl (.yes rfl rfl rfl) (Ev.fldP 0 rfl (fun _ _ => by kernel_rfl)) ?_
              refine JW.val rfl rfl (.yes rfl rfl rfl) (Ev.load1 rfl Tryd.underlying3 rfl (fun w hw => ((hC1 w hw (fun p hp => by first | exact hp | simp [hp])).mem a1 rfl).plF hx 0 rfl)) ?_
              refine JW.val rfl rfl (.yes rfl rfl rfl) (Ev.move rfl) ?_
              refine JW.val rfl rfl (.yes rfl rfl rfl) (Ev.move rfl) ?_
              refine JW.val rfl rfl (.yes rfl rfl rfl) (Ev.idxS1 rfl rfl Tryd.underlying28 Tryd.sizeOf3 (k := k) rfl (by omega)) ?_
              refine JW.val rfl rfl (.yes rfl rfl rfl) (Ev.load1 rfl Tryd.underlying3 rfl (fun w hw => (hC3 w hw (fun p hp => by first | exact hp | simp [hp])).mem a3 rfl k _ (ints_get hv))) ?_
              refine JW.val rfl rfl (.yes rfl rfl rfl) (Ev.bu2 rfl rfl rfl rfl Tryd.underlying27 (fun _ => by kernel_rfl) Tryd.zeroValue27) ?_
              refine JW.val rfl rfl (.yes rfl rfl rfl) (Ev.bin rfl rfl (neq_pl Tryd.underlying27 Tryd.underlying3 Tryd.underlying3 (by kernel_rfl) (by kernel_rfl) (by decide) (by decide) (x.1, v) (x.1, v))) ?_
              refine JW.val rfl rfl (.none rfl) (Ev.pickF rfl rfl) ?_
              refine JW.nilQ ?_
              refine JQ.thenN ?_
              refine JC.knowF rfl ?_ ?_
              · simp
              refine JC.skip ?_
              refine JQ.blockN ?_
              refine JQ.thenN ?_
              refine JC.region ?_
              refine JL.mv ?_
              refine JL.val rfl rfl rfl (.none rfl) (Ev.bin rfl rfl (add_i64 (by omega))) ?_
              refine JL.asg ?_
              refine JL.nil ?_
              refine JQ.loopN (k + 1) ?_ ?_ ?_ ?_
              · exact Keeps.k
              · first | exact Sub.all | exact Sub.of_cnt (fun a => by (try dsimp only); simp only [cntA]; omega)
              · omega
              · show (inB l x.1).length - (k + 1) < (inB l x.1).length - k; omega
            · -- t105 False
              replace hc2 := of_decide_eq_false hc2
              obtain rfl : k = (inB l x.1).length := by omega
              refine JC.exit ?_
              refine JQ.thenE ?_
              refine JQ.thenE ?_
              refine JQ.blockE ?_
              refine JQ.thenN ?_
              refine JC.region ?_
              refine JL.mv ?_
              refine JL.mv ?_
              refine JL.val rfl rfl rfl (.none rfl) (Ev.lenS rfl Tryd.underlying28) ?_
              refine JL.val rfl rfl rfl (.none rfl) (Ev.cast (v' := .int .i64 ((begun (unL l) (i + 1) : Nat) : Int)) (congrArg (Value.int .i64) (by omega)) (Ev.bin rfl rfl (add_i64 (by omega)))) ?_
              refine JL.asg ?_
              refine JL.nil ?_
              refine JQ.blockN ?_
              refine JQ.thenN ?_
              refine JC.region ?_
              refine JL.mv ?_
              refine JL.val rfl rfl rfl (.none rfl) (Ev.bin rfl rfl (add_i64 (by omega))) ?_
              refine JL.asg ?_
              refine JL.nil ?_
              refine JQ.loopN (i + 1) ?_ ?_ ?_ ?_
              · exact Keeps.k
              · first | exact Sub.all | exact Sub.of_cnt (fun a => by (try dsimp only); simp only [cntA]; omega)
              · omega
              · show (unL l).length - (i + 1) < (unL l).length - i; omega
          · -- guard 81 false
            have hD := of_decide_eq_false hD
            obtain ⟨z, hz⟩ := get_some (l := unL l) (k := i - 1) (by omega)
            refine JW.val rfl rfl (.yes rfl rfl rfl) (Ev.move rfl) ?_
            refine JW.val rfl rfl (.yes rfl rfl rfl) (Ev.move rfl) ?_
            refine JW.val rfl rfl (.yes rfl rfl rfl) (Ev.idxS rfl rfl Tryd.underlying22 Tryd.sizeOf27 (k := i) rfl (by omega)) ?_
            refine JW.val rfl rfl (.yes rfl rfl rfl) (Ev.fldP 0 rfl (fun _ _ => by kernel_rfl)) ?_
            refine JW.val rfl rfl (.yes rfl rfl rfl) (Ev.load1 rfl Tryd.underlying3 rfl (fun w hw => ((hC1 w hw (fun p hp => by first | exact hp | simp [hp])).mem a1 rfl).plF hx 0 rfl)) ?_
            refine JW.val rfl rfl (.yes rfl rfl rfl) (Ev.move rfl) ?_
            refine JW.val rfl rfl (.yes rfl rfl rfl) (Ev.move rfl) ?_
            refine JW.val rfl rfl (.yes rfl rfl rfl) (Ev.bin rfl rfl (sub_i64 (by omega))) ?_
            refine JW.val rfl rfl (.yes rfl rfl rfl) (Ev.idxS rfl rfl Tryd.underlying22 Tryd.sizeOf27 (k := i - 1) (by omega) (by omega)) ?_
            refine JW.val rfl rfl (.yes rfl rfl rfl) (Ev.fldP 0 rfl (fun _ _ => by kernel_rfl)) ?_
            refine JW.val rfl rfl (.yes rfl rfl rfl) (Ev.load1 rfl Tryd.underlying3 rfl (fun w hw => ((hC1 w hw (fun p hp => by first | exact hp | simp [hp])).mem a1 rfl).plF hz 0 rfl)) ?_
            refine JW.val rfl rfl (.yes rfl rfl rfl) (Ev.bin rfl rfl neq_int) ?_
            refine JW.val rfl rfl (.none rfl) (Ev.pickF rfl rfl) ?_
            refine JW.nilQ ?_
            refine JQ.thenN ?_
            refine JC.cond rfl (fun hq => ?_) (fun hq => ?_)
            · -- t94 True
              replace hq := of_decide_eq_true hq
              have hfi : i = 0 ∨ ∃ y, (unL l)[i - 1]? = some y ∧ x.1 ≠ y.1 := .inr ⟨z, hz, hq⟩
              refine JC.seq ?_
              refine JC.region ?_
              refine JL.mv ?_
              refine JL.mv ?_
              refine JL.mv ?_
              refine JL.val rfl rfl rfl (.none rfl) (Ev.idxS rfl rfl Tryd.underlying22 Tryd.sizeOf27 (k := i) rfl (by omega)) ?_
              refine JL.val rfl rfl rfl (.none rfl) (Ev.fldP 0 rfl (fun _ _ => by kernel_rfl)) ?_
              refine JL.val rfl rfl rfl (.none rfl) (Ev.load1 rfl Tryd.underlying3 rfl (fun w hw => ((hC1 w hw (fun p hp => by first | exact hp | simp [hp])).mem a1 rfl).plF hx 0 rfl)) ?_
              refine JL.callN rfl (.none rfl) rfl Tryd.call12 (fun w1 hw1 => sInBatch_any oa cap l x.1 w1 (hs.old hw1) hl) ?_
              rintro _ _ ⟨r3, rfl, rfl, hr3⟩
              obtain ⟨o3, c3, e3, hn3, hC3⟩ := Row.vw (e := 3) hr3
              refine JL.re (d := 101) rfl e3 ?_
              have hbs : begun (unL l) (i + 1) = begun (unL l) i + (inB l x.1).length := begun_new hso hx hfi
              have hib := inB_le l x.1
              refine JL.asg ?_
              refine JL.nil ?_
              refine JQ.thenN ?_
              refine JC.seq ?_
              refine JC.seq ?_
              refine JC.region ?_
              refine JL.asg ?_
              refine JL.nil ?_
              refine JQ.thenN ?_
              refine JC.block ?_
              refine JC.loop (X := Nat)
                (fun k => [(0, .slice oa l.length cap), (3, .slice (some a1) (unL l).length c1), (4, .int .i64 (totC l ((unL l).take (i + 1)))), (5, .int .i64 ((begun (unL l) i : Nat) : Int)), (6, .int .i64 (i : Int)), (8, .slice o3 (inB l x.1).length c3), (9, .int .i64 (k : Int))])
                (fun k => Row.b 27 r1 ++ Row.b 3 r3)
                (fun k => k ≤ (inB l x.1).length)
                (fun k => (inB l x.1).length - k) 0 ?_ ?_ ?_ ?_
              · exact Keeps.k
              · first | exact Sub.all | exact Sub.of_cnt (fun a => by (try dsimp only); simp only [cntA]; omega)
              · exact Nat.zero_le _
              rintro k hki
              refine JC.seq ?_
              refine JC.seq ?_
              refine JC.region ?_
              refine JL.mv ?_
              refine JL.mv ?_
              refine JL.val rfl rfl rfl (.none rfl) (Ev.lenS rfl Tryd.underlying28) ?_
              refine JL.val rfl rfl rfl (.none rfl) (Ev.bin rfl rfl lss_int) ?_
              refine JL.nil ?_
              refine JQ.thenN ?_
              refine JC.cond rfl (fun hc3 => ?_) (fun hc3 => ?_)
              · -- t105 True
                replace hc3 := of_decide_eq_true hc3
                obtain ⟨v, hv⟩ := get_some (l := inB l x.1) (k := k) (by omega)
                have hov := grp_at hso hx (first_lt hso hx hfi) (k := k) (z := v) hv
                have hlk := (List.getElem?_eq_some_iff.1 hov).1
                obtain ⟨a3, rfl⟩ : ∃ a, o3 = some a := by cases o3 with | none => (have := hn3 rfl; omega) | some a => exact ⟨a, rfl⟩
                refine JC.skip ?_
                refine JQ.thenN ?_
                refine JC.seq ?_
                refine JC.block ?_
                refine JC.seq ?_
                refine JC.regionQ (by kernel_rfl) (by kernel_rfl) ?_
                refine JW.val rfl rfl (.none rfl) (Ev.move rfl) ?_
                refine JW.val rfl rfl (.none rfl) (Ev.move rfl) ?_
                refine JW.val rfl rfl (.none rfl) (Ev.bin rfl rfl (add_i64 (by omega))) ?_
                refine JW.val rfl rfl (.none rfl) (Ev.move rfl) ?_
                refine JW.val rfl rfl (.none rfl) (Ev.lenS rfl Tryd.underlying22) ?_
                refine JW.val rfl rfl (.none rfl) (Ev.bin rfl rfl geq_int) ?_
                refine JW.val rfl rfl (.none rfl) (Ev.move rfl) ?_
                refine JW.know (d := 114) (b := false) rfl ?_ ?_
                · first | exact decide_eq_false (by omega) | (exfalso; omega)
                refine JW.val rfl rfl (.yes rfl rfl rfl) (Ev.move rfl) ?_
                refine JW.val rfl rfl (.yes rfl rfl rfl) (Ev.move rfl) ?_
                refine JW.val rfl rfl (.yes rfl rfl rfl) (Ev.move rfl) ?_
                refine JW.val rfl rfl (.yes rfl rfl rfl) (Ev.bin rfl rfl (add_i64 (by omega))) ?_
                refine JW.val rfl rfl (.yes rfl rfl rfl) (Ev.idxS rfl rfl Tryd.underlying22 Tryd.sizeOf27 (k := i + k) (by omega) (by omega)) ?_
                refine JW.val rfl rfl (.yes rfl rfl rfl) (Ev.loadA (l := plc (x.1, v)) rfl Tryd.underlying27 rfl Tryd.sizeOf27 (fun w hw => ((hC1 w hw (fun p hp => by first | exact hp | simp [hp])).mem a1 rfl).plAt hov) rfl) ?_
                refine JW.val rfl rfl (.yes rfl rfl rfl) (Ev.move rfl) ?_
                refine JW.val rfl rfl (.yes rfl rfl rfl) (Ev.move rfl) ?_
                refine JW.val rfl rfl (.yes rfl rfl rfl) (Ev.idxS rfl rfl Tryd.underlying22 Tryd.sizeOf27 (k := i) rfl (by omega)) ?_
                refine JW.val rfl rfl (.yes rfl rfl rfl) (Ev.fldP 0 rfl (fun _ _ => by kernel_rfl)) ?_
                refine JW.val rfl rfl (.yes rfl rfl rfl) (Ev.load1 rfl Tryd.underlying3 rfl (fun w hw => ((hC1 w hw (fun p hp => by first | exact hp | simp [hp])).mem a1 rfl).plF hx 0 rfl)) ?_
                refine JW.val rfl rfl (.yes rfl rfl rfl) (Ev.move rfl) ?_
                refine JW.val rfl rfl (.yes rfl rfl rfl) (Ev.move rfl) ?_
                refine JW.val rfl rfl (.yes rfl rfl rfl) (Ev.idxS1 rfl rfl Tryd.underlying28 Tryd.sizeOf3 (k := k) rfl (by omega)) ?_
                refine JW.val rfl rfl (.yes rfl rfl rfl) (Ev.load1 rfl Tryd.underlying3 rfl (fun w hw => (hC3 w hw (fun p hp => by first | exact hp | simp [hp])).mem a3 rfl k _ (ints_get hv))) ?_
                refine JW.val rfl rfl (.yes rfl rfl rfl) (Ev.bu2 rfl rfl rfl rfl Tryd.underlying27 (fun _ => by kernel_rfl) Tryd.zeroValue27) ?_
                refine JW.val rfl rfl (.yes rfl rfl rfl) (Ev.bin rfl rfl (neq_pl Tryd.underlying27 Tryd.underlying3 Tryd.underlying3 (by kernel_rfl) (by kernel_rfl) (by decide) (by decide) (x.1, v) (x.1, v))) ?_
                refine JW.val rfl rfl (.none rfl) (Ev.pickF rfl rfl) ?_
                refine JW.nilQ ?_
                refine JQ.thenN ?_
                refine JC.knowF rfl ?_ ?_
                · simp
                refine JC.skip ?_
                refine JQ.blockN ?_
                refine JQ.thenN ?_
                refine JC.region ?_
                refine JL.mv ?_
                refine JL.val rfl rfl rfl (.none rfl) (Ev.bin rfl rfl (add_i64 (by omega))) ?_
                refine JL.asg ?_
                refine JL.nil ?_
                refine JQ.loopN (k + 1) ?_ ?_ ?_ ?_
                · exact Keeps.k
                · first | exact Sub.all | exact Sub.of_cnt (fun a => by (try dsimp only); simp only [cntA]; omega)
                · omega
                · show (inB l x.1).length - (k + 1) < (inB l x.1).length - k; omega
              · -- t105 False
                replace hc3 := of_decide_eq_false hc3
                obtain rfl : k = (inB l x.1).length := by omega
                refine JC.exit ?_
                refine JQ.thenE ?_
                refine JQ.thenE ?_
                refine JQ.blockE ?_
                refine JQ.thenN ?_
                refine JC.region ?_
                refine JL.mv ?_
                refine JL.mv ?_
                refine JL.val rfl rfl rfl (.none rfl) (Ev.lenS rfl Tryd.underlying28) ?_
                refine JL.val rfl rfl rfl (.none rfl) (Ev.cast (v' := .int .i64 ((begun (unL l) (i + 1) : Nat) : Int)) (congrArg (Value.int .i64) (by omega)) (Ev.bin rfl rfl (add_i64 (by omega)))) ?_
                refine JL.asg ?_
                refine JL.nil ?_
                refine JQ.blockN ?_
                refine JQ.thenN ?_
                refine JC.region ?_
                refine JL.mv ?_
                refine JL.val rfl rfl rfl (.none rfl) (Ev.bin rfl rfl (add_i64 (by omega))) ?_
                refine JL.asg ?_
                refine JL.nil ?_
                refine JQ.loopN (i + 1) ?_ ?_ ?_ ?_
                · exact Keeps.k
                · first | exact Sub.all | exact Sub.of_cnt (fun a => by (try dsimp only); simp only [cntA]; omega)
                · omega
                · show (unL l).length - (i + 1) < (unL l).length - i; omega
            · -- t94 False
              replace hq := of_decide_eq_false hq
              have hbs := begun_same hx (by omega) hz (by omega)
              refine JC.re (d := 5) rfl (congrArg (fun n : Nat => Value.int .i64 (n : Int)) hbs.symm) ?_
              refine JC.skip ?_
              refine JQ.blockN ?_
              refine JQ.thenN ?_
              refine JC.region ?_
              refine JL.mv ?_
              refine JL.val rfl rfl rfl (.none rfl) (Ev.bin rfl rfl (add_i64 (by omega))) ?_
              refine JL.asg ?_
              refine JL.nil ?_
              refine JQ.loopN (i + 1) ?_ ?_ ?_ ?_
              · exact Keeps.k
              · first | exact Sub.all | exact Sub.of_cnt (fun a => by (try dsimp only); simp only [cntA]; omega)
              · omega
              · show (unL l).length - (i + 1) < (unL l).length - i; omega
        · -- guard 59 false
          have hB := of_decide_eq_false hB
          refine JW.skip rfl rfl (.noT rfl rfl rfl) ?_
          refine JW.skip rfl rfl (.noT rfl rfl rfl) ?_
          refine JW.skip rfl rfl (.noT rfl rfl rfl) ?_
          refine JW.skip rfl rfl (.noT rfl rfl rfl) ?_
          refine JW.skip rfl rfl (.noT rfl rfl rfl) ?_
          refine JW.skip rfl rfl (.noT rfl rfl rfl) ?_
          refine JW.skip rfl rfl (.noT rfl rfl rfl) ?_
          refine JW.skip rfl rfl (.noT rfl rfl rfl) ?_
          refine JW.skip rfl rfl (.noT rfl rfl rfl) ?_
          refine JW.skip rfl rfl (.noT rfl rfl rfl) ?_
          refine JW.skip rfl rfl (.noT rfl rfl rfl) ?_
          refine JW.skip rfl rfl (.noT rfl rfl rfl) ?_
          refine JW.val rfl rfl (.yes rfl rfl rfl) (Ev.pickF rfl rfl) ?_
          refine JW.val rfl rfl (.yes rfl rfl rfl) (Ev.pickF rfl rfl) ?_
          refine JW.val rfl rfl (.yes rfl rfl rfl) (Ev.pickT rfl rfl) ?_
          refine JW.val rfl rfl (.none rfl) (Ev.pickF rfl rfl) ?_
          refine JW.nilQ ?_
          refine JQ.thenN ?_
          refine JC.condF rfl ?_
          refine JC.skip ?_
          refine JQ.thenN ?_
          refine JC.seq ?_
          refine JC.region ?_
          refine JL.mv ?_
          refine JL.mv ?_
          refine JL.val rfl rfl rfl (.none rfl) (Ev.cast (v' := .int .i64 (totC l ((unL l).take (i + 1)))) (congrArg (Value.int .i64) (totC_take hx).symm) (Ev.bin rfl rfl (add_i64 (by omega)))) ?_
          refine JL.asg ?_
          refine JL.nil ?_
          refine JQ.thenN ?_
          refine JC.seq ?_
          refine JC.regionQ (by kernel_rfl) (by kernel_rfl) ?_
          refine JW.val rfl rfl (.none rfl) (Ev.move rfl) ?_
          refine JW.val rfl rfl (.none rfl) (Ev.bin rfl rfl eql_int) ?_
          refine JW.val rfl rfl (.none rfl) (Ev.move rfl) ?_
          refine JW.split (d := 81) rfl (fun hD => ?_) (fun hD => ?_)
          · -- guard 81 true
            have hD := of_decide_eq_true hD
            have hfi : i = 0 ∨ ∃ y, (unL l)[i - 1]? = some y ∧ x.1 ≠ y.1 := .inl (by omega)
            refine JW.skip rfl rfl (.noF rfl rfl rfl) ?_
            refine JW.skip rfl rfl (.noF rfl rfl rfl) ?_
            refine JW.skip rfl rfl (.noF rfl rfl rfl) ?_
            refine JW.skip rfl rfl (.noF rfl rfl rfl) ?_
            refine JW.skip rfl rfl (.noF rfl rfl rfl) ?_
            refine JW.skip rfl rfl (.noF rfl rfl rfl) ?_
            refine JW.skip rfl rfl (.noF rfl rfl rfl) ?_
            refine JW.skip rfl rfl (.noF rfl rfl rfl) ?_
            refine JW.skip rfl rfl (.noF rfl rfl rfl) ?_
            refine JW.skip rfl rfl (.noF rfl rfl rfl) ?_
            refine JW.skip rfl rfl (.noF rfl rfl rfl) ?_
            refine JW.skip rfl rfl (.noF rfl rfl rfl) ?_
            refine JW.val rfl rfl (.none rfl) (Ev.pickT rfl rfl) ?_
            refine JW.nilQ ?_
            refine JQ.thenN ?_
            refine JC.condT rfl ?_
            refine JC.seq ?_
            refine JC.region ?_
            refine JL.mv ?_
            refine JL.mv ?_
            refine JL.mv ?_
            refine JL.val rfl rfl rfl (.none rfl) (Ev.idxS rfl rfl Tryd.underlying22 Tryd.sizeOf27 (k := i) rfl (by omega)) ?_
            refine JL.val rfl rfl rfl (.none rfl) (Ev.fldP 0 rfl (fun _ _ => by kernel_rfl)) ?_
            refine JL.val rfl rfl rfl (.none rfl) (Ev.load1 rfl Tryd.underlying3 rfl (fun w hw => ((hC1 w hw (fun p hp => by first | exact hp | simp [hp])).mem a1 rfl).plF hx 0 rfl)) ?_
            refine JL.callN rfl (.none rfl) rfl Tryd.call12 (fun w1 hw1 => sInBatch_any oa cap l x.1 w1 (hs.old hw1) hl) ?_
            rintro _ _ ⟨r3, rfl, rfl, hr3⟩
            obtain ⟨o3, c3, e3, hn3, hC3⟩ := Row.vw (e := 3) hr3
            refine JL.re (d := 101) rfl e3 ?_
            have hbs : begun (unL l) (i + 1) = begun (unL l) i + (inB l x.1).length := begun_new hso hx hfi
            have hib := inB_le l x.1
            refine JL.asg ?_
            refine JL.nil ?_
            refine JQ.thenN ?_
            refine JC.seq ?_
            refine JC.seq ?_
            refine JC.region ?_
            refine JL.asg ?_
            refine JL.nil ?_
            refine JQ.thenN ?_
            refine JC.block ?_
            refine JC.loop (X := Nat)
              (fun k => [(0, .slice oa l.length cap), (3, .slice (some a1) (unL l).length c1), (4, .int .i64 (totC l ((unL l).take (i + 1)))), (5, .int .i64 ((begun (unL l) i : Nat) : Int)), (6, .int .i64 (i : Int)), (8, .slice o3 (inB l x.1).length c3), (9, .int .i64 (k : Int))])
              (fun k => Row.b 27 r1 ++ Row.b 3 r3)
              (fun k => k ≤ (inB l x.1).length)
              (fun k => (inB l x.1).length - k) 0 ?_ ?_ ?_ ?_
            · exact Keeps.k
            · first | exact Sub.all | exact Sub.of_cnt (fun a => by (try dsimp only); simp only [cntA]; omega)
            · exact Nat.zero_le _
            rintro k hki
            refine JC.seq ?_
            refine JC.seq ?_
            refine JC.region ?_
            refine JL.mv ?_
            refine JL.mv ?_
            refine JL.val rfl rfl rfl (.none rfl) (Ev.lenS rfl Tryd.underlying28) ?_
            refine JL.val rfl rfl rfl (.none rfl) (Ev.bin rfl rfl lss_int) ?_
            refine JL.nil ?_
            refine JQ.thenN ?_
            refine JC.cond rfl (fun hc4 => ?_) (fun hc4 => ?_)
            · -- t105 True
              replace hc4 := of_decide_eq_true hc4
              obtain ⟨v, hv⟩ := get_some (l := inB l x.1) (k := k) (by omega)
              have hov := grp_at hso hx (first_lt hso hx hfi) (k := k) (z := v) hv
              have hlk := (List.getElem?_eq_some_iff.1 hov).1
              obtain ⟨a3, rfl⟩ : ∃ a, o3 = some a := by cases o3 with | none => (have := hn3 rfl; omega) | some a => exact ⟨a, rfl⟩
              refine JC.skip ?_
              refine JQ.thenN ?_
              refine JC.seq ?_
              refine JC.block ?_
              refine JC.seq ?_
              refine JC.regionQ (by kernel_rfl) (by kernel_rfl) ?_
              refine JW.val rfl rfl (.none rfl) (Ev.move rfl) ?_
              refine JW.val rfl rfl (.none rfl) (Ev.move rfl) ?_
              refine JW.val rfl rfl (.none rfl) (Ev.bin rfl rfl (add_i64 (by omega))) ?_
              refine JW.val rfl rfl (.none rfl) (Ev.move rfl) ?_
              refine JW.val rfl rfl (.none rfl) (Ev.lenS rfl Tryd.underlying22) ?_
              refine JW.val rfl rfl (.none rfl) (Ev.bin rfl rfl geq_int) ?_
              refine JW.val rfl rfl (.none rfl) (Ev.move rfl) ?_
              refine JW.know (d := 114) (b := false) rfl ?_ ?_
              · first | exact decide_eq_false (by omega) | (exfalso; omega)
              refine JW.val rfl rfl (.yes rfl rfl rfl) (Ev.move rfl) ?_
              refine JW.val rfl rfl (.yes rfl rfl rfl) (Ev.move rfl) ?_
              refine JW.val rfl rfl (.yes rfl rfl rfl) (Ev.move rfl) ?_
              refine JW.val rfl rfl (.yes rfl rfl rfl) (Ev.bin rfl rfl (add_i64 (by omega))) ?_
              refine JW.val rfl rfl (.yes rfl rfl rfl) (Ev.idxS rfl rfl Tryd.underlying22 Tryd.sizeOf27 (k := i + k) (by omega) (by omega)) ?_
              refine JW.val rfl rfl (.yes rfl rfl rfl) (Ev.loadA (l := plc (x.1, v)) rfl Tryd.underlying27 rfl Tryd.sizeOf27 (fun w hw => ((hC1 w hw (fun p hp => by first | exact hp | simp [hp])).mem a1 rfl).plAt hov) rfl) ?_
              refine JW.val rfl rfl (.yes rfl rfl rfl) (Ev.move rfl) ?_
              refine JW.val rfl rfl (.yes rfl rfl rfl) (Ev.move rfl) ?_
              refine JW.val rfl rfl (.yes rfl rfl rfl) (Ev.idxS rfl rfl Tryd.underlying22 Tryd.sizeOf27 (k := i) rfl (by omega)) ?_
              refine JW.val rfl rfl (.yes rfl rfl rfl) (Ev.fldP 0 rfl (fun _ _ => by kernel_rfl)) ?_
              refine JW.val rfl rfl (.yes rfl rfl rfl) (Ev.load1 rfl Tryd.underlying3 rfl (fun w hw => ((hC1 w hw (fun p hp => by first | exact hp | simp [hp])).mem a1 rfl).plF hx 0 rfl)) ?_
              refine JW.val rfl rfl (.yes rfl rfl rfl) (Ev.move rfl) ?_
              refine JW.val rfl rfl (.yes rfl rfl rfl) (Ev.move rfl) ?_
              refine JW.val rfl rfl (.yes rfl rfl rfl) (Ev.idxS1 rfl rfl Tryd.underlying28 Tryd.sizeOf3 (k := k) rfl (by omega)) ?_
              refine JW.val rfl rfl (.yes rfl rfl rfl) (Ev.load1 rfl Tryd.underlying3 rfl (fun w hw => (hC3 w hw (fun p hp => by first | exact hp | simp [hp])).mem a3 rfl k _ (ints_get hv))) ?_
              refine JW.val rfl rfl (.yes rfl rfl rfl) (Ev.bu2 rfl rfl rfl rfl Tryd.underlying27 (fun _ => by kernel_rfl) Tryd.zeroValue27) ?_
              refine JW.val rfl rfl (.yes rfl rfl rfl) (Ev.bin rfl rfl (neq_pl Tryd.underlying27 Tryd.underlying3 Tryd.underlying3 (by kernel_rfl) (by kernel_rfl) (by decide) (by decide) (x.1, v) (x.1, v))) ?_
              refine JW.val rfl rfl (.none rfl) (Ev.pickF rfl rfl) ?_
              refine JW.nilQ ?_
              refine JQ.thenN ?_
              refine JC.knowF rfl ?_ ?_
              · simp
              refine JC.skip ?_
              refine JQ.blockN ?_
              refine JQ.thenN ?_
              refine JC.region ?_
              refine JL.mv ?_
              refine JL.val rfl rfl rfl (.none rfl) (Ev.bin rfl rfl (add_i64 (by omega))) ?_
              refine JL.asg ?_
              refine JL.nil ?_
              refine JQ.loopN (k + 1) ?_ ?_ ?_ ?_
              · exact Keeps.k
              · first | exact Sub.all | exact Sub.of_cnt (fun a => by (try dsimp only); simp only [cntA]; omega)
              · omega
              · show (inB l x.1).length - (k + 1) < (inB l x.1).length - k; omega
            · -- t105 False
              replace hc4 := of_decide_eq_false hc4
              obtain rfl : k = (inB l x.1).length := by omega
              refine JC.exit ?_
              refine JQ.thenE ?_
              refine JQ.thenE ?_
              refine JQ.blockE ?_
              refine JQ.thenN ?_
              refine JC.region ?_
              refine JL.mv ?_
              refine JL.mv ?_
              refine JL.val rfl rfl rfl (.none rfl) (Ev.lenS rfl Tryd.underlying28) ?_
              refine JL.val rfl rfl rfl (.none rfl) (Ev.cast (v' := .int .i64 ((begun (unL l) (i + 1) : Nat) : Int)) (congrArg (Value.int .i64) (by omega)) (Ev.bin rfl rfl (add_i64 (by omega)))) ?_
              refine JL.asg ?_
              refine JL.nil ?_
              refine JQ.blockN ?_
              refine JQ.thenN ?_
              refine JC.region ?_
              refine JL.mv ?_
              refine JL.val rfl rfl rfl (.none rfl) (Ev.bin rfl rfl (add_i64 (by omega))) ?_
              refine JL.asg ?_
              refine JL.nil ?_
              refine JQ.loopN (i + 1) ?_ ?_ ?_ ?_
              · exact Keeps.k
              · first | exact Sub.all | exact Sub.of_cnt (fun a => by (try dsimp only); simp only [cntA]; omega)
              · omega
              · show (unL l).length - (i + 1) < (unL l).length - i; omega
          · -- guard 81 false
            have hD := of_decide_eq_false hD
            obtain ⟨z, hz⟩ := get_some (l := unL l) (k := i - 1) (by omega)
            refine JW.val rfl rfl (.yes rfl rfl rfl) (Ev.move rfl) ?_
            refine JW.val rfl rfl (.yes rfl rfl rfl) (Ev.move rfl) ?_
            refine JW.val rfl rfl (.yes rfl rfl rfl) (Ev.idxS rfl rfl Tryd.underlying22 Tryd.sizeOf27 (k := i) rfl (by omega)) ?_
            refine JW.val rfl rfl (.yes rfl rfl rfl) (Ev.fldP 0 rfl (fun _ _ => by kernel_rfl)) ?_
            refine JW.val rfl rfl (.yes rfl rfl rfl) (Ev.load1 rfl Tryd.underlying3 rfl (fun w hw => ((hC1 w hw (fun p hp => by first | exact hp | simp [hp])).mem a1 rfl).plF hx 0 rfl)) ?_
            refine JW.val rfl rfl (.yes rfl rfl rfl) (Ev.move rfl) ?_
            refine JW.val rfl rfl (.yes rfl rfl rfl) (Ev.move rfl) ?_
            refine JW.val rfl rfl (.yes rfl rfl rfl) (Ev.bin rfl rfl (sub_i64 (by omega))) ?_
            refine JW.val rfl rfl (.yes rfl rfl rfl) (Ev.idxS rfl rfl Tryd.underlying22 Tryd.sizeOf27 (k := i - 1) (by omega) (by omega)) ?_
            refine JW.val rfl rfl (.yes rfl rfl rfl) (Ev.fldP 0 rfl (fun _ _ => by kernel_rfl)) ?_
            refine JW.val rfl rfl (.yes rfl rfl rfl) (Ev.load1 rfl Tryd.underlying3 rfl (fun w hw => ((hC1 w hw (fun p hp => by first | exact hp | simp [hp])).mem a1 rfl).plF hz 0 rfl)) ?_
            refine JW.val rfl rfl (.yes rfl rfl rfl) (Ev.bin rfl rfl neq_int) ?_
            refine JW.val rfl rfl (.none rfl) (Ev.pickF rfl rfl) ?_
            refine JW.nilQ ?_
            refine JQ.thenN ?_
            refine JC.cond rfl (fun hq => ?_) (fun hq => ?_)
            · -- t94 True
              replace hq := of_decide_eq_true hq
              have hfi : i = 0 ∨ ∃ y, (unL l)[i - 1]? = some y ∧ x.1 ≠ y.1 := .inr ⟨z, hz, hq⟩
              refine JC.seq ?_
              refine JC.region ?_
              refine JL.mv ?_
              refine JL.mv ?_
              refine JL.mv ?_
              refine JL.val rfl rfl rfl (.none rfl) (Ev.idxS rfl rfl Tryd.underlying22 Tryd.sizeOf27 (k := i) rfl (by omega)) ?_
              refine JL.val rfl rfl rfl (.none rfl) (Ev.fldP 0 rfl (fun _ _ => by kernel_rfl)) ?_
              refine JL.val rfl rfl rfl (.none rfl) (Ev.load1 rfl Tryd.underlying3 rfl (fun w hw => ((hC1 w hw (fun p hp => by first | exact hp | simp [hp])).mem a1 rfl).plF hx 0 rfl)) ?_
              refine JL.callN rfl (.none rfl) rfl Tryd.call12 (fun w1 hw1 => sInBatch_any oa cap l x.1 w1 (hs.old hw1) hl) ?_
              rintro _ _ ⟨r3, rfl, rfl, hr3⟩
              obtain ⟨o3, c3, e3, hn3, hC3⟩ := Row.vw (e := 3) hr3
              refine JL.re (d := 101) rfl e3 ?_
              have hbs : begun (unL l) (i + 1) = begun (unL l) i + (inB l x.1).length := begun_new hso hx hfi
              have hib := inB_le l x.1
              refine JL.asg ?_
              refine JL.nil ?_
              refine JQ.thenN ?_
              refine JC.seq ?_
              refine JC.seq ?_
              refine JC.region ?_
              refine JL.asg ?_
              refine JL.nil ?_
              refine JQ.thenN ?_
              refine JC.block ?_
              refine JC.loop (X := Nat)
                (fun k => [(0, .slice oa l.length cap), (3, .slice (some a1) (unL l).length c1), (4, .int .i64 (totC l ((unL l).take (i + 1)))), (5, .int .i64 ((begun (unL l) i : Nat) : Int)), (6, .int .i64 (i : Int)), (8, .slice o3 (inB l x.1).length c3), (9, .int .i64 (k : Int))])
                (fun k => Row.b 27 r1 ++ Row.b 3 r3)
                (fun k => k ≤ (inB l x.1).length)
                (fun k => (inB l x.1).length - k) 0 ?_ ?_ ?_ ?_
              · exact Keeps.k
              · first | exact Sub.all | exact Sub.of_cnt (fun a => by (try dsimp only); simp only [cntA]; omega)
              · exact Nat.zero_le _
              rintro k hki
              refine JC.seq ?_
              refine JC.seq ?_
              refine JC.region ?_
              refine JL.mv ?_
              refine JL.mv ?_
              refine JL.val rfl rfl rfl (.none rfl) (Ev.lenS rfl Tryd.underlying28) ?_
              refine JL.val rfl rfl rfl (.none rfl) (Ev.bin rfl rfl lss_int) ?_
              refine JL.nil ?_
              refine JQ.thenN ?_
              refine JC.cond rfl (fun hc5 => ?_) (fun hc5 => ?_)
              · -- t105 True
                replace hc5 := of_decide_eq_true hc5
                obtain ⟨v, hv⟩ := get_some (l := inB l x.1) (k := k) (by omega)
                have hov := grp_at hso hx (first_lt hso hx hfi) (k := k) (z := v) hv
                have hlk := (List.getElem?_eq_some_iff.1 hov).1
                obtain ⟨a3, rfl⟩ : ∃ a, o3 = some a := by cases o3 with | none => (have := hn3 rfl; omega) | some a => exact ⟨a, rfl⟩
                refine JC.skip ?_
                refine JQ.thenN ?_
                refine JC.seq ?_
                refine JC.block ?_
                refine JC.seq ?_
                refine JC.regionQ (by kernel_rfl) (by kernel_rfl) ?_
                refine JW.val rfl rfl (.none rfl) (Ev.move rfl) ?_
                refine JW.val rfl rfl (.none rfl) (Ev.move rfl) ?_
                refine JW.val rfl rfl (.none rfl) (Ev.bin rfl rfl (add_i64 (by omega))) ?_
                refine JW.val rfl rfl (.none rfl) (Ev.move rfl) ?_
                refine JW.val rfl rfl (.none rfl) (Ev.lenS rfl Tryd.underlying22) ?_
                refine JW.val rfl rfl (.none rfl) (Ev.bin rfl rfl geq_int) ?_
                refine JW.val rfl rfl (.none rfl) (Ev.move rfl) ?_
                refine JW.know (d := 114) (b := false) rfl ?_ ?_
                · first | exact decide_eq_false (by omega) | (exfalso; omega)
                refine JW.val rfl rfl (.yes rfl rfl rfl) (Ev.move rfl) ?_
                refine JW.val rfl rfl (.yes rfl rfl rfl) (Ev.move rfl) ?_
                refine JW.val rfl rfl (.yes rfl rfl rfl) (Ev.move rfl) ?_
                refine JW.val rfl rfl (.yes rfl rfl rfl) (Ev.bin rfl rfl (add_i64 (by omega))) ?_
                refine JW.val rfl rfl (.yes rfl rfl rfl) (Ev.idxS rfl rfl Tryd.underlying22 Tryd.sizeOf27 (k := i + k) (by omega) (by omega)) ?_
                refine JW.val rfl rfl (.yes rfl rfl rfl) (Ev.loadA (l := plc (x.1, v)) rfl Tryd.underlying27 rfl Tryd.sizeOf27 (fun w hw => ((hC1 w hw (fun p hp => by first | exact hp | simp [hp])).mem a1 rfl).plAt hov) rfl) ?_
                refine JW.val rfl rfl (.yes rfl rfl rfl) (Ev.move rfl) ?_
                refine JW.val rfl rfl (.yes rfl rfl rfl) (Ev.move rfl) ?_
                refine JW.val rfl rfl (.yes rfl rfl rfl) (Ev.idxS rfl rfl Tryd.underlying22 Tryd.sizeOf27 (k := i) rfl (by omega)) ?_
                refine JW.val rfl rfl (.yes rfl rfl rfl) (Ev.fldP 0 rfl (fun _ _ => by kernel_rfl)) ?_
                refine JW.val rfl rfl (.yes rfl rfl rfl) (Ev.load1 rfl Tryd.underlying3 rfl (fun w hw => ((hC1 w hw (fun p hp => by first | exact hp | simp [hp])).mem a1 rfl).plF hx 0 rfl)) ?_
                refine JW.val rfl rfl (.yes rfl rfl rfl) (Ev.move rfl) ?_
                refine JW.val rfl rfl (.yes rfl rfl rfl) (Ev.move rfl) ?_
                refine JW.val rfl rfl (.yes rfl rfl rfl) (Ev.idxS1 rfl rfl Tryd.underlying28 Tryd.sizeOf3 (k := k) rfl (by omega)) ?_
                refine JW.val rfl rfl (.yes rfl rfl rfl) (Ev.load1 rfl Tryd.underlying3 rfl (fun w hw => (hC3 w hw (fun p hp => by first | exact hp | simp [hp])).mem a3 rfl k _ (ints_get hv))) ?_
                refine JW.val rfl rfl (.yes rfl rfl rfl) (Ev.bu2 rfl rfl rfl rfl Tryd.underlying27 (fun _ => by kernel_rfl) Tryd.zeroValue27) ?_
                refine JW.val rfl rfl (.yes rfl rfl rfl) (Ev.bin rfl rfl (neq_pl Tryd.underlying27 Tryd.underlying3 Tryd.underlying3 (by kernel_rfl) (by kernel_rfl) (by decide) (by decide) (x.1, v) (x.1, v))) ?_
                refine JW.val rfl rfl (.none rfl) (Ev.pickF rfl rfl) ?_
                refine JW.nilQ ?_
                refine JQ.thenN ?_
                refine JC.knowF rfl ?_ ?_
                · simp
                refine JC.skip ?_
                refine JQ.blockN ?_
                refine JQ.thenN ?_
                refine JC.region ?_
                refine JL.mv ?_
                refine JL.val rfl rfl rfl (.none rfl) (Ev.bin rfl rfl (add_i64 (by omega))) ?_
                refine JL.asg ?_
                refine JL.nil ?_
                refine JQ.loopN (k + 1) ?_ ?_ ?_ ?_
                · exact Keeps.k
                · first | exact Sub.all | exact Sub.of_cnt (fun a => by (try dsimp only); simp only [cntA]; omega)
                · omega
                · show (inB l x.1).length - (k + 1) < (inB l x.1).length - k; omega
              · -- t105 False
                replace hc5 := of_decide_eq_false hc5
                obtain rfl : k = (inB l x.1).length := by omega
                refine JC.exit ?_
                refine JQ.thenE ?_
                refine JQ.thenE ?_
                refine JQ.blockE ?_
                refine JQ.thenN ?_
                refine JC.region ?_
                refine JL.mv ?_
                refine JL.mv ?_
                refine JL.val rfl rfl rfl (.none rfl) (Ev.lenS rfl Tryd.underlying28) ?_
                refine JL.val rfl rfl rfl (.none rfl) (Ev.cast (v' := .int .i64 ((begun (unL l) (i + 1) : Nat) : Int)) (congrArg (Value.int .i64) (by omega)) (Ev.bin rfl rfl (add_i64 (by omega)))) ?_
                refine JL.asg ?_
                refine JL.nil ?_
                refine JQ.blockN ?_
                refine JQ.thenN ?_
                refine JC.region ?_
                refine JL.mv ?_
                refine JL.val rfl rfl rfl (.none rfl) (Ev.bin rfl rfl (add_i64 (by omega))) ?_
                refine JL.asg ?_
                refine JL.nil ?_
                refine JQ.loopN (i + 1) ?_ ?_ ?_ ?_
                · exact Keeps.k
                · first | exact Sub.all | exact Sub.of_cnt (fun a => by (try dsimp only); simp only [cntA]; omega)
                · omega
                · show (unL l).length - (i + 1) < (unL l).length - i; omega
            · -- t94 False
              replace hq := of_decide_eq_false hq
              have hbs := begun_same hx (by omega) hz (by omega)
              refine JC.re (d := 5) rfl (congrArg (fun n : Nat => Value.int .i64 (n : Int)) hbs.symm) ?_
              refine JC.skip ?_
              refine JQ.blockN ?_
              refine JQ.thenN ?_
              refine JC.region ?_
              refine JL.mv ?_
              refine JL.val rfl rfl rfl (.none rfl) (Ev.bin rfl rfl (add_i64 (by omega))) ?_
              refine JL.asg ?_
              refine JL.nil ?_
              refine JQ.loopN (i + 1) ?_ ?_ ?_ ?_
              · exact Keeps.k
              · first | exact Sub.all | exact Sub.of_cnt (fun a => by (try dsimp only); simp only [cntA]; omega)
              · omega
              · show (unL l).length - (i + 1) < (unL l).length - i; omega
      · -- guard 33 false
        have hA := of_decide_eq_false hA
        refine JW.skip rfl rfl (.noT rfl rfl rfl) ?_
        refine JW.skip rfl rfl (.noT rfl rfl rfl) ?_
        refine JW.skip rfl rfl (.noT rfl rfl rfl) ?_
        refine JW.skip rfl rfl (.noT rfl rfl rfl) ?_
        refine JW.skip rfl rfl (.noT rfl rfl rfl) ?_
        refine JW.skip rfl rfl (.noT rfl rfl rfl) ?_
        refine JW.skip rfl rfl (.noT rfl rfl rfl) ?_
        refine JW.skip rfl rfl (.noT rfl rfl rfl) ?_
        refine JW.skip rfl rfl (.noT rfl rfl rfl) ?_
        refine JW.skip rfl rfl (.noT rfl rfl rfl) ?_
        refine JW.skip rfl rfl (.noT rfl rfl rfl) ?_
        refine JW.skip rfl rfl (.noT rfl rfl rfl) ?_
        refine JW.skip rfl rfl (.noT rfl rfl rfl) ?_
        refine JW.skipW rfl rfl (wantU rfl rfl rfl) ?_
        refine JW.skipW rfl rfl (wantU rfl rfl rfl) ?_
        refine JW.skipW rfl rfl (wantU rfl rfl rfl) ?_
        refine JW.skipW rfl rfl (wantU rfl rfl rfl) ?_
        refine JW.skipW rfl rfl (wantU rfl rfl rfl) ?_
        refine JW.skipW rfl rfl (wantU rfl rfl rfl) ?_
        refine JW.skipW rfl rfl (wantU rfl rfl rfl) ?_
        refine JW.skipW rfl rfl (wantU rfl rfl rfl) ?_
        refine JW.skipW rfl rfl (wantU rfl rfl rfl) ?_
        refine JW.skipW rfl rfl (wantU rfl rfl rfl) ?_
        refine JW.skipW rfl rfl (wantU rfl rfl rfl) ?_
        refine JW.skipW rfl rfl (wantU rfl rfl rfl) ?_
        refine JW.skipW rfl rfl (wantU rfl rfl rfl) ?_
        refine JW.skipW rfl rfl (wantU rfl rfl rfl) ?_
        refine JW.skipW rfl rfl (wantU rfl rfl rfl) ?_
        refine JW.skipW rfl rfl (wantU rfl rfl rfl) ?_
        refine JW.skipW rfl rfl (wantU rfl rfl rfl) ?_
        refine JW.skipW rfl rfl (wantU rfl rfl rfl) ?_
        refine JW.skipW rfl rfl (wantU rfl rfl rfl) ?_
        refine JW.skipW rfl rfl (wantU rfl rfl rfl) ?_
        refine JW.skipW rfl rfl (wantU rfl rfl rfl) ?_
        refine JW.skipW rfl rfl (wantU rfl rfl rfl) ?_
        refine JW.skipW rfl rfl (wantU rfl rfl rfl) ?_
        refine JW.skipW rfl rfl (wantU rfl rfl rfl) ?_
        refine JW.skipW rfl rfl (wantU rfl rfl rfl) ?_
        refine JW.skipW rfl rfl (wantU rfl rfl rfl) ?_
        refine JW.skip rfl rfl (.noT rfl rfl rfl) ?_
        refine JW.val rfl rfl (.yes rfl rfl rfl) (Ev.pickF rfl rfl) ?_
        refine JW.val rfl rfl (.none rfl) (Ev.pickF rfl rfl) ?_
        refine JW.nilQ ?_
        refine JQ.thenN ?_
        refine JC.condF rfl ?_
        refine JC.skip ?_
        refine JQ.thenN ?_
        refine JC.seq ?_
        refine JC.region ?_
        refine JL.mv ?_
        refine JL.mv ?_
        refine JL.val rfl rfl rfl (.none rfl) (Ev.cast (v' := .int .i64 (totC l ((unL l).take (i + 1)))) (congrArg (Value.int .i64) (totC_take hx).symm) (Ev.bin rfl rfl (add_i64 (by omega)))) ?_
        refine JL.asg ?_
        refine JL.nil ?_
        refine JQ.thenN ?_
        refine JC.seq ?_
        refine JC.regionQ (by kernel_rfl) (by kernel_rfl) ?_
        refine JW.val rfl rfl (.none rfl) (Ev.move rfl) ?_
        refine JW.val rfl rfl (.none rfl) (Ev.bin rfl rfl eql_int) ?_
        refine JW.val rfl rfl (.none rfl) (Ev.move rfl) ?_
        refine JW.split (d := 81) rfl (fun hD => ?_) (fun hD => ?_)
        · -- guard 81 true
          have hD := of_decide_eq_true hD
          have hfi : i = 0 ∨ ∃ y, (unL l)[i - 1]? = some y ∧ x.1 ≠ y.1 := .inl (by omega)
          refine JW.skip rfl rfl (.noF rfl rfl rfl) ?_
          refine JW.skip rfl rfl (.noF rfl rfl rfl) ?_
          refine JW.skip rfl rfl (.noF rfl rfl rfl) ?_
          refine JW.skip rfl rfl (.noF rfl rfl rfl) ?_
          refine JW.skip rfl rfl (.noF rfl rfl rfl) ?_
          refine JW.skip rfl rfl (.noF rfl rfl rfl) ?_
          refine JW.skip rfl rfl (.noF rfl rfl rfl) ?_
          refine JW.skip rfl rfl (.noF rfl rfl rfl) ?_
          refine JW.skip rfl rfl (.noF rfl rfl rfl) ?_
          refine JW.skip rfl rfl (.noF rfl rfl rfl) ?_
          refine JW.skip rfl rfl (.noF rfl rfl rfl) ?_
          refine JW.skip rfl rfl (.noF rfl rfl rfl) ?_
          refine JW.val rfl rfl (.none rfl) (Ev.pickT rfl rfl) ?_
          refine JW.nilQ ?_
          refine JQ.thenN ?_
          refine JC.condT rfl ?_
          refine JC.seq ?_
          refine JC.region ?_
          refine JL.mv ?_
          refine JL.mv ?_
          refine JL.mv ?_
          refine JL.val rfl rfl rfl (.none rfl) (Ev.idxS rfl rfl Tryd.underlying22 Tryd.sizeOf27 (k := i) rfl (by omega)) ?_
          refine JL.val rfl rfl rfl (.none rfl) (Ev.fldP 0 rfl (fun _ _ => by kernel_rfl)) ?_
          refine JL.val rfl rfl rfl (.none rfl) (Ev.load1 rfl Tryd.underlying3 rfl (fun w hw => ((hC1 w hw (fun p hp => by first | exact hp | simp [hp])).mem a1 rfl).plF hx 0 rfl)) ?_
          refine JL.callN rfl (.none rfl) rfl Tryd.call12 (fun w1 hw1 => sInBatch_any oa cap l x.1 w1 (hs.old hw1) hl) ?_
          rintro _ _ ⟨r3, rfl, rfl, hr3⟩
          obtain ⟨o3, c3, e3, hn3, hC3⟩ := Row.vw (e := 3) hr3
          refine JL.re (d := 101) rfl e3 ?_
          have hbs : begun (unL l) (i + 1) = begun (unL l) i + (inB l x.1).length := begun_new hso hx hfi
          have hib := inB_le l x.1
          refine JL.asg ?_
          refine JL.nil ?_
          refine JQ.thenN ?_
          refine JC.seq ?_
          refine JC.seq ?_
          refine JC.region ?_
          refine JL.asg ?_
          refine JL.nil ?_
          refine JQ.thenN ?_
          refine JC.block ?_
          refine JC.loop (X := Nat)
            (fun k => [(0, .slice oa l.length cap), (3, .slice (some a1) (unL l).length c1), (4, .int .i64 (totC l ((unL l).take (i + 1)))), (5, .int .i64 ((begun (unL l) i : Nat) : Int)), (6, .int .i64 (i : Int)), (8, .slice o3 (inB l x.1).length c3), (9, .int .i64 (k : Int))])
            (fun k => Row.b 27 r1 ++ Row.b 3 r3)
            (fun k => k ≤ (inB l x.1).length)
            (fun k => (inB l x.1).length - k) 0 ?_ ?_ ?_ ?_
          · exact Keeps.k
          · first | exact Sub.all | exact Sub.of_cnt (fun a => by (try dsimp only); simp only [cntA]; omega)
          · exact Nat.zero_le _
          rintro k hki
          refine JC.seq ?_
          refine JC.seq ?_
          refine JC.region ?_
          refine JL.mv ?_
          refine JL.mv ?_
          refine JL.val rfl rfl rfl (.none rfl) (Ev.lenS rfl Tryd.underlying28) ?_
          refine JL.val rfl rfl rfl (.none rfl) (Ev.bin rfl rfl lss_int) ?_
          refine JL.nil ?_
          refine JQ.thenN ?_
          refine JC.cond rfl (fun hc6 => ?_) (fun hc6 => ?_)
          · -- t105 True
            replace hc6 := of_decide_eq_true hc6
            obtain ⟨v, hv⟩ := get_some (l := inB l x.1) (k := k) (by omega)
            have hov := grp_at hso hx (first_lt hso hx hfi) (k := k) (z := v) hv
            have hlk := (List.getElem?_eq_some_iff.1 hov).1
            obtain ⟨a3, rfl⟩ : ∃ a, o3 = some a := by cases o3 with | none => (have := hn3 rfl; omega) | some a => exact ⟨a, rfl⟩
            refine JC.skip ?_
            refine JQ.thenN ?_
            refine JC.seq ?_
            refine JC.block ?_
            refine JC.seq ?_
            refine JC.regionQ (by kernel_rfl) (by kernel_rfl) ?_
            refine JW.val rfl rfl (.none rfl) (Ev.move rfl) ?_
            refine JW.val rfl rfl (.none rfl) (Ev.move rfl) ?_
            refine JW.val rfl rfl (.none rfl) (Ev.bin rfl rfl (add_i64 (by omega))) ?_
            refine JW.val rfl rfl (.none rfl) (Ev.move rfl) ?_
            refine JW.val rfl rfl (.none rfl) (Ev.lenS rfl Tryd.underlying22) ?_
            refine JW.val rfl rfl (.none rfl) (Ev.bin rfl rfl geq_int) ?_
            refine JW.val rfl rfl (.none rfl) (Ev.move rfl) ?_
            refine JW.know (d := 114) (b := false) rfl ?_ ?_
            · first | exact decide_eq_false (by omega) | (exfalso; omega)
            refine JW.val rfl rfl (.yes rfl rfl rfl) (Ev.move rfl) ?_
            refine JW.val rfl rfl (.yes rfl rfl rfl) (Ev.move rfl) ?_
            refine JW.val rfl rfl (.yes rfl rfl rfl) (Ev.move rfl) ?_
            refine JW.val rfl rfl (.yes rfl rfl rfl) (Ev.bin rfl rfl (add_i64 (by omega))) ?_
            refine JW.val rfl rfl (.yes rfl rfl rfl) (Ev.idxS rfl rfl Tryd.underlying22 Tryd.sizeOf27 (k := i + k) (by omega) (by omega)) ?_
            refine JW.val rfl rfl (.yes rfl rfl rfl) (Ev.loadA (l := plc (x.1, v)) rfl Tryd.underlying27 rfl Tryd.sizeOf27 (fun w hw => ((hC1 w hw (fun p hp => by first | exact hp | simp [hp])).mem a1 rfl).plAt hov) rfl) ?_
            refine JW.val rfl rfl (.yes rfl rfl rfl) (Ev.move rfl) ?_
            refine JW.val rfl rfl (.yes rfl rfl rfl) (Ev.move rfl) ?_
            refine JW.val rfl rfl (.yes rfl rfl rfl) (Ev.idxS rfl rfl Tryd.underlying22 Tryd.sizeOf27 (k := i) rfl (by omega)) ?_
            refine JW.val rfl rfl (.yes rfl rfl rfl) (Ev.fldP 0 rfl (fun _ _ => by kernel_rfl)) ?_
            refine JW.val rfl rfl (.yes rfl rfl rfl) (Ev.load1 rfl Tryd.underlying3 rfl (fun w hw => ((hC1 w hw (fun p hp => by first | exact hp | simp [hp])).mem a1 rfl).plF hx 0 rfl)) ?_
            refine JW.val rfl rfl (.yes rfl rfl rfl) (Ev.move rfl) ?_
            refine JW.val rfl rfl (.yes rfl rfl rfl) (Ev.move rfl) ?_
            refine JW.val rfl rfl (.yes rfl rfl rfl) (Ev.idxS1 rfl rfl Tryd.underlying28 Tryd.sizeOf3 (k := k) rfl (by omega)) ?_
            refine JW.val rfl rfl (.yes rfl rfl rfl) (Ev.load1 rfl Tryd.underlying3 rfl (fun w hw => (hC3 w hw (fun p hp => by first | exact hp | simp [hp])).mem a3 rfl k _ (ints_get hv))) ?_
            refine JW.val rfl rfl (.yes rfl rfl rfl) (Ev.bu2 rfl rfl rfl rfl Tryd.underlying27 (fun _ => by kernel_rfl) Tryd.zeroValue27) ?_
            refine JW.val rfl rfl (.yes rfl rfl rfl) (Ev.bin rfl rfl (neq_pl Tryd.underlying27 Tryd.underlying3 Tryd.underlying3 (by kernel_rfl) (by kernel_rfl) (by decide) (by decide) (x.1, v) (x.1, v))) ?_
            refine JW.val rfl rfl (.none rfl) (Ev.pickF rfl rfl) ?_
            refine JW.nilQ ?_
            refine JQ.thenN ?_
            refine JC.knowF rfl ?_ ?_
            · simp
            refine JC.skip ?_
            refine JQ.blockN ?_
            refine JQ.thenN ?_
            refine JC.region ?_
            refine JL.mv ?_
            refine JL.val rfl rfl rfl (.none rfl) (Ev.bin rfl rfl (add_i64 (by omega))) ?_
            refine JL.asg ?_
            refine JL.nil ?_
            refine JQ.loopN (k + 1) ?_ ?_ ?_ ?_
            · exact Keeps.k
            · first | exact Sub.all | exact Sub.of_cnt (fun a => by (try dsimp only); simp only [cntA]; omega)
            · omega
            · show (inB l x.1).length - (k + 1) < (inB l x.1).length - k; omega
          · -- t105 False
            replace hc6 := of_decide_eq_false hc6
            obtain rfl : k = (inB l x.1).length := by omega
            refine JC.exit ?_
            refine JQ.thenE ?_
            refine JQ.thenE ?_
            refine JQ.blockE ?_
            refine JQ.thenN ?_
            refine JC.region ?_
            refine JL.mv ?_
            refine JL.mv ?_
            refine JL.val rfl rfl rfl (.none rfl) (Ev.lenS rfl Tryd.underlying28) ?_
            refine JL.val rfl rfl rfl (.none rfl) (Ev.cast (v' := .int .i64 ((begun (unL l) (i + 1) : Nat) : Int)) (congrArg (Value.int .i64) (by omega)) (Ev.bin rfl rfl (add_i64 (by omega)))) ?_
            refine JL.asg ?_
            refine JL.nil ?_
            refine JQ.blockN ?_
            refine JQ.thenN ?_
            refine JC.region ?_
            refine JL.mv ?_
            refine JL.val rfl rfl rfl (.none rfl) (Ev.bin rfl rfl (add_i64 (by omega))) ?_
            refine JL.asg ?_
            refine JL.nil ?_
            refine JQ.loopN (i + 1) ?_ ?_ ?_ ?_
            · exact Keeps.k
            · first | exact Sub.all | exact Sub.of_cnt (fun a => by (try dsimp only); simp only [cntA]; omega)
            · omega
            · show (unL l).length - (i + 1) < (unL l).length - i; omega
        · -- guard 81 false
          have hD := of_decide_eq_false hD
          obtain ⟨z, hz⟩ := get_some (l := unL l) (k := i - 1) (by omega)
          refine JW.val rfl rfl (.yes rfl rfl rfl) (Ev.move rfl) ?_
          refine JW.val rfl rfl (.yes rfl rfl rfl) (Ev.move rfl) ?_
          refine JW.val rfl rfl (.yes rfl rfl rfl) (Ev.idxS rfl rfl Tryd.underlying22 Tryd.sizeOf27 (k := i) rfl (by omega)) ?_
          refine JW.val rfl rfl (.yes rfl rfl rfl) (Ev.fldP 0 rfl (fun _ _ => by kernel_rfl)) ?_
          refine JW.val rfl rfl (.yes rfl rfl rfl) (Ev.load1 rfl Tryd.underlying3 rfl (fun w hw => ((hC1 w hw (fun p hp => by first | exact hp | simp [hp])).mem a1 rfl).plF hx 0 rfl)) ?_
          refine JW.val rfl rfl (.yes rfl rfl rfl) (Ev.move rfl) ?_
          refine JW.val rfl rfl (.yes rfl rfl rfl) (Ev.move rfl) ?_
          refine JW.val rfl rfl (.yes rfl rfl rfl) (Ev.bin rfl rfl (sub_i64 (by omega))) ?_
          refine JW.val rfl rfl (.yes rfl rfl rfl) (Ev.idxS rfl rfl Tryd.underlying22 Tryd.sizeOf27 (k := i - 1) (by omega) (by omega)) ?_
          refine JW.val rfl rfl (.yes rfl rfl rfl) (Ev.fldP 0 rfl (fun _ _ => by kernel_rfl)) ?_
          refine JW.val rfl rfl (.yes rfl rfl rfl) (Ev.load1 rfl Tryd.underlying3 rfl (fun w hw => ((hC1 w hw (fun p hp => by first | exact hp | simp [hp])).mem a1 rfl).plF hz 0 rfl)) ?_
          refine JW.val rfl rfl (.yes rfl rfl rfl) (Ev.bin rfl rfl neq_int) ?_
          refine JW.val rfl rfl (.none rfl) (Ev.pickF rfl rfl) ?_
          refine JW.nilQ ?_
          refine JQ.thenN ?_
          refine JC.cond rfl (fun hq => ?_) (fun hq => ?_)
          · -- t94 True
            replace hq := of_decide_eq_true hq
            have hfi : i = 0 ∨ ∃ y, (unL l)[i - 1]? = some y ∧ x.1 ≠ y.1 := .inr ⟨z, hz, hq⟩
            refine JC.seq ?_
            refine JC.region ?_
            refine JL.mv ?_
            refine JL.mv ?_
            refine JL.mv ?_
            refine JL.val rfl rfl rfl (.none rfl) (Ev.idxS rfl rfl Tryd.underlying22 Tryd.sizeOf27 (k := i) rfl (by omega)) ?_
            refine JL.val rfl rfl rfl (.none rfl) (Ev.fldP 0 rfl (fun _ _ => by kernel_rfl)) ?_
            refine JL.val rfl rfl rfl (.none rfl) (Ev.load1 rfl Tryd.underlying3 rfl (fun w hw => ((hC1 w hw (fun p hp => by first | exact hp | simp [hp])).mem a1 rfl).plF hx 0 rfl)) ?_
            refine JL.callN rfl (.none rfl) rfl Tryd.call12 (fun w1 hw1 => sInBatch_any oa cap l x.1 w1 (hs.old hw1) hl) ?_
            rintro _ _ ⟨r3, rfl, rfl, hr3⟩
            obtain ⟨o3, c3, e3, hn3, hC3⟩ := Row.vw (e := 3) hr3
            refine JL.re (d := 101) rfl e3 ?_
            have hbs : begun (unL l) (i + 1) = begun (unL l) i + (inB l x.1).length := begun_new hso hx hfi
            have hib := inB_le l x.1
            refine JL.asg ?_
            refine JL.nil ?_
            refine JQ.thenN ?_
            refine JC.seq ?_
            refine JC.seq ?_
            refine JC.region ?_
            refine JL.asg ?_
            refine JL.nil ?_
            refine JQ.thenN ?_
            refine JC.block ?_
            refine JC.loop (X := Nat)
              (fun k => [(0, .slice oa l.length cap), (3, .slice (some a1) (unL l).length c1), (4, .int .i64 (totC l ((unL l).take (i + 1)))), (5, .int .i64 ((begun (unL l) i : Nat) : Int)), (6, .int .i64 (i : Int)), (8, .slice o3 (inB l x.1).length c3), (9, .int .i64 (k : Int))])
              (fun k => Row.b 27 r1 ++ Row.b 3 r3)
              (fun k => k ≤ (inB l x.1).length)
              (fun k => (inB l x.1).length - k) 0 ?_ ?_ ?_ ?_
            · exact Keeps.k
            · first | exact Sub.all | exact Sub.of_cnt (fun a => by (try dsimp only); simp only [cntA]; omega)
            · exact Nat.zero_le _
            rintro k hki
            refine JC.seq ?_
            refine JC.seq ?_
            refine JC.region ?_
            refine JL.mv ?_
            refine JL.mv ?_
            refine JL.val rfl rfl rfl (.none rfl) (Ev.lenS rfl Tryd.underlying28) ?_
            refine JL.val rfl rfl rfl (.none rfl) (Ev.bin rfl rfl lss_int) ?_
            refine JL.nil ?_
            refine JQ.thenN ?_
            refine JC.cond rfl (fun hc7 => ?_) (fun hc7 => ?_)
            · -- t105 True
              replace hc7 := of_decide_eq_true hc7
              obtain ⟨v, hv⟩ := get_some (l := inB l x.1) (k := k) (by omega)
              have hov := grp_at hso hx (first_lt hso hx hfi) (k := k) (z := v) hv
              have hlk := (List.getElem?_eq_some_iff.1 hov).1
              obtain ⟨a3, rfl⟩ : ∃ a, o3 = some a := by cases o3 with | none => (have := hn3 rfl; omega) | some a => exact ⟨a, rfl⟩
              refine JC.skip ?_
              refine JQ.thenN ?_
              refine JC.seq ?_
              refine JC.block ?_
              refine JC.seq ?_
              refine JC.regionQ (by kernel_rfl) (by kernel_rfl) ?_
              refine JW.val rfl rfl (.none rfl) (Ev.move rfl) ?_
              refine JW.val rfl rfl (.none rfl) (Ev.move rfl) ?_
              refine JW.val rfl rfl (.none rfl) (Ev.bin rfl rfl (add_i64 (by omega))) ?_
              refine JW.val rfl rfl (.none rfl) (Ev.move rfl) ?_
              refine JW.val rfl rfl (.none rfl) (Ev.lenS rfl Tryd.underlying22) ?_
              refine JW.val rfl rfl (.none rfl) (Ev.bin rfl rfl geq_int) ?_
              refine JW.val rfl rfl (.none rfl) (Ev.move rfl) ?_
              refine JW.know (d := 114) (b := false) rfl ?_ ?_
              · first | exact decide_eq_false (by omega) | (exfalso; omega)
              refine JW.val rfl rfl (.yes rfl rfl rfl) (Ev.move rfl) ?_
              refine JW.val rfl rfl (.yes rfl rfl rfl) (Ev.move rfl) ?_
              refine JW.val rfl rfl (.yes rfl rfl rfl) (Ev.move rfl) ?_
              refine JW.val rfl rfl (.yes rfl rfl rfl) (Ev.bin rfl rfl (add_i64 (by omega))) ?_
              refine JW.val rfl rfl (.yes rfl rfl rfl) (Ev.idxS rfl rfl Tryd.underlying22 Tryd.sizeOf27 (k := i + k) (by omega) (by omega)) ?_
              refine JW.val rfl rfl (.yes rfl rfl rfl) (Ev.loadA (l := plc (x.1, v)) rfl Tryd.underlying27 rfl Tryd.sizeOf27 (fun w hw => ((hC1 w hw (fun p hp => by first | exact hp | simp [hp])).mem a1 rfl).plAt hov) rfl) ?_
              refine JW.val rfl rfl (.yes rfl rfl rfl) (Ev.move rfl) ?_
              refine JW.val rfl rfl (.yes rfl rfl rfl) (Ev.move rfl) ?_
              refine JW.val rfl rfl (.yes rfl rfl rfl) (Ev.idxS rfl rfl Tryd.underlying22 Tryd.sizeOf27 (k := i) rfl (by omega)) ?_
              refine JW.val rfl rfl (.yes rfl rfl rfl) (Ev.fldP 0 rfl (fun _ _ => by kernel_rfl)) ?_
              refine JW.val rfl rfl (.yes rfl rfl rfl) (Ev.load1 rfl Tryd.underlying3 rfl (fun w hw => ((hC1 w hw (fun p hp => by first | exact hp | simp [hp])).mem a1 rfl).plF hx 0 rfl)) ?_
              refine JW.val rfl rfl (.yes rfl rfl rfl) (Ev.move rfl) ?_
              refine JW.val rfl rfl (.yes rfl rfl rfl) (Ev.move rfl) ?_
              refine JW.val rfl rfl (.yes rfl rfl rfl) (Ev.idxS1 rfl rfl Tryd.underlying28 Tryd.sizeOf3 (k := k) rfl (by omega)) ?_
              refine JW.val rfl rfl (.yes rfl rfl rfl) (Ev.load1 rfl Tryd.underlying3 rfl (fun w hw => (hC3 w hw (fun p hp => by first | exact hp | simp [hp])).mem a3 rfl k _ (ints_get hv))) ?_
              refine JW.val rfl rfl (.yes rfl rfl rfl) (Ev.bu2 rfl rfl rfl rfl Tryd.underlying27 (fun _ => by kernel_rfl) Tryd.zeroValue27) ?_
              refine JW.val rfl rfl (.yes rfl rfl rfl) (Ev.bin rfl rfl (neq_pl Tryd.underlying27 Tryd.underlying3 Tryd.underlying3 (by kernel_rfl) (by kernel_rfl) (by decide) (by decide) (x.1, v) (x.1, v))) ?_
              refine JW.val rfl rfl (.none rfl) (Ev.pickF rfl rfl) ?_
              refine JW.nilQ ?_
              refine JQ.thenN ?_
              refine JC.knowF rfl ?_ ?_
              · simp
              refine JC.skip ?_
              refine JQ.blockN ?_
              refine JQ.thenN ?_
              refine JC.region ?_
              refine JL.mv ?_
              refine JL.val rfl rfl rfl (.none rfl) (Ev.bin rfl rfl (add_i64 (by omega))) ?_
              refine JL.asg ?_
              refine JL.nil ?_
              refine JQ.loopN (k + 1) ?_ ?_ ?_ ?_
              · exact Keeps.k
              · first | exact Sub.all | exact Sub.of_cnt (fun a => by (try dsimp only); simp only [cntA]; omega)
              · omega
              · show (inB l x.1).length - (k + 1) < (inB l x.1).length - k; omega
            · -- t105 False
              replace hc7 := of_decide_eq_false hc7
              obtain rfl : k = (inB l x.1).length := by omega
              refine JC.exit ?_
              refine JQ.thenE ?_
              refine JQ.thenE ?_
              refine JQ.blockE ?_
              refine JQ.thenN ?_
              refine JC.region ?_
              refine JL.mv ?_
              refine JL.mv ?_
              refine JL.val rfl rfl rfl (.none rfl) (Ev.lenS rfl Tryd.underlying28) ?_
              refine JL.val rfl rfl rfl (.none rfl) (Ev.cast (v' := .int .i64 ((begun (unL l) (i + 1) : Nat) : Int)) (congrArg (Value.int .i64) (by omega)) (Ev.bin rfl rfl (add_i64 (by omega)))) ?_
              refine JL.asg ?_
              refine JL.nil ?_
              refine JQ.blockN ?_
              refine JQ.thenN ?_
              refine JC.region ?_
              refine JL.mv ?_
              refine JL.val rfl rfl rfl (.none rfl) (Ev.bin rfl rfl (add_i64 (by omega))) ?_
              refine JL.asg ?_
              refine JL.nil ?_
              refine JQ.loopN (i + 1) ?_ ?_ ?_ ?_
              · exact Keeps.k
              · first | exact Sub.all | exact Sub.of_cnt (fun a => by (try dsimp only); simp only [cntA]; omega)
              · omega
              · show (unL l).length - (i + 1) < (unL l).length - i; omega
          · -- t94 False
            replace hq := of_decide_eq_false hq
            have hbs := begun_same hx (by omega) hz (by omega)
            refine JC.re (d := 5) rfl (congrArg (fun n : Nat => Value.int .i64 (n : Int)) hbs.symm) ?_
            refine JC.skip ?_
            refine JQ.blockN ?_
            refine JQ.thenN ?_
            refine JC.region ?_
            refine JL.mv ?_
            refine JL.val rfl rfl rfl (.none rfl) (Ev.bin rfl rfl (add_i64 (by omega))) ?_
            refine JL.asg ?_
            refine JL.nil ?_
            refine JQ.loopN (i + 1) ?_ ?_ ?_ ?_
            · exact Keeps.k
            · first | exact Sub.all | exact Sub.of_cnt (fun a => by (try dsimp only); simp only [cntA]; omega)
            · omega
            · show (unL l).length - (i + 1) < (unL l).length - i; omega
    · -- t19 False
      replace hc1 := of_decide_eq_false hc1
      obtain rfl : i = (unL l).length := by omega
      have hsum : totC l ((unL l).take (unL l).length) = (l.length : Int) := by rw [List.take_length]; exact totC_un l
      have hbe := begun_all (unL_sorted l)
      have hself := unL_self l
      refine JC.exit ?_
      refine JQ.thenE ?_
      refine JQ.thenE ?_
      refine JQ.blockE ?_
      refine JQ.thenN ?_
      refine JC.seq ?_
      refine JC.region ?_
      refine JL.mv ?_
      refine JL.mv ?_
      refine JL.val rfl rfl rfl (.none rfl) (Ev.lenS rfl Tryd.underlying22) ?_
      refine JL.val rfl rfl rfl (.none rfl) (Ev.bin rfl rfl eql_int) ?_
      refine JL.mv ?_
      refine JL.know (d := 141) (b := true) rfl ?_ ?_
      · exact decide_eq_true hsum
      refine JL.val rfl rfl rfl (.yes rfl rfl rfl) (Ev.move rfl) ?_
      refine JL.val rfl rfl rfl (.yes rfl rfl rfl) (Ev.move rfl) ?_
      refine JL.val rfl rfl rfl (.yes rfl rfl rfl) (Ev.lenS rfl Tryd.underlying22) ?_
      refine JL.val rfl rfl rfl (.yes rfl rfl rfl) (Ev.bin rfl rfl eql_int) ?_
      refine JL.val rfl rfl rfl (.none rfl) (Ev.pickT rfl rfl) ?_
      refine JL.mv ?_
      refine JL.know (d := 147) (b := true) rfl ?_ ?_
      · exact decide_eq_true (by rw [hbe])
      refine JL.val rfl rfl rfl (.yes rfl rfl rfl) (Ev.move rfl) ?_
      refine JL.callN rfl (.yes rfl rfl rfl) rfl Tryd.call10 (fun w1 hw1 => sUnique_any o1 c1 (unL l) w1 (hC1 w1 hw1 (fun p hp => by first | exact hp | simp [hp])) (by omega)) ?_
      rintro _ _ ⟨r2, rfl, rfl, hr2⟩
      rw [hself] at hr2
      obtain ⟨o2, c2, e2, hn2, hC2⟩ := Row.vw (e := 27) hr2
      refine JL.re (d := 149) (v' := .slice o2 (unL l).length c2) rfl (by rw [hself]; exact e2) ?_
      refine JL.val rfl rfl rfl (.yes rfl rfl rfl) (Ev.move rfl) ?_
      refine JL.callV rfl (.yes rfl rfl rfl) rfl Tryd.call13 (fun w1 hw1 => pSame_any o2 o1 c2 c1 (unL l) (unL l) w1 (hC2 w1 hw1 (fun p hp => by first | exact hp | simp [hp])) (hC1 w1 hw1 (fun p hp => by first | exact hp | simp [hp])) (by omega)) ?_
      refine JL.val rfl rfl rfl (.none rfl) (Ev.pickT rfl rfl) ?_
      refine JL.mv ?_
      refine JL.know (d := 153) (b := true) rfl ?_ ?_
      · exact decide_eq_true rfl
      refine JL.callV rfl (.yes rfl rfl rfl) rfl Tryd.call4 (fun w1 hw1 => sExamples_any w1 (hk.old hw1) (hf.old hw1)) ?_
      refine JL.val rfl rfl rfl (.none rfl) (Ev.pickT rfl rfl) ?_
      refine JL.asg ?_
      refine JL.nil ?_
      refine JQ.thenN ?_
      refine JC.ret ?_
      refine JQ.end1 (H' := []) (.inl rfl) rfl (.tmp rfl) ?_ ?_
      · exact Sub.k
      · rfl

end Go.Proofs.YtjjoenbighmfoaaDoor
