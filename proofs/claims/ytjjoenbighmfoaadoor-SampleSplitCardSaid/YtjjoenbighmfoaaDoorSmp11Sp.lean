/-
  The law of a batch parted.
-/
import Derived.Test.YtjjoenbighmfoaaDoorSmp10Sp
namespace Go.Proofs.YtjjoenbighmfoaaDoor
open Go Go.RowKit
set_option maxRecDepth 100000

theorem clamp_ex {a b : Int} (hb : 0 ≤ b) : ∃ k : Nat, (if b < (if 0 > a then 0 else a) then b else (if 0 > a then 0 else a)) = (k : Int) ∧ (k : Int) ≤ b := by
  by_cases h1 : 0 > a
  · rw [if_pos h1, if_neg (by omega)]
    exact ⟨0, rfl, hb⟩
  · rw [if_neg h1]
    by_cases h2 : b < a
    · rw [if_pos h2]
      exact ⟨b.toNat, by omega, by omega⟩
    · rw [if_neg h2]
      exact ⟨a.toNat, by omega, by omega⟩
/-- A batch parted. -/
def parted (ss : List Int) (k : Nat) (b x : Int) : List Int := ss.take k ++ [b, x - b] ++ ss.drop (k + 1)
section
variable {ss : List Int} {k n i : Nat} {b x : Int} {s : List UInt8} {f : UInt32} {d : UInt64}
theorem parted_sum (hx : ss[k]? = some x) : sumZ (parted ss k b x) = sumZ ss := by
  have h1 : sumZ ss = sumZ (ss.take (k + 1)) + sumZ (ss.drop (k + 1)) := by rw [← sumZ_append, List.take_append_drop]
  have h2 : sumZ [b, x - b] = x := by simp only [sumZ]; omega
  rw [h1, sumZ_take hx, parted, sumZ_append, sumZ_append, h2]
theorem parted_length (hx : ss[k]? = some x) : (parted ss k b x).length = ss.length + 1 := by
  have h1 := (List.getElem?_eq_some_iff.1 hx).1
  simp only [parted, List.length_append, List.length_take, List.length_drop, List.length_cons, List.length_nil]
  omega
theorem parted_ok (h : okZ ss) (hl : ss.length < 16) (hx : ss[k]? = some x) (hb : 0 ≤ b ∧ b ≤ x) : okZ (parted ss k b x) := by
  have hxv := h.2 x (List.mem_of_getElem? hx)
  refine ⟨by rw [parted_length hx]; omega, fun z hz => ?_⟩
  rcases List.mem_append.1 hz with hz | hz
  · rcases List.mem_append.1 hz with hz | hz
    · exact h.2 z (List.mem_of_mem_take hz)
    · simp only [List.mem_cons, List.not_mem_nil, or_false] at hz
      rcases hz with rfl | rfl <;> omega
  · exact h.2 z (List.mem_of_mem_drop hz)
theorem parted_all (h : okZ ss) (hl : ss.length < 16) (hx : ss[k]? = some x) (hb : 0 ≤ b ∧ b ≤ x) : (allP (parted ss k b x)).length = (allP ss).length := by
  have h1 := allP_length h
  have h2 := allP_length (parted_ok h hl hx hb)
  rw [parted_sum hx] at h2
  omega
theorem parted_NZ (h : okZ ss) (hl : ss.length < 16) (hx : ss[k]? = some x) (hb : 0 ≤ b ∧ b ≤ x) : NZ (parted ss k b x) = NZ ss := by
  rw [NZ, parted_all h hl hx hb]
  rfl
theorem parted_ne (h : okZ ss) (hl : ss.length < 16) (hx : ss[k]? = some x) (hb : 0 ≤ b ∧ b ≤ x) (hn : allP ss ≠ []) : allP (parted ss k b x) ≠ [] := fun h0 => by
  have h1 := parted_all h hl hx hb
  rw [h0] at h1
  exact hn (List.eq_nil_of_length_eq_zero h1.symm)
/-- What is drawn without error. -/
theorem drawn_len (he : sampE s f (n : Int) (NZ ss) = 0) : (sampL s f (n : Int) (NZ ss)).length = n := by
  obtain ⟨j, hj, _, _, _, h4⟩ := sampE_okay he
  obtain rfl : n = j := by omega
  rw [h4, draws_length]
theorem num_at (h : okZ ss) (hn : allP ss ≠ []) (he : sampE s f (n : Int) (NZ ss) = 0) (hd : (sampL s f (n : Int) (NZ ss))[i]? = some d) :
    (posV s f (n : Int) ss)[i]? = some (pickP ss d) ∧ nuV ss (pickP ss d) = (d.toNat : Int) ∧ nuE ss (pickP ss d) = 0 := by
  have hlt := sampL_lt he d (List.mem_of_getElem? hd)
  rw [NZ_nat h] at hlt
  obtain ⟨q, hq⟩ := get_some hlt
  have e : pickP ss d = q := by rw [pickP, List.getD_eq_getElem?_getD, hq]; rfl
  refine ⟨by rw [posV_ok h hn, List.getElem?_map, hd]; rfl, ?_⟩
  rw [e]
  exact ⟨(nu_at h hq).1, (nu_at h hq).2.1⟩
theorem pos_len (h : okZ ss) (hn : allP ss ≠ []) (he : sampE s f (n : Int) (NZ ss) = 0) : (posV s f (n : Int) ss).length = n := by
  rw [posV_ok h hn, List.length_map, drawn_len he]
end
theorem sum_ne {ss : List Int} (h : sumZ ss ≠ 0) : 0 < ss.length := by
  cases ss with
  | nil => exact absurd rfl h
  | cons => exact Nat.succ_pos _
theorem Zs.drop {w : World} {oa : Option Addr} {cap : Nat} {ss : List Int} (h : Cs w oa ss.length cap (ints ss)) {l : Nat} (hl : l ≤ ss.length) :
    ∃ ob, sub3 oa l ss.length cap 1 = .slice ob (ss.drop l).length (cap - l) ∧ Cs w ob (ss.drop l).length (cap - l) (ints (ss.drop l)) := by
  have htop := h.top
  have hle := h.le
  refine ⟨if cap = l then oa else oa.map (·.add (l * 1)), by rw [List.length_drop]; rfl, by rw [List.length_drop]; omega, by omega, fun h0 => ?_, fun b hb => ?_⟩
  · split at h0
    · have := h.empty h0
      omega
    · have : oa = none := by cases oa <;> simp_all
      have := h.empty this
      omega
  · split at hb
    · have : ss.drop l = [] := List.eq_nil_of_length_eq_zero (by rw [List.length_drop]; omega)
      rw [this]
      intro j v hj
      simp [ints] at hj
    · cases oa with
      | none => simp at hb
      | some a =>
        obtain rfl := Option.some.inj hb
        have h1 := (h.mem a rfl).cut (l * 1) (ints ss).length
        rw [Nat.mul_one] at h1 ⊢
        rwa [ints, ← List.map_drop, List.take_of_length_le (by simp)] at h1
section
variable {c : Cx} {σ : Slots} {H : Blocks} {ty : TypeId} {pos : String} {af : Array Edge} {gd : Option (Nat × Bool)} {dst : Option Nat}
theorem Ev.max2 {x y : Operand} {ts : Array TypeId} {k : IntKind} {a b : Int} (hx : ev σ x = some (.int k a)) (hy : ev σ y = some (.int k b)) :
    Ev c σ H ⟨dst, .call { callee := .builtin .max, args := #[x, y], argTypes := ts }, ty, pos, af, gd⟩ (.int k (if b > a then b else a)) := fun A w hf _ => by
  rw [BigFrame.execOp_builtin, BigFrame.builtin_max]
  simp [hf.ev hx, hf.ev hy, Builtin.max_, Builtin.max2]
end

set_option maxHeartbeats 4000000 in
theorem lawSplit_any (s : List UInt8) (hsd : s.length = 32) (f : UInt32) (many : Int) (hmb : -9223372036854775808 ≤ many ∧ many ≤ 9223372036854775807) (oa : Option Addr) (cap : Nat) (ss : List Int) (wh be : Int) (hwhb : -9223372036854775808 ≤ wh ∧ wh ≤ 9223372036854775807) (hbeb : -9223372036854775808 ≤ be ∧ be ≤ 9223372036854775807) (w : World) (hs : Cs w oa ss.length cap (ints ss)) (hk : KMem 1 w) (hf : FMem 0 w) :
    Calls Tryd.prog 9 #[.agg (arr8 s), u32 f, .int .i64 many, .slice oa ss.length cap, .int .i64 wh, .int .i64 be] w (Ret w (fun v _ => v = .bool true)) := by
  refine enter (vs := [.agg (arr8 s), u32 f, .int .i64 many, .slice oa ss.length cap, .int .i64 wh, .int .i64 be]) Tryd.func9 rfl Tryd.ntmps9 rfl ?_
  refine JC.seq ?_
  refine JC.region ?_
  refine JL.new rfl rfl rfl (.none rfl) (En.boxA rfl) (fun b6 hb6 => ?_)
  refine JL.asg ?_
  refine JL.nil ?_
  refine JQ.thenN ?_
  refine JC.seq ?_
  refine JC.region ?_
  refine JL.mv ?_
  refine JL.callV rfl (.none rfl) rfl Tryd.call16 (fun w1 hw1 => sTotal_any oa cap ss w1 (hs.old hw1)) ?_
  refine JL.mv ?_
  refine JL.val rfl rfl rfl (.none rfl) (Ev.ex0 rfl) ?_
  refine JL.val rfl rfl rfl (.none rfl) (Ev.ex1 rfl) ?_
  refine JL.asg ?_
  refine JL.asg ?_
  refine JL.nil ?_
  refine JQ.thenN ?_
  refine JC.seq ?_
  refine JC.seq ?_
  refine JC.region ?_
  refine JL.mv ?_
  refine JL.val rfl rfl rfl (.none rfl) (Ev.bin rfl rfl neq_int) ?_
  refine JL.mv ?_
  refine JL.split (d := 34) rfl (fun h0 => ?_) (fun h0 => ?_)
  · -- guard 34 true
    have h0 := of_decide_eq_true h0
    refine JL.skip rfl rfl (.noF rfl rfl rfl) ?_
    refine JL.skip rfl rfl (.noF rfl rfl rfl) ?_
    refine JL.val rfl rfl rfl (.none rfl) (Ev.pickT rfl rfl) ?_
    refine JL.mv ?_
    refine JL.skip rfl rfl (.noF rfl rfl rfl) ?_
    refine JL.skip rfl rfl (.noF rfl rfl rfl) ?_
    refine JL.val rfl rfl rfl (.none rfl) (Ev.pickT rfl rfl) ?_
    refine JL.mv ?_
    refine JL.skip rfl rfl (.noF rfl rfl rfl) ?_
    refine JL.skip rfl rfl (.noF rfl rfl rfl) ?_
    refine JL.val rfl rfl rfl (.none rfl) (Ev.pickT rfl rfl) ?_
    refine JL.mv ?_
    refine JL.skip rfl rfl (.noF rfl rfl rfl) ?_
    refine JL.skip rfl rfl (.noF rfl rfl rfl) ?_
    refine JL.val rfl rfl rfl (.none rfl) (Ev.pickT rfl rfl) ?_
    refine JL.mv ?_
    refine JL.skip rfl rfl (.noF rfl rfl rfl) ?_
    refine JL.skip rfl rfl (.noF rfl rfl rfl) ?_
    refine JL.skip rfl rfl (.noF rfl rfl rfl) ?_
    refine JL.val rfl rfl rfl (.none rfl) (Ev.pickT rfl rfl) ?_
    refine JL.nil ?_
    refine JQ.thenN ?_
    refine JC.condT rfl ?_
    refine JC.seq ?_
    refine JC.region ?_
    refine JL.callV rfl (.none rfl) rfl Tryd.call4 (fun w1 hw1 => sExamples_any w1 (hk.old hw1) (hf.old hw1)) ?_
    refine JL.asg ?_
    refine JL.nil ?_
    refine JQ.thenN ?_
    refine JC.ret ?_
    refine JQ.thenR ?_
    refine JQ.end1 (H' := []) (.inl rfl) rfl (.tmp rfl) ?_ ?_
    · exact Sub.k
    · rfl
  · -- guard 34 false
    have h0 := of_decide_eq_false h0
    have hz : mayE ss = 0 := by omega
    have hok : okZ ss := mayE_zero hz
    have hal := allP_le hok
    have hall := allP_length hok
    have htv := totV_ok hok
    refine JL.val rfl rfl rfl (.yes rfl rfl rfl) (Ev.move rfl) ?_
    refine JL.val rfl rfl rfl (.yes rfl rfl rfl) (Ev.bin rfl rfl eql_int) ?_
    refine JL.val rfl rfl rfl (.none rfl) (Ev.pickF rfl rfl) ?_
    refine JL.mv ?_
    refine JL.split (d := 38) rfl (fun h1 => ?_) (fun h1 => ?_)
    · -- guard 38 true
      have h1 := of_decide_eq_true h1
      refine JL.skip rfl rfl (.noF rfl rfl rfl) ?_
      refine JL.skip rfl rfl (.noF rfl rfl rfl) ?_
      refine JL.val rfl rfl rfl (.none rfl) (Ev.pickT rfl rfl) ?_
      refine JL.mv ?_
      refine JL.skip rfl rfl (.noF rfl rfl rfl) ?_
      refine JL.skip rfl rfl (.noF rfl rfl rfl) ?_
      refine JL.val rfl rfl rfl (.none rfl) (Ev.pickT rfl rfl) ?_
      refine JL.mv ?_
      refine JL.skip rfl rfl (.noF rfl rfl rfl) ?_
      refine JL.skip rfl rfl (.noF rfl rfl rfl) ?_
      refine JL.val rfl rfl rfl (.none rfl) (Ev.pickT rfl rfl) ?_
      refine JL.mv ?_
      refine JL.skip rfl rfl (.noF rfl rfl rfl) ?_
      refine JL.skip rfl rfl (.noF rfl rfl rfl) ?_
      refine JL.skip rfl rfl (.noF rfl rfl rfl) ?_
      refine JL.val rfl rfl rfl (.none rfl) (Ev.pickT rfl rfl) ?_
      refine JL.nil ?_
      refine JQ.thenN ?_
      refine JC.condT rfl ?_
      refine JC.seq ?_
      refine JC.region ?_
      refine JL.callV rfl (.none rfl) rfl Tryd.call4 (fun w1 hw1 => sExamples_any w1 (hk.old hw1) (hf.old hw1)) ?_
      refine JL.asg ?_
      refine JL.nil ?_
      refine JQ.thenN ?_
      refine JC.ret ?_
      refine JQ.thenR ?_
      refine JQ.end1 (H' := []) (.inl rfl) rfl (.tmp rfl) ?_ ?_
      · exact Sub.k
      · rfl
    · -- guard 38 false
      have h1 := of_decide_eq_false h1
      refine JL.val rfl rfl rfl (.yes rfl rfl rfl) (Ev.move rfl) ?_
      refine JL.val rfl rfl rfl (.yes rfl rfl rfl) (Ev.bin rfl rfl lss_int) ?_
      refine JL.val rfl rfl rfl (.none rfl) (Ev.pickF rfl rfl) ?_
      refine JL.mv ?_
      refine JL.split (d := 42) rfl (fun h2 => ?_) (fun h2 => ?_)
      · -- guard 42 true
        have h2 := of_decide_eq_true h2
        refine JL.skip rfl rfl (.noF rfl rfl rfl) ?_
        refine JL.skip rfl rfl (.noF rfl rfl rfl) ?_
        refine JL.val rfl rfl rfl (.none rfl) (Ev.pickT rfl rfl) ?_
        refine JL.mv ?_
        refine JL.skip rfl rfl (.noF rfl rfl rfl) ?_
        refine JL.skip rfl rfl (.noF rfl rfl rfl) ?_
        refine JL.val rfl rfl rfl (.none rfl) (Ev.pickT rfl rfl) ?_
        refine JL.mv ?_
        refine JL.skip rfl rfl (.noF rfl rfl rfl) ?_
        refine JL.skip rfl rfl (.noF rfl rfl rfl) ?_
        refine JL.skip rfl rfl (.noF rfl rfl rfl) ?_
        refine JL.val rfl rfl rfl (.none rfl) (Ev.pickT rfl rfl) ?_
        refine JL.nil ?_
        refine JQ.thenN ?_
        refine JC.condT rfl ?_
        refine JC.seq ?_
        refine JC.region ?_
        refine JL.callV rfl (.none rfl) rfl Tryd.call4 (fun w1 hw1 => sExamples_any w1 (hk.old hw1) (hf.old hw1)) ?_
        refine JL.asg ?_
        refine JL.nil ?_
        refine JQ.thenN ?_
        refine JC.ret ?_
        refine JQ.thenR ?_
        refine JQ.end1 (H' := []) (.inl rfl) rfl (.tmp rfl) ?_ ?_
        · exact Sub.k
        · rfl
      · -- guard 42 false
        have h2 := of_decide_eq_false h2
        refine JL.val rfl rfl rfl (.yes rfl rfl rfl) (Ev.move rfl) ?_
        refine JL.val rfl rfl rfl (.yes rfl rfl rfl) (Ev.bin rfl rfl gtr_int) ?_
        refine JL.val rfl rfl rfl (.none rfl) (Ev.pickF rfl rfl) ?_
        refine JL.mv ?_
        refine JL.split (d := 46) rfl (fun h3 => ?_) (fun h3 => ?_)
        · -- guard 46 true
          have h3 := of_decide_eq_true h3
          refine JL.skip rfl rfl (.noF rfl rfl rfl) ?_
          refine JL.skip rfl rfl (.noF rfl rfl rfl) ?_
          refine JL.val rfl rfl rfl (.none rfl) (Ev.pickT rfl rfl) ?_
          refine JL.mv ?_
          refine JL.skip rfl rfl (.noF rfl rfl rfl) ?_
          refine JL.skip rfl rfl (.noF rfl rfl rfl) ?_
          refine JL.skip rfl rfl (.noF rfl rfl rfl) ?_
          refine JL.val rfl rfl rfl (.none rfl) (Ev.pickT rfl rfl) ?_
          refine JL.nil ?_
          refine JQ.thenN ?_
          refine JC.condT rfl ?_
          refine JC.seq ?_
          refine JC.region ?_
          refine JL.callV rfl (.none rfl) rfl Tryd.call4 (fun w1 hw1 => sExamples_any w1 (hk.old hw1) (hf.old hw1)) ?_
          refine JL.asg ?_
          refine JL.nil ?_
          refine JQ.thenN ?_
          refine JC.ret ?_
          refine JQ.thenR ?_
          refine JQ.end1 (H' := []) (.inl rfl) rfl (.tmp rfl) ?_ ?_
          · exact Sub.k
          · rfl
        · -- guard 46 false
          have h3 := of_decide_eq_false h3
          refine JL.val rfl rfl rfl (.yes rfl rfl rfl) (Ev.move rfl) ?_
          refine JL.val rfl rfl rfl (.yes rfl rfl rfl) (Ev.bin rfl rfl gtr_int) ?_
          refine JL.val rfl rfl rfl (.none rfl) (Ev.pickF rfl rfl) ?_
          refine JL.mv ?_
          refine JL.split (d := 50) rfl (fun h4 => ?_) (fun h4 => ?_)
          · -- guard 50 true
            have h4 := of_decide_eq_true h4
            refine JL.skip rfl rfl (.noF rfl rfl rfl) ?_
            refine JL.skip rfl rfl (.noF rfl rfl rfl) ?_
            refine JL.skip rfl rfl (.noF rfl rfl rfl) ?_
            refine JL.val rfl rfl rfl (.none rfl) (Ev.pickT rfl rfl) ?_
            refine JL.nil ?_
            refine JQ.thenN ?_
            refine JC.condT rfl ?_
            refine JC.seq ?_
            refine JC.region ?_
            refine JL.callV rfl (.none rfl) rfl Tryd.call4 (fun w1 hw1 => sExamples_any w1 (hk.old hw1) (hf.old hw1)) ?_
            refine JL.asg ?_
            refine JL.nil ?_
            refine JQ.thenN ?_
            refine JC.ret ?_
            refine JQ.thenR ?_
            refine JQ.end1 (H' := []) (.inl rfl) rfl (.tmp rfl) ?_ ?_
            · exact Sub.k
            · rfl
          · -- guard 50 false
            have h4 := of_decide_eq_false h4
            refine JL.val rfl rfl rfl (.yes rfl rfl rfl) (Ev.move rfl) ?_
            refine JL.val rfl rfl rfl (.yes rfl rfl rfl) (Ev.lenS rfl Tryd.underlying28) ?_
            refine JL.val rfl rfl rfl (.yes rfl rfl rfl) (Ev.bin rfl rfl geq_int) ?_
            refine JL.val rfl rfl rfl (.none rfl) (Ev.pickF rfl rfl) ?_
            refine JL.nil ?_
            refine JQ.thenN ?_
            refine JC.cond rfl (fun hln => ?_) (fun hln => ?_)
            · -- t54 True
              replace hln := of_decide_eq_true hln
              refine JC.seq ?_
              refine JC.region ?_
              refine JL.callV rfl (.none rfl) rfl Tryd.call4 (fun w1 hw1 => sExamples_any w1 (hk.old hw1) (hf.old hw1)) ?_
              refine JL.asg ?_
              refine JL.nil ?_
              refine JQ.thenN ?_
              refine JC.ret ?_
              refine JQ.thenR ?_
              refine JQ.end1 (H' := []) (.inl rfl) rfl (.tmp rfl) ?_ ?_
              · exact Sub.k
              · rfl
            · -- t54 False
              replace hln := of_decide_eq_false hln
              have hl16 : ss.length < 16 := by omega
              have hf1 : f.toNat ≤ 2147483648 := by omega
              obtain ⟨n, rfl⟩ : ∃ n : Nat, many = (n : Int) := ⟨many.toNat, by omega⟩
              have hsz : sumZ ss ≠ 0 := by omega
              have hl0 := sum_ne hsz
              have hne : allP ss ≠ [] := fun h => by rw [h] at hall; simp at hall; omega
              obtain ⟨wi, hwi, hwl⟩ := clamp_ex (a := wh) (b := (ss.length : Int) - 1) (by omega)
              obtain ⟨a, rfl⟩ := hs.get_some hl0
              obtain ⟨x, hx⟩ := get_some (l := ss) (k := wi) (by omega)
              have hxv := hok.2 x (List.mem_of_getElem? hx)
              obtain ⟨bi, hbi, hbx⟩ := clamp_ex (a := be) (b := x) hxv.1
              have hbb : 0 ≤ (bi : Int) ∧ (bi : Int) ≤ x := by omega
              have htl : (ss.take wi).length = wi := by rw [List.length_take]; omega
              have hdl0 : (ss.drop (wi + 1)).length = ss.length - (wi + 1) := List.length_drop ..
              have hqok := parted_ok hok hl16 hx hbb
              have hqne := parted_ne hok hl16 hx hbb hne
              have hqn := parted_NZ hok hl16 hx hbb
              have hqe : posE s f (n : Int) (parted ss wi (bi : Int) x) = (sampE s f (n : Int) (NZ ss)) := by rw [posE_ok hqok hqne, hqn]
              obtain ⟨od, hsl, hCd⟩ := Zs.drop hs (l := wi + 1) (by omega)
              have hql := parted_length (b := (bi : Int)) hx
              refine JC.skip ?_
              refine JQ.thenN ?_
              refine JC.seq ?_
              refine JC.region ?_
              refine JL.mv ?_
              refine JL.val rfl rfl rfl (.none rfl) (Ev.max2 rfl rfl) ?_
              refine JL.mv ?_
              refine JL.val rfl rfl rfl (.none rfl) (Ev.lenS rfl Tryd.underlying28) ?_
              refine JL.val rfl rfl rfl (.none rfl) (Ev.bin rfl rfl (sub_i64 (by omega))) ?_
              refine JL.val rfl rfl rfl (.none rfl) (Ev.min2 rfl rfl) ?_
              refine JL.re (d := 61) (v' := .int .i64 (wi : Int)) rfl (congrArg (Value.int .i64) hwi) ?_
              refine JL.asg ?_
              refine JL.nil ?_
              refine JQ.thenN ?_
              refine JC.seq ?_
              refine JC.region ?_
              refine JL.mv ?_
              refine JL.val rfl rfl rfl (.none rfl) (Ev.max2 rfl rfl) ?_
              refine JL.mv ?_
              refine JL.mv ?_
              refine JL.val rfl rfl rfl (.none rfl) (Ev.idxS1 rfl rfl Tryd.underlying28 Tryd.sizeOf3 (k := wi) rfl (by omega)) ?_
              refine JL.val rfl rfl rfl (.none rfl) (Ev.load1 rfl Tryd.underlying3 rfl ((Rds.old (hs.mem _ rfl)).at (k := wi) (ints_get hx))) ?_
              refine JL.val rfl rfl rfl (.none rfl) (Ev.min2 rfl rfl) ?_
              refine JL.re (d := 68) (v' := .int .i64 (bi : Int)) rfl (congrArg (Value.int .i64) hbi) ?_
              refine JL.asg ?_
              refine JL.nil ?_
              refine JQ.thenN ?_
              refine JC.seq ?_
              refine JC.region ?_
              refine JL.asg ?_
              refine JL.nil ?_
              refine JQ.thenN ?_
              refine JC.seq ?_
              refine JC.region ?_
              refine JL.mv ?_
              refine JL.mv ?_
              refine JL.mv ?_
              refine JL.val rfl rfl rfl (.none rfl) (Ev.cast (v' := .slice (some a) (ss.take wi).length cap) (by rw [sub3_0, htl]) (Ev.sliceHi rfl rfl Tryd.underlying28 Tryd.sizeOf3 (h := wi) rfl (by have := hs.le; omega))) ?_
              refine JL.gen rfl rfl rfl (.none rfl) (Eg.appendC (r := none) (n := 0) (m := (ss.take wi).length) (xs := []) (news := (ints (ss.take wi))) (z := .int .i64 0) (s := 1) (bytes := 8) rfl rfl rfl Cut.k Tryd.underlying28 (by kernel_rfl) rfl (by decide) (by decide) Row.ok0 (Zs.take hs (by omega)) (by simp [ints]) (ints_one _) (by omega)) ?_
              rintro _ _ ⟨r7, rfl, rfl, hr7, _⟩
              refine JL.asg ?_
              refine JL.nil ?_
              refine JQ.thenN ?_
              refine JC.seq ?_
              refine JC.region ?_
              refine JL.mv ?_
              refine JL.mv ?_
              refine JL.mv ?_
              refine JL.mv ?_
              refine JL.val rfl rfl rfl (.none rfl) (Ev.idxS1 rfl rfl Tryd.underlying28 Tryd.sizeOf3 (k := wi) rfl (by omega)) ?_
              refine JL.val rfl rfl rfl (.none rfl) (Ev.load1 rfl Tryd.underlying3 rfl ((Rds.old (hs.mem _ rfl)).at (k := wi) (ints_get hx))) ?_
              refine JL.mv ?_
              refine JL.val rfl rfl rfl (.none rfl) (Ev.bin rfl rfl (sub_i64 (by omega))) ?_
              refine JL.new rfl rfl rfl (.none rfl) (En.bsN (e := 3) (vs := (ints [(bi : Int), x - (bi : Int)])) rfl (fun _ => by kernel_rfl)) (fun b82 hb82 => ?_)
              refine JL.gen rfl rfl rfl (.none rfl) (Eg.append1 (r := r7) (n := 0 + (ss.take wi).length) (m := 2) (xs := [] ++ (ints (ss.take wi))) (news := (ints [(bi : Int), x - (bi : Int)])) (z := .int .i64 0) (s := 1) (bytes := 8) rfl rfl rfl Cut.k Tryd.underlying28 (by kernel_rfl) rfl (by decide) (by decide) hr7 (Rds.all memK) rfl (by decide) (ints_one _) (by omega)) ?_
              rintro _ _ ⟨r8, rfl, rfl, hr8⟩
              refine JL.asg ?_
              refine JL.nil ?_
              refine JQ.thenN ?_
              refine JC.seq ?_
              refine JC.region ?_
              refine JL.mv ?_
              refine JL.mv ?_
              refine JL.mv ?_
              refine JL.val rfl rfl rfl (.none rfl) (Ev.bin rfl rfl (add_i64 (by omega))) ?_
              refine JL.val rfl rfl rfl (.none rfl) (Ev.sliceLo rfl rfl Tryd.underlying28 Tryd.sizeOf3 (l := wi + 1) (by omega) (by omega)) ?_
              refine JL.re (d := 88) (v' := .slice od (ss.drop (wi + 1)).length (cap - (wi + 1))) rfl hsl ?_
              refine JL.gen rfl rfl rfl (.none rfl) (Eg.appendC (r := some r8) (n := 0 + (ss.take wi).length + 2) (m := (ss.drop (wi + 1)).length) (xs := [] ++ (ints (ss.take wi)) ++ (ints [(bi : Int), x - (bi : Int)])) (news := (ints (ss.drop (wi + 1)))) (z := .int .i64 0) (s := 1) (bytes := 8) rfl rfl rfl Cut.k Tryd.underlying28 (by kernel_rfl) rfl (by decide) (by decide) hr8 hCd (by simp [ints]) (ints_one _) (by omega)) ?_
              rintro _ _ ⟨r9, rfl, rfl, hr9, _⟩
              rw [show 0 + (ss.take wi).length + 2 + (ss.drop (wi + 1)).length = (parted ss wi (bi : Int) x).length by omega]
              have hr9 : Row.ok 1 (parted ss wi (bi : Int) x).length (ints (parted ss wi (bi : Int) x)) r9 := by rw [show 0 + (ss.take wi).length + 2 + (ss.drop (wi + 1)).length = (parted ss wi (bi : Int) x).length by omega] at hr9; rw [show ints (parted ss wi (bi : Int) x) = [] ++ (ints (ss.take wi)) ++ (ints [(bi : Int), x - (bi : Int)]) ++ (ints (ss.drop (wi + 1))) by simp [ints, parted]]; exact hr9
              obtain ⟨o4, c4, e4, hn4, hC4⟩ := Row.vw (e := 3) hr9
              refine JL.re (d := 89) rfl e4 ?_
              refine JL.asg ?_
              refine JL.nil ?_
              refine JQ.thenN ?_
              refine JC.seq ?_
              refine JC.region ?_
              refine JL.val rfl rfl rfl (.none rfl) (Ev.loadB rfl memK Tryd.underlying40 rfl Tryd.sizeOf40 (by rw [arr8_size, hsd])) ?_
              refine JL.mv ?_
              refine JL.mv ?_
              refine JL.mv ?_
              refine JL.re (d := 94) (v' := .int .i64 (((allP ss).length : Nat) : Int)) rfl (congrArg (Value.int .i64) (by rw [htv, hall])) ?_
              refine JL.val rfl rfl rfl (.none rfl) (Ev.conv rfl (conv_i64_u64 Tryd.underlying3 Tryd.underlying51 (by omega))) ?_
              refine JL.callN rfl (.none rfl) rfl Tryd.call27 (fun w1 hw1 => Sample_any s hsd f (n : Int) (by omega) (NZ ss) w1 (hk.old hw1) (hf.old hw1)) ?_
              rintro _ _ ⟨r1, rfl, rfl, hr1⟩
              refine JL.mv ?_
              refine JL.val rfl rfl rfl (.none rfl) (Ev.ex0 rfl) ?_
              obtain ⟨o1, c1, e1, hn1, hC1⟩ := Row.vw (e := 51) hr1
              refine JL.re (d := 97) rfl e1 ?_
              refine JL.val rfl rfl rfl (.none rfl) (Ev.ex1 rfl) ?_
              refine JL.asg ?_
              refine JL.asg ?_
              refine JL.nil ?_
              refine JQ.thenN ?_
              refine JC.seq ?_
              refine JC.region ?_
              refine JL.val rfl rfl rfl (.none rfl) (Ev.loadB rfl memK Tryd.underlying40 rfl Tryd.sizeOf40 (by rw [arr8_size, hsd])) ?_
              refine JL.mv ?_
              refine JL.mv ?_
              refine JL.mv ?_
              refine JL.callN rfl (.none rfl) rfl Tryd.call17 (fun w1 hw1 => sPositions_any s hsd f (n : Int) (by omega) _ cap ss w1 (hs.old hw1) (hk.old hw1) (hf.old hw1)) ?_
              rintro _ _ ⟨r2, rfl, rfl, hr2⟩
              refine JL.mv ?_
              refine JL.val rfl rfl rfl (.none rfl) (Ev.ex0 rfl) ?_
              obtain ⟨o2, c2, e2, hn2, hC2⟩ := Row.vw (e := 27) hr2
              refine JL.re (d := 105) rfl e2 ?_
              refine JL.val rfl rfl rfl (.none rfl) (Ev.ex1 rfl) ?_
              refine JL.asg ?_
              refine JL.asg ?_
              refine JL.nil ?_
              refine JQ.thenN ?_
              refine JC.seq ?_
              refine JC.region ?_
              refine JL.val rfl rfl rfl (.none rfl) (Ev.loadB rfl memK Tryd.underlying40 rfl Tryd.sizeOf40 (by rw [arr8_size, hsd])) ?_
              refine JL.mv ?_
              refine JL.mv ?_
              refine JL.mv ?_
              refine JL.callN rfl (.none rfl) rfl Tryd.call17 (fun w1 hw1 => sPositions_any s hsd f (n : Int) (by omega) o4 c4 (parted ss wi (bi : Int) x) w1 (hC4 w1 hw1 (fun p hp => by first | exact hp | simp [hp])) (hk.old hw1) (hf.old hw1)) ?_
              rintro _ _ ⟨r3, rfl, rfl, hr3⟩
              refine JL.mv ?_
              refine JL.val rfl rfl rfl (.none rfl) (Ev.ex0 rfl) ?_
              obtain ⟨o3, c3, e3, hn3, hC3⟩ := Row.vw (e := 27) hr3
              refine JL.re (d := 113) rfl e3 ?_
              refine JL.val rfl rfl rfl (.none rfl) (Ev.ex1 rfl) ?_
              refine JL.asg ?_
              refine JL.asg ?_
              refine JL.nil ?_
              refine JQ.thenN ?_
              refine JC.seq ?_
              refine JC.seq ?_
              refine JC.region ?_
              refine JL.mv ?_
              refine JL.mv ?_
              refine JL.val rfl rfl rfl (.none rfl) (Ev.bin rfl rfl neq_int) ?_
              refine JL.mv ?_
              refine JL.know (d := 118) (b := false) rfl ?_ ?_
              · exact decide_eq_false (fun h => h (posE_ok hok hne))
              refine JL.val rfl rfl rfl (.yes rfl rfl rfl) (Ev.move rfl) ?_
              refine JL.val rfl rfl rfl (.yes rfl rfl rfl) (Ev.move rfl) ?_
              refine JL.val rfl rfl rfl (.yes rfl rfl rfl) (Ev.bin rfl rfl neq_int) ?_
              refine JL.val rfl rfl rfl (.none rfl) (Ev.pickF rfl rfl) ?_
              refine JL.mv ?_
              refine JL.know (d := 123) (b := false) rfl ?_ ?_
              · exact decide_eq_false (fun h => h hqe)
              refine JL.val rfl rfl rfl (.yes rfl rfl rfl) (Ev.move rfl) ?_
              refine JL.val rfl rfl rfl (.yes rfl rfl rfl) (Ev.bin rfl rfl neq_int) ?_
              refine JL.val rfl rfl rfl (.none rfl) (Ev.pickF rfl rfl) ?_
              refine JL.nil ?_
              refine JQ.thenN ?_
              refine JC.cond rfl (fun he => ?_) (fun he => ?_)
              · -- t126 True
                replace he := of_decide_eq_true he
                have he : (sampE s f (n : Int) (NZ ss)) ≠ 0 := by omega
                refine JC.seq ?_
                refine JC.region ?_
                refine JL.mv ?_
                refine JL.val rfl rfl rfl (.none rfl) (Ev.bin rfl rfl neq_int) ?_
                refine JL.mv ?_
                refine JL.know (d := 129) (b := true) rfl ?_ ?_
                · exact decide_eq_true he
                refine JL.val rfl rfl rfl (.yes rfl rfl rfl) (Ev.move rfl) ?_
                refine JL.val rfl rfl rfl (.yes rfl rfl rfl) (Ev.move rfl) ?_
                refine JL.val rfl rfl rfl (.yes rfl rfl rfl) (Ev.bin rfl rfl eql_int) ?_
                refine JL.val rfl rfl rfl (.none rfl) (Ev.pickT rfl rfl) ?_
                refine JL.mv ?_
                refine JL.know (d := 134) (b := true) rfl ?_ ?_
                · exact decide_eq_true (posE_ok hok hne)
                refine JL.val rfl rfl rfl (.yes rfl rfl rfl) (Ev.move rfl) ?_
                refine JL.val rfl rfl rfl (.yes rfl rfl rfl) (Ev.move rfl) ?_
                refine JL.val rfl rfl rfl (.yes rfl rfl rfl) (Ev.bin rfl rfl eql_int) ?_
                refine JL.val rfl rfl rfl (.none rfl) (Ev.pickT rfl rfl) ?_
                refine JL.mv ?_
                refine JL.know (d := 139) (b := true) rfl ?_ ?_
                · exact decide_eq_true hqe
                refine JL.callV rfl (.yes rfl rfl rfl) rfl Tryd.call4 (fun w1 hw1 => sExamples_any w1 (hk.old hw1) (hf.old hw1)) ?_
                refine JL.val rfl rfl rfl (.none rfl) (Ev.pickT rfl rfl) ?_
                refine JL.asg ?_
                refine JL.nil ?_
                refine JQ.thenN ?_
                refine JC.ret ?_
                refine JQ.thenR ?_
                refine JQ.end1 (H' := []) (.inl rfl) rfl (.tmp rfl) ?_ ?_
                · exact Sub.k
                · rfl
              · -- t126 False
                replace he := of_decide_eq_false he
                have he : (sampE s f (n : Int) (NZ ss)) = 0 := by omega
                have hdl := drawn_len he
                have hpl := pos_len hok hne he
                have hpq := pos_len (ss := (parted ss wi (bi : Int) x)) hqok hqne (by rw [hqn]; exact he)
                refine JC.skip ?_
                refine JQ.thenN ?_
                refine JC.seq ?_
                refine JC.seq ?_
                refine JC.region ?_
                refine JL.mv ?_
                refine JL.val rfl rfl rfl (.none rfl) (Ev.lenS rfl Tryd.underlying48) ?_
                refine JL.mv ?_
                refine JL.val rfl rfl rfl (.none rfl) (Ev.bin rfl rfl neq_int) ?_
                refine JL.mv ?_
                refine JL.know (d := 146) (b := false) rfl ?_ ?_
                · exact decide_eq_false (fun h => h (by rw [hdl]))
                refine JL.val rfl rfl rfl (.yes rfl rfl rfl) (Ev.move rfl) ?_
                refine JL.val rfl rfl rfl (.yes rfl rfl rfl) (Ev.lenS rfl Tryd.underlying22) ?_
                refine JL.val rfl rfl rfl (.yes rfl rfl rfl) (Ev.move rfl) ?_
                refine JL.val rfl rfl rfl (.yes rfl rfl rfl) (Ev.bin rfl rfl neq_int) ?_
                refine JL.val rfl rfl rfl (.none rfl) (Ev.pickF rfl rfl) ?_
                refine JL.mv ?_
                refine JL.know (d := 152) (b := false) rfl ?_ ?_
                · exact decide_eq_false (fun h => h (by rw [hpl]))
                refine JL.val rfl rfl rfl (.yes rfl rfl rfl) (Ev.move rfl) ?_
                refine JL.val rfl rfl rfl (.yes rfl rfl rfl) (Ev.lenS rfl Tryd.underlying22) ?_
                refine JL.val rfl rfl rfl (.yes rfl rfl rfl) (Ev.move rfl) ?_
                refine JL.val rfl rfl rfl (.yes rfl rfl rfl) (Ev.bin rfl rfl neq_int) ?_
                refine JL.val rfl rfl rfl (.none rfl) (Ev.pickF rfl rfl) ?_
                refine JL.nil ?_
                refine JQ.thenN ?_
                refine JC.knowF rfl ?_ ?_
                · exact decide_eq_false (fun h => h (by rw [hpq]))
                refine JC.skip ?_
                refine JQ.thenN ?_
                refine JC.seq ?_
                refine JC.seq ?_
                refine JC.region ?_
                refine JL.asg ?_
                refine JL.nil ?_
                refine JQ.thenN ?_
                refine JC.block ?_
                refine JC.loop (X := Nat)
                  (fun i => [(2, .int .i64 (n : Int)), (3, .slice (some a) ss.length cap), (15, .slice o4 (parted ss wi (bi : Int) x).length c4), (16, .slice o1 (sampL s f (n : Int) (NZ ss)).length c1), (18, .slice o2 (posV s f (n : Int) ss).length c2), (20, .slice o3 (posV s f (n : Int) (parted ss wi (bi : Int) x)).length c3), (22, .int .i64 (i : Int))])
                  (fun i => Row.b 3 r9 ++ (Row.b 51 r1 ++ (Row.b 27 r2 ++ Row.b 27 r3)))
                  (fun i => i ≤ n)
                  (fun i => n - i) 0 ?_ ?_ ?_ ?_
                · exact Keeps.k
                · exact Sub.of_cnt (fun a => by (try dsimp only); simp only [cntA]; omega)
                · exact Nat.zero_le _
                rintro i hi
                refine JC.seq ?_
                refine JC.seq ?_
                refine JC.region ?_
                refine JL.mv ?_
                refine JL.mv ?_
                refine JL.val rfl rfl rfl (.none rfl) (Ev.bin rfl rfl lss_int) ?_
                refine JL.nil ?_
                refine JQ.thenN ?_
                refine JC.cond rfl (fun hc1 => ?_) (fun hc1 => ?_)
                · -- t160 True
                  replace hc1 := of_decide_eq_true hc1
                  obtain ⟨d, hd⟩ := get_some (l := (sampL s f (n : Int) (NZ ss))) (k := i) (by omega)
                  obtain ⟨hp1, hv1, hu1⟩ := num_at hok hne he hd
                  obtain ⟨hp2, hv2, hu2⟩ := num_at (ss := (parted ss wi (bi : Int) x)) (i := i) (d := d) hqok hqne (by rw [hqn]; exact he) (by rw [hqn]; exact hd)
                  obtain ⟨a1, rfl⟩ : ∃ a, o1 = some a := by cases o1 with | none => (have := hn1 rfl; omega) | some a => exact ⟨a, rfl⟩
                  obtain ⟨a2, rfl⟩ : ∃ a, o2 = some a := by cases o2 with | none => (have := hn2 rfl; omega) | some a => exact ⟨a, rfl⟩
                  obtain ⟨a3, rfl⟩ : ∃ a, o3 = some a := by cases o3 with | none => (have := hn3 rfl; omega) | some a => exact ⟨a, rfl⟩
                  refine JC.skip ?_
                  refine JQ.thenN ?_
                  refine JC.seq ?_
                  refine JC.block ?_
                  refine JC.seq ?_
                  refine JC.region ?_
                  refine JL.mv ?_
                  refine JL.mv ?_
                  refine JL.mv ?_
                  refine JL.val rfl rfl rfl (.none rfl) (Ev.idxS rfl rfl Tryd.underlying22 Tryd.sizeOf27 (k := i) rfl (by omega)) ?_
                  refine JL.val rfl rfl rfl (.none rfl) (Ev.loadA (l := plc (pickP ss d)) rfl Tryd.underlying27 rfl Tryd.sizeOf27 (fun w hw => ((hC2 w hw (fun p hp => by first | exact hp | simp [hp])).mem a2 rfl).plAt hp1) rfl) ?_
                  refine JL.callV rfl (.none rfl) rfl Tryd.call15 (fun w1 hw1 => sNumber_any _ cap ss (pickP ss d) w1 (hs.old hw1)) ?_
                  refine JL.re (d := 169) (v' := .tuple #[.int .i64 (d.toNat : Int), .int .i64 0]) rfl (by rw [hv1, hu1]) ?_
                  refine JL.mv ?_
                  refine JL.val rfl rfl rfl (.none rfl) (Ev.ex0 rfl) ?_
                  refine JL.val rfl rfl rfl (.none rfl) (Ev.ex1 rfl) ?_
                  refine JL.asg ?_
                  refine JL.asg ?_
                  refine JL.nil ?_
                  refine JQ.thenN ?_
                  refine JC.seq ?_
                  refine JC.region ?_
                  refine JL.mv ?_
                  refine JL.mv ?_
                  refine JL.mv ?_
                  refine JL.val rfl rfl rfl (.none rfl) (Ev.idxS rfl rfl Tryd.underlying22 Tryd.sizeOf27 (k := i) rfl (by omega)) ?_
                  refine JL.val rfl rfl rfl (.none rfl) (Ev.loadA (l := plc (pickP (parted ss wi (bi : Int) x) d)) rfl Tryd.underlying27 rfl Tryd.sizeOf27 (fun w hw => ((hC3 w hw (fun p hp => by first | exact hp | simp [hp])).mem a3 rfl).plAt hp2) rfl) ?_
                  refine JL.callV rfl (.none rfl) rfl Tryd.call15 (fun w1 hw1 => sNumber_any o4 c4 (parted ss wi (bi : Int) x) (pickP (parted ss wi (bi : Int) x) d) w1 (hC4 w1 hw1 (fun p hp => by first | exact hp | simp [hp]))) ?_
                  refine JL.re (d := 178) (v' := .tuple #[.int .i64 (d.toNat : Int), .int .i64 0]) rfl (by rw [hv2, hu2]) ?_
                  refine JL.mv ?_
                  refine JL.val rfl rfl rfl (.none rfl) (Ev.ex0 rfl) ?_
                  refine JL.val rfl rfl rfl (.none rfl) (Ev.ex1 rfl) ?_
                  refine JL.asg ?_
                  refine JL.asg ?_
                  refine JL.nil ?_
                  refine JQ.thenN ?_
                  refine JC.seq ?_
                  refine JC.region ?_
                  refine JL.mv ?_
                  refine JL.val rfl rfl rfl (.none rfl) (Ev.bin rfl rfl neq_int) ?_
                  refine JL.mv ?_
                  refine JL.know (d := 183) (b := false) rfl ?_ ?_
                  · exact decide_eq_false (fun h => h rfl)
                  refine JL.val rfl rfl rfl (.yes rfl rfl rfl) (Ev.move rfl) ?_
                  refine JL.val rfl rfl rfl (.yes rfl rfl rfl) (Ev.bin rfl rfl neq_int) ?_
                  refine JL.val rfl rfl rfl (.none rfl) (Ev.pickF rfl rfl) ?_
                  refine JL.mv ?_
                  refine JL.know (d := 187) (b := false) rfl ?_ ?_
                  · exact decide_eq_false (fun h => h rfl)
                  refine JL.val rfl rfl rfl (.yes rfl rfl rfl) (Ev.move rfl) ?_
                  refine JL.val rfl rfl rfl (.yes rfl rfl rfl) (Ev.conv rfl (conv_i64_u64 Tryd.underlying3 Tryd.underlying51 (by have := d.toNat_lt; omega))) ?_
                  refine JL.re (d := 189) (v' := u64 d) rfl (congrArg u64 (UInt64.ofNat_toNat)) ?_
                  refine JL.val rfl rfl rfl (.yes rfl rfl rfl) (Ev.move rfl) ?_
                  refine JL.val rfl rfl rfl (.yes rfl rfl rfl) (Ev.move rfl) ?_
                  refine JL.val rfl rfl rfl (.yes rfl rfl rfl) (Ev.idxS1 rfl rfl Tryd.underlying48 Tryd.sizeOf51 (k := i) rfl (by omega)) ?_
                  refine JL.val rfl rfl rfl (.yes rfl rfl rfl) (Ev.load1 rfl Tryd.underlying51 rfl (fun w hw => ((hC1 w hw (fun p hp => by first | exact hp | simp [hp])).mem a1 rfl).atMap hd)) ?_
                  refine JL.val rfl rfl rfl (.yes rfl rfl rfl) (Ev.bin rfl rfl neq_int) ?_
                  refine JL.val rfl rfl rfl (.none rfl) (Ev.pickF rfl rfl) ?_
                  refine JL.mv ?_
                  refine JL.know (d := 196) (b := false) rfl ?_ ?_
                  · exact decide_eq_false (fun h => h rfl)
                  refine JL.val rfl rfl rfl (.yes rfl rfl rfl) (Ev.move rfl) ?_
                  refine JL.val rfl rfl rfl (.yes rfl rfl rfl) (Ev.conv rfl (conv_i64_u64 Tryd.underlying3 Tryd.underlying51 (by have := d.toNat_lt; omega))) ?_
                  refine JL.re (d := 198) (v' := u64 d) rfl (congrArg u64 (UInt64.ofNat_toNat)) ?_
                  refine JL.val rfl rfl rfl (.yes rfl rfl rfl) (Ev.move rfl) ?_
                  refine JL.val rfl rfl rfl (.yes rfl rfl rfl) (Ev.move rfl) ?_
                  refine JL.val rfl rfl rfl (.yes rfl rfl rfl) (Ev.idxS1 rfl rfl Tryd.underlying48 Tryd.sizeOf51 (k := i) rfl (by omega)) ?_
                  refine JL.val rfl rfl rfl (.yes rfl rfl rfl) (Ev.load1 rfl Tryd.underlying51 rfl (fun w hw => ((hC1 w hw (fun p hp => by first | exact hp | simp [hp])).mem a1 rfl).atMap hd)) ?_
                  refine JL.val rfl rfl rfl (.yes rfl rfl rfl) (Ev.bin rfl rfl neq_int) ?_
                  refine JL.val rfl rfl rfl (.none rfl) (Ev.pickF rfl rfl) ?_
                  refine JL.nil ?_
                  refine JQ.thenN ?_
                  refine JC.knowF rfl ?_ ?_
                  · exact decide_eq_false (fun h => h rfl)
                  refine JC.skip ?_
                  refine JQ.blockN ?_
                  refine JQ.thenN ?_
                  refine JC.region ?_
                  refine JL.mv ?_
                  refine JL.val rfl rfl rfl (.none rfl) (Ev.bin rfl rfl (add_i64 (by omega))) ?_
                  refine JL.asg ?_
                  refine JL.nil ?_
                  refine JQ.loopN (i + 1) ?_ ?_ ?_ ?_
                  · exact Keeps.k
                  · first | exact Sub.all | exact Sub.of_cnt (fun a => by (try dsimp only); simp only [cntA]; omega)
                  · omega
                  · show n - (i + 1) < n - i; omega
                · -- t160 False
                  replace hc1 := of_decide_eq_false hc1
                  obtain rfl : i = n := by omega
                  refine JC.exit ?_
                  refine JQ.thenE ?_
                  refine JQ.thenE ?_
                  refine JQ.blockE ?_
                  refine JQ.thenN ?_
                  refine JC.seq ?_
                  refine JC.region ?_
                  refine JL.callV rfl (.none rfl) rfl Tryd.call4 (fun w1 hw1 => sExamples_any w1 (hk.old hw1) (hf.old hw1)) ?_
                  refine JL.asg ?_
                  refine JL.nil ?_
                  refine JQ.thenN ?_
                  refine JC.ret ?_
                  refine JQ.end1 (H' := []) (.inl rfl) rfl (.tmp rfl) ?_ ?_
                  · exact Sub.k
                  · rfl

end Go.Proofs.YtjjoenbighmfoaaDoor
