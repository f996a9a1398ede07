/-
  The law SampleSplit returns true for every input, and each argument reads behind the call as it read before. No condition; the listed tables are tied to the text by the given tie.
-/
import Derived.Test.YtjjoenbighmfoaaDoorSmp11Sp
import Derived.Test.YtjjoenbighmfoaaDoorPackESp
import Derived.Test.YtjjoenbighmfoaaDoorOpenPSp
namespace Go.Proofs.YtjjoenbighmfoaaDoor.sampleSplit
open Go Go.RowKit Go.ChangeShapes Go.WideShapes Go.ChangeAt
set_option maxRecDepth 100000

theorem contract (H : Type) (enc : TypeId × Value → H) (W : World) (base : Nat) (args : Array Value) (ds gs : List (DataW H)) (before : List MemPlace)
    (hval : ∀ (j : Nat) t v, Tryd.f9.params[j]? = some t → args[j]? = some v → Value.okWide Tryd.prog W .any base t v)
    (hW : DataW.Whole enc Tryd.prog Tryd.f9.params.toList Rows.sampleSplitSpec.vars false W args.toList ds gs before) (hL : laidMetH Tryd.prog Rows.sampleSplitRow.laid W) :
    Calls Tryd.prog 9 args W fun e W' => ∃ v, e = .returned v ∧ Rows.sampleSplitSpec.post enc Tryd.prog Tryd.f9 false true false false W args v W' := by
  have hW' := hW
  obtain ⟨p, q, hA0, hV, rfl, hfz, hnd⟩ := hW
  have hA : DataW.TrodAll enc Tryd.prog W 0 (fun _ => true) true Tryd.f9.params.toList args.toList ds p := hA0
  rw [Tryd.params9] at hA hval
  obtain ⟨v0, vs0, d0, ds0, p0, q0, hargs0, rfl, rfl, h0, r0⟩ := trodAll_cons hA
  obtain ⟨v1, vs1, d1, ds1, p1, q1, rfl, rfl, rfl, h1, r1⟩ := trodAll_cons r0
  obtain ⟨v2, vs2, d2, ds2, p2, q2, rfl, rfl, rfl, h2, r2⟩ := trodAll_cons r1
  obtain ⟨v3, vs3, d3, ds3, p3, q3, rfl, rfl, rfl, h3, r3⟩ := trodAll_cons r2
  obtain ⟨v4, vs4, d4, ds4, p4, q4, rfl, rfl, rfl, h4, r4⟩ := trodAll_cons r3
  obtain ⟨v5, vs5, d5, ds5, p5, q5, rfl, rfl, rfl, h5, r5⟩ := trodAll_cons r4
  obtain ⟨rfl, rfl, rfl⟩ := trodAll_nil r5
  obtain rfl : args = #[v0, v1, v2, v3, v4, v5] := by cases args; simp_all
  obtain ⟨rfl, rfl⟩ := trodVars_none hV
  obtain ⟨l0, hl0, rfl⟩ := open_arr8 Tryd.underlying40 Tryd.underlying5 cellsU8 cellsB32 (hval 0 40 v0 rfl rfl) h0
  obtain ⟨z1, rfl⟩ := okWide_int Tryd.underlying41 (hval 1 41 v1 rfl rfl)
  have wz1 : (Lit.int .u32 z1).wf = true := by
    obtain ⟨fu, hfu⟩ := h1
    obtain ⟨z, hz, _, hw⟩ := DataW.trod_int Tryd.underlying41 hfu
    simp [Value.cells] at hz
    rw [hz]
    exact hw
  obtain ⟨n1, rfl⟩ := u32_ex wz1
  obtain ⟨z2, rfl⟩ := okWide_int Tryd.underlying3 (hval 2 3 v2 rfl rfl)
  have wz2 : (Lit.int .i64 z2).wf = true := by
    obtain ⟨fu, hfu⟩ := h2
    obtain ⟨z, hz, _, hw⟩ := DataW.trod_int Tryd.underlying3 hfu
    simp [Value.cells] at hz
    rw [hz]
    exact hw
  have bz2 := wf_i64 wz2
  obtain ⟨o3, c3, ss3, rfl, hz3⟩ := open_ints (hval 3 28 v3 rfl rfl) h3
  obtain ⟨z4, rfl⟩ := okWide_int Tryd.underlying3 (hval 4 3 v4 rfl rfl)
  have wz4 : (Lit.int .i64 z4).wf = true := by
    obtain ⟨fu, hfu⟩ := h4
    obtain ⟨z, hz, _, hw⟩ := DataW.trod_int Tryd.underlying3 hfu
    simp [Value.cells] at hz
    rw [hz]
    exact hw
  have bz4 := wf_i64 wz4
  obtain ⟨z5, rfl⟩ := okWide_int Tryd.underlying3 (hval 5 3 v5 rfl rfl)
  have wz5 : (Lit.int .i64 z5).wf = true := by
    obtain ⟨fu, hfu⟩ := h5
    obtain ⟨z, hz, _, hw⟩ := DataW.trod_int Tryd.underlying3 hfu
    simp [Value.cells] at hz
    rw [hz]
    exact hw
  have bz5 := wf_i64 wz5
  clear hA0
  try simp only [List.append_nil] at hW'
  have hk : KMem 1 W := kMem_of hL
  have hf : FMem 0 W := fMem_of hL
  refine (lawSplit_any l0 hl0 n1 z2 bz2 o3 c3 ss3 z4 z5 bz4 bz5 W hz3 hk hf).mono fun e W1 ⟨v, H1, he, hp, hv⟩ => ?_
  subst he; subst hv
  have hlt := fun x hx => (hW'.lt x hx)
  exact ⟨_, rfl, post_of_below (pa := p0 ++ (p1 ++ (p2 ++ (p3 ++ (p4 ++ (p5 ++ [])))))) (pv := []) hW' (fun _ _ _ => trodAll_cons_mk (shut_bool Tryd.underlying4 _) trodAll_mk0)
    (fun sp hsp => (trodAll_cons_mk (WideElems.Trod_stays laidOut (by kernel_rfl) (of_decide_eq_true (by kernel_rfl)) h0 (fun x hx => hp.below.same (by simpa using hlt x (by simp [hx]))) (fun x hx => hsp x (by simp [hx]))) (trodAll_cons_mk (WideElems.Trod_stays laidOut (by kernel_rfl) (of_decide_eq_true (by kernel_rfl)) h1 (fun x hx => hp.below.same (by simpa using hlt x (by simp [hx]))) (fun x hx => hsp x (by simp [hx]))) (trodAll_cons_mk (WideElems.Trod_stays laidOut (by kernel_rfl) (of_decide_eq_true (by kernel_rfl)) h2 (fun x hx => hp.below.same (by simpa using hlt x (by simp [hx]))) (fun x hx => hsp x (by simp [hx]))) (trodAll_cons_mk (WideElems.Trod_stays laidOut (by kernel_rfl) (of_decide_eq_true (by kernel_rfl)) h3 (fun x hx => hp.below.same (by simpa using hlt x (by simp [hx]))) (fun x hx => hsp x (by simp [hx]))) (trodAll_cons_mk (WideElems.Trod_stays laidOut (by kernel_rfl) (of_decide_eq_true (by kernel_rfl)) h4 (fun x hx => hp.below.same (by simpa using hlt x (by simp [hx]))) (fun x hx => hsp x (by simp [hx]))) (trodAll_cons_mk (WideElems.Trod_stays laidOut (by kernel_rfl) (of_decide_eq_true (by kernel_rfl)) h5 (fun x hx => hp.below.same (by simpa using hlt x (by simp [hx]))) (fun x hx => hsp x (by simp [hx]))) trodAll_mk0))))))) (fun _ _ => rfl) (by simp) hp.below⟩

theorem laid_met (os : Os) : laidMet Tryd.prog Rows.sampleSplitRow.laid ((laidWorld os #[.agg (arr8 (List.replicate 32 0)), .int .u32 0, .int .i64 0, .slice none 0 0, .int .i64 0, .int .i64 0]).forCall (fun _ _ => 0) ⟨#[], #[.agg (arr8 (List.replicate 32 0)), .int .u32 0, .int .i64 0, .slice none 0 0, .int .i64 0, .int .i64 0], []⟩).memory :=
  laidMet_of_run' 8 (by kernel_rfl) (by kernel_rfl)
theorem reads (os : Os) {H : Type} (enc : TypeId × Value → H) : ∃ places, DataW.whole enc Tryd.prog ((laidWorld os #[.agg (arr8 (List.replicate 32 0)), .int .u32 0, .int .i64 0, .slice none 0 0, .int .i64 0, .int .i64 0]).forCall (fun _ _ => 0) ⟨#[], #[.agg (arr8 (List.replicate 32 0)), .int .u32 0, .int .i64 0, .slice none 0 0, .int .i64 0, .int .i64 0], []⟩).memory Tryd.f9.params.toList Rows.sampleSplitSpec.vars false (#[.agg (arr8 (List.replicate 32 0)), .int .u32 0, .int .i64 0, .slice none 0 0, .int .i64 0, .int .i64 0] : Array Value).toList 8 = some ([.agg (List.replicate 32 (.lit (.int .u8 0))), .lit (.int .u32 0), .lit (.int .i64 0), .nil, .lit (.int .i64 0), .lit (.int .i64 0)], [], places) :=
  ⟨[], by kernel_rfl⟩
theorem lifted (os : Os) (started : os.Started) (H : Type) (enc : TypeId × Value → H) (F : Stop.Interp) :
    ReturnsInHanded {} Tryd.checked os 9 .any ((OpenSpec.ofChange Rows.sampleSplitSpec).preRow enc Tryd.prog Tryd.f9 Rows.sampleSplitRow.domain false Rows.sampleSplitRow.laid) (((OpenSpec.ofChange Rows.sampleSplitSpec).at F).post enc Tryd.prog Tryd.f9 false true false false) := by
  obtain ⟨places, hx⟩ := reads os enc
  refine returnsInHanded_of_row (C := Tryd.checked) (s := (OpenSpec.ofChange Rows.sampleSplitSpec)) own started (by kernel_rfl) Tryd.func9
    (witness_row_at (enc := enc) (C := Tryd.checked) false (laidWorld os #[.agg (arr8 (List.replicate 32 0)), .int .u32 0, .int .i64 0, .slice none 0 0, .int .i64 0, .int .i64 0]) #[.agg (arr8 (List.replicate 32 0)), .int .u32 0, .int .i64 0, .slice none 0 0, .int .i64 0, .int .i64 0] rfl (by kernel_rfl) (by kernel_rfl) (by kernel_rfl)
      (OpenSpec.preRow_of_cond 8 hx (by kernel_rfl) (fun k hk => by cases hk) (by kernel_rfl) (laid_met os))) ?_
  intro W base args ds gs before hval hW _ _ _ hL _ _
  exact contract H enc W base args ds gs before hval hW hL
theorem said : Rows.SampleSplitSaid :=
  OpenClaim.holds_of_cond 9 Tryd.f9 rfl rfl rfl rfl rfl rfl rfl ⟨rfl, rfl, rfl, rfl, rfl⟩ rfl rfl rfl rfl rfl (by kernel_rfl) Tryd.func9 (by kernel_rfl)
    (of_decide_eq_true (by kernel_rfl)) (by unfold Func.isWrapper; first | (rw [if_pos (by decide +kernel)]; kernel_rfl) | (rw [if_neg (by decide +kernel)]; exact ⟨rfl, rfl⟩))
    (fun os started H enc _ F => by rw [OpenClaim.pre_eq_preRow]; exact lifted os started H enc F)
theorem plain (f : FuncId) (fn : Func) (hf : Tryd.pinned.checked.prog.funcNamed "suffrage/suffragelaw38.SampleSplit" = some f) (hfn : Tryd.pinned.checked.prog.funcs[f]? = some fn) :
    false = Tryd.pinned.checked.prog.looks [] ∧ ∀ (j : Nat) t, fn.params[j]? = some t → Tryd.pinned.checked.prog.wantsStandIn t = false := by
  obtain rfl : f = 9 := Option.some.inj ((show Tryd.prog.funcNamed "suffrage/suffragelaw38.SampleSplit" = some 9 by kernel_rfl).symm.trans hf) |>.symm
  obtain rfl : fn = Tryd.f9 := (Option.some.inj (Tryd.func9.symm.trans hfn)).symm
  refine ⟨by kernel_rfl, fun j t ht => ?_⟩
  rw [Tryd.params9] at ht
  have hs3 : Tryd.prog.wantsStandIn 3 = false := by kernel_rfl
  have hs28 : Tryd.prog.wantsStandIn 28 = false := by kernel_rfl
  have hs40 : Tryd.prog.wantsStandIn 40 = false := by kernel_rfl
  have hs41 : Tryd.prog.wantsStandIn 41 = false := by kernel_rfl
  have hm := Array.mem_of_getElem? ht
  simp only [List.mem_toArray, List.mem_cons, List.not_mem_nil, or_false] at hm
  rcases hm with rfl | rfl | rfl | rfl | rfl | rfl <;> assumption
theorem card : Rows.SampleSplitCardSaid :=
  Claim7.holds_tied_plain_at .later [] _ _ _ _ said (fun _ h => by cases h) (by kernel_rfl) (fun _ h => by cases h) sampleSplit_row_tie rfl ⟨rfl, rfl⟩ (by kernel_rfl) rfl plain (by kernel_rfl)
end Go.Proofs.YtjjoenbighmfoaaDoor.sampleSplit
