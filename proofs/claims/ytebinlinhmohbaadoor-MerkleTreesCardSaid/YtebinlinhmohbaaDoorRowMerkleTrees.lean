/-
  The law MerkleTrees returns true for every input, and each argument reads behind the call as it read before. No condition; the listed tables are tied to the text by the given tie.
-/
import Derived.Test.YtebinlinhmohbaaDoorMer6
import Derived.Test.YtebinlinhmohbaaDoorOpenD
import Derived.Test.YtebinlinhmohbaaDoorReach
namespace Go.Proofs.YtebinlinhmohbaaDoor.merkleTrees
open Go Go.RowKit Go.ChangeShapes Go.WideShapes Go.ChangeAt
set_option maxRecDepth 100000

theorem contract (H : Type) (enc : TypeId × Value → H) (W : World) (base : Nat) (args : Array Value) (ds gs : List (DataW H)) (before : List MemPlace)
    (hval : ∀ (j : Nat) t v, Tryd.f4.params[j]? = some t → args[j]? = some v → Value.okWide Tryd.prog W .any base t v)
    (hW : DataW.Whole enc Tryd.prog Tryd.f4.params.toList Rows.merkleTreesSpec.vars false W args.toList ds gs before) (hL : laidMetH Tryd.prog Rows.merkleTreesRow.laid W) (hR : (DataW.weightsEach Tryd.prog (Tryd.f4.params.toList ++ (OpenSpec.ofChange Rows.merkleTreesSpec).bare.plain.varTypes Tryd.prog) (ds ++ gs)).all (· ≤ reachBytes) = true) :
    Calls Tryd.prog 4 args W fun e W' => ∃ v, e = .returned v ∧ Rows.merkleTreesSpec.post enc Tryd.prog Tryd.f4 false true false false W args v W' := by
  have hW' := hW
  obtain ⟨p, q, hA0, hV, rfl, hfz, hnd⟩ := hW
  have hA : DataW.TrodAll enc Tryd.prog W 0 (fun _ => true) true Tryd.f4.params.toList args.toList ds p := hA0
  rw [Tryd.params4] at hA hval hR
  obtain ⟨v0, vs0, d0, ds0, p0, q0, hargs0, rfl, rfl, h0, r0⟩ := trodAll_cons hA
  obtain ⟨v1, vs1, d1, ds1, p1, q1, rfl, rfl, rfl, h1, r1⟩ := trodAll_cons r0
  obtain ⟨rfl, rfl, rfl⟩ := trodAll_nil r1
  obtain rfl : args = #[v0, v1] := by cases args; simp_all
  obtain ⟨rfl, rfl⟩ := trodVars_none hV
  have hR2 : (DataW.weightsEach Tryd.prog [23, 3] [d0, d1]).all (· ≤ 140737488351232) = true := hR
  clear hR
  simp only [DataW.weightsEach, List.all_append, Bool.and_eq_true] at hR2
  obtain ⟨hR0, _, _⟩ := hR2
  obtain ⟨o0, c0, ds0, rfl, hd0⟩ := open_digs Tryd.underlying23 Tryd.underlying22 Tryd.underlying5 cellsU8 cellsB32 (hval 0 23 v0 rfl rfl) h0
  obtain ⟨z1, rfl⟩ := okWide_int Tryd.underlying3 (hval 1 3 v1 rfl rfl)
  have wz1 : (Lit.int .i64 z1).wf = true := by
    obtain ⟨fu, hfu⟩ := h1
    obtain ⟨z, hz, _, hw⟩ := DataW.trod_int Tryd.underlying3 hfu
    simp [Value.cells] at hz
    rw [hz]
    exact hw
  have bz1 := wf_i64 wz1
  have hlen0 : ds0.length * 32 ≤ 140737488351232 := by
    obtain ⟨fu, hfu⟩ := h0
    exact slice_reach Tryd.underlying23 (show Tryd.prog.bytesOf 22 = 32 by kernel_rfl) hfu hR0
  clear hA0
  try simp only [List.append_nil] at hW'
  have hk : KMem 1 W := kMem_of hL
  have hf : FMem 0 W := fMem_of hL
  refine (lawTrees_any o0 c0 ds0 z1 bz1 W hd0 (by omega) hk hf).mono fun e W1 ⟨v, H1, he, hp, hv⟩ => ?_
  subst he; subst hv
  have hlt := fun x hx => (hW'.lt x hx)
  exact ⟨_, rfl, post_of_below (pa := p0 ++ (p1 ++ [])) (pv := []) hW' (fun _ _ _ => trodAll_cons_mk (shut_bool Tryd.underlying4 _) trodAll_mk0)
    (fun sp hsp => (trodAll_cons_mk (WideElems.Trod_stays laidOut (by kernel_rfl) (of_decide_eq_true (by kernel_rfl)) h0 (fun x hx => hp.below.same (by simpa using hlt x (by simp [hx]))) (fun x hx => hsp x (by simp [hx]))) (trodAll_cons_mk (WideElems.Trod_stays laidOut (by kernel_rfl) (of_decide_eq_true (by kernel_rfl)) h1 (fun x hx => hp.below.same (by simpa using hlt x (by simp [hx]))) (fun x hx => hsp x (by simp [hx]))) trodAll_mk0))) (fun _ _ => rfl) (by simp) hp.below⟩

theorem laid_met (os : Os) : laidMet Tryd.prog Rows.merkleTreesRow.laid ((laidWorld os #[.slice none 0 0, .int .i64 0]).forCall (fun _ _ => 0) ⟨#[], #[.slice none 0 0, .int .i64 0], []⟩).memory :=
  laidMet_of_run' 8 (by kernel_rfl) (by kernel_rfl)
theorem reads (os : Os) {H : Type} (enc : TypeId × Value → H) : ∃ places, DataW.whole enc Tryd.prog ((laidWorld os #[.slice none 0 0, .int .i64 0]).forCall (fun _ _ => 0) ⟨#[], #[.slice none 0 0, .int .i64 0], []⟩).memory Tryd.f4.params.toList Rows.merkleTreesSpec.vars false (#[.slice none 0 0, .int .i64 0] : Array Value).toList 8 = some ([.nil, .lit (.int .i64 0)], [], places) :=
  ⟨[], by kernel_rfl⟩
theorem lifted (os : Os) (started : os.Started) (H : Type) (enc : TypeId × Value → H) (F : Stop.Interp) :
    ReturnsInHanded {} Tryd.checked os 4 .any ((OpenSpec.ofChange Rows.merkleTreesSpec).preRow enc Tryd.prog Tryd.f4 Rows.merkleTreesRow.domain false Rows.merkleTreesRow.laid) (((OpenSpec.ofChange Rows.merkleTreesSpec).at F).post enc Tryd.prog Tryd.f4 false true false false) := by
  obtain ⟨places, hx⟩ := reads os enc
  refine returnsInHanded_of_row (C := Tryd.checked) (s := (OpenSpec.ofChange Rows.merkleTreesSpec)) own started (by kernel_rfl) Tryd.func4
    (witness_row_at (enc := enc) (C := Tryd.checked) false (laidWorld os #[.slice none 0 0, .int .i64 0]) #[.slice none 0 0, .int .i64 0] rfl (by kernel_rfl) (by kernel_rfl) (by kernel_rfl)
      (OpenSpec.preRow_of_cond 8 hx (by kernel_rfl) (fun k hk => by cases hk) (by kernel_rfl) (laid_met os))) ?_
  intro W base args ds gs before hval hW _ _ hR hL _ _
  exact contract H enc W base args ds gs before hval hW hL hR
theorem said : Rows.MerkleTreesSaid :=
  OpenClaim.holds_of_cond 4 Tryd.f4 rfl rfl rfl rfl rfl rfl rfl ⟨rfl, rfl, rfl, rfl, rfl⟩ rfl rfl rfl rfl rfl (by kernel_rfl) Tryd.func4 (by kernel_rfl)
    (of_decide_eq_true (by kernel_rfl)) (by unfold Func.isWrapper; first | (rw [if_pos (by decide +kernel)]; kernel_rfl) | (rw [if_neg (by decide +kernel)]; exact ⟨rfl, rfl⟩))
    (fun os started H enc _ F => by rw [OpenClaim.pre_eq_preRow]; exact lifted os started H enc F)
theorem plain (f : FuncId) (fn : Func) (hf : Tryd.pinned.checked.prog.funcNamed "suffrage/suffragelaw28.MerkleTrees" = some f) (hfn : Tryd.pinned.checked.prog.funcs[f]? = some fn) :
    false = Tryd.pinned.checked.prog.looks [] ∧ ∀ (j : Nat) t, fn.params[j]? = some t → Tryd.pinned.checked.prog.wantsStandIn t = false := by
  obtain rfl : f = 4 := Option.some.inj ((show Tryd.prog.funcNamed "suffrage/suffragelaw28.MerkleTrees" = some 4 by kernel_rfl).symm.trans hf) |>.symm
  obtain rfl : fn = Tryd.f4 := (Option.some.inj (Tryd.func4.symm.trans hfn)).symm
  refine ⟨by kernel_rfl, fun j t ht => ?_⟩
  rw [Tryd.params4] at ht
  have hs3 : Tryd.prog.wantsStandIn 3 = false := by kernel_rfl
  have hs23 : Tryd.prog.wantsStandIn 23 = false := by kernel_rfl
  have hm := Array.mem_of_getElem? ht
  simp only [List.mem_toArray, List.mem_cons, List.not_mem_nil, or_false] at hm
  rcases hm with rfl | rfl <;> assumption
theorem card : Rows.MerkleTreesCardSaid :=
  Claim7.holds_tied_plain_at .later [] _ _ _ _ said (fun _ h => by cases h) (by kernel_rfl) (fun _ h => by cases h) merkleTrees_row_tie rfl ⟨rfl, rfl⟩ (by kernel_rfl) rfl plain (by kernel_rfl)
end Go.Proofs.YtebinlinhmohbaaDoor.merkleTrees
