/-
  Rows of turns (four cells each) and a pair of digests as a struct.
-/
import Derived.Test.YtimegpilihfghaaDoorDown
import Derived.Test.YtimegpilihfghaaDoorPair
namespace Go.Proofs.YtimegpilihfghaaDoor
open Go Go.RowKit

def tcl (t : Tn) : List Value := [.int .i64 (t.fm : Int), .int .i64 (t.n : Int), .int .i64 (t.k : Int), .bool t.rt]
def ft (ts : List Tn) : List Value := ts.flatMap tcl
theorem ft_append (a b : List Tn) : ft (a ++ b) = ft a ++ ft b := by simp [ft]
theorem ft_length : ∀ ts : List Tn, (ft ts).length = ts.length * 4
  | [] => rfl
  | t :: ts => by
    show (tcl t ++ ft ts).length = _
    rw [List.length_append, ft_length ts, List.length_cons]
    show 4 + ts.length * 4 = _
    omega
theorem ft_one (ts : List Tn) : ∀ u ∈ ft ts, u.oneCell' = true := by
  intro u hu
  obtain ⟨t, _, ht⟩ := List.mem_flatMap.1 hu
  simp only [tcl, List.mem_cons, List.not_mem_nil, or_false] at ht
  rcases ht with rfl | rfl | rfl | rfl <;> rfl
theorem ft_get : ∀ (ts : List Tn) (k : Nat) (t : Tn), ts[k]? = some t → ((ft ts).drop (k * 4)).take 4 = tcl t
  | [], k, t, h => by simp at h
  | x :: ts, 0, t, h => by
    simp only [List.getElem?_cons_zero, Option.some.injEq] at h
    subst h
    rfl
  | x :: ts, k + 1, t, h => by
    rw [List.getElem?_cons_succ] at h
    have e : (k + 1) * 4 = 4 + k * 4 := by omega
    rw [e, ← List.drop_drop]
    exact ft_get ts k t h
theorem Mem.atT {w : World} {a : Addr} {ts : List Tn} (h : Mem w a (ft ts)) {k : Nat} {t : Tn} (hk : ts[k]? = some t) : Mem w (a.add (k * 4)) (tcl t) := by
  have := h.cut (k * 4) 4
  rwa [ft_get ts k t hk] at this
theorem Row.rdT {c : Cx} {H : Blocks} {ts : List Tn} {k : Nat} {q : Row} {e : TypeId} {t : Tn} (h : Row.ok 4 ts.length (ft ts) (some q)) (hm : (q.g, Obj.cells q.cs e (0, 0)) ∈ H) (hk : ts[k]? = some t) :
    Rds c H ((⟨q.g, 0, none⟩ : Addr).add (k * 4)) (tcl t) := fun w hw => by
  obtain ⟨oa, cap, e1, _, hC⟩ := Row.vw (e := e) h
  rw [Row.v] at e1
  injection e1 with e1 _ _
  subst e1
  have hc := hC w hw (fun p hp => by simp only [Row.b, List.mem_singleton] at hp; subst hp; exact hm)
  exact Mem.atT (hc.mem _ rfl) hk
theorem down_ok : ∀ (f m n fm : Nat), n ≤ f → 1 ≤ m → m ≤ n → ∀ t ∈ downW m n fm, fm ≤ t.fm ∧ t.fm + t.n ≤ fm + n ∧ 1 ≤ t.k ∧ t.k < t.n
  | 0, m, n, fm, hf, h1, hm => by omega
  | f + 1, m, n, fm, hf, h1, hm => by
    intro t ht
    by_cases he : m = n
    · rw [(down_top (fm := fm) (fr := true) he).1] at ht; simp at ht
    · have h2 : 2 ≤ n := by omega
      have hb := bel_lt h2
      have hp := bel_pos n
      by_cases hk : m ≤ bel n
      · rw [(down_left (fm := fm) (fr := true) h1 (by omega) hk).1] at ht
        rcases List.mem_cons.1 ht with rfl | ht
        · exact ⟨Nat.le_refl _, Nat.le_refl _, hp, hb⟩
        · have := down_ok f m (bel n) fm (by omega) h1 hk t ht
          omega
      · rw [(down_right (fm := fm) (fr := true) h1 (by omega) hk).1] at ht
        rcases List.mem_cons.1 ht with rfl | ht
        · exact ⟨Nat.le_refl _, Nat.le_refl _, hp, hb⟩
        · have := down_ok f (m - bel n) (n - bel n) (fm + bel n) (by omega) (by omega) (by omega) t ht
          omega
section
variable {c : Cx} {σ : Slots} {H : Blocks} {ty : TypeId} {pos : String} {af : Array Edge} {gd : Option (Nat × Bool)} {dst : Option Nat}
/-- A struct of two digests. -/
theorem Ev.buS {T : TypeId} {fs : Array Field} {x y : Operand} {a b : Dig} {z : Value} (hx : ev σ x = some (.agg (arr8 a.1))) (hy : ev σ y = some (.agg (arr8 b.1))) (hu : c.P.underlying T = some (.struct fs))
    (hpl : ∀ w, (fs.mapM fun f => (do pure (f.offset, ← sizeOf f.type) : Sem (Nat × Nat))).run c.P w = .ok #[(0, 32), (32, 32)] w)
    (hz : ∀ w, (zeroValue T).run c.P w = .ok z w) (hzs : 2 * 32 = z.cells.size) : Ev c σ H ⟨dst, .build T #[(0, x), (1, y)], ty, pos, af, gd⟩ (.agg (fp [(a, b)]).toArray) := by
  refine Ev.build (parts := [(0, x), (1, y)]) (vs := [(0, .agg (arr8 a.1)), (1, .agg (arr8 b.1))]) ?_ ?_
  · intro A hf
    simp [hf.ev hx, hf.ev hy]
  · intro w
    have hf := fill_all (s := 32) (n := 2) (vs := [.agg (arr8 a.1), .agg (arr8 b.1)]) (cs := z.cells) (by decide) (fun v hv => by
      simp only [List.mem_cons, List.not_mem_nil, or_false] at hv
      rcases hv with rfl | rfl <;> exact dig_size _) rfl hzs
    have hg : Instr.fill ((#[(0, 32), (32, 32)] : Array (Nat × Nat))[·]?) z.cells [(0, .agg (arr8 a.1)), (1, .agg (arr8 b.1))] = some (fp [(a, b)]).toArray := hf
    simp only [Instr.build, Sem.run_bind, hz w, Result.andThen_ok, run_underlying hu, hpl w]
    rw [hg]
    rfl
end
theorem Rds.half0 {c : Cx} {H : Blocks} {b : Nat} {p : Dig × Dig} {t : TypeId} (hm : (b, Obj.cells (fp [p]).toArray t (0, 0)) ∈ H) : Rds c H ⟨b, 0, none⟩ (p.1.1.map u8) :=
  fun w hw => by
    have h1 := Mem.pairL (ps := [p]) (k := 0) (Mem.own (o := 0) (l := fp [p]) hw hm (fun j v hj => by simpa using hj)) rfl
    simpa [Addr.add] using h1
theorem Rds.half1 {c : Cx} {H : Blocks} {b : Nat} {p : Dig × Dig} {t : TypeId} (hm : (b, Obj.cells (fp [p]).toArray t (0, 0)) ∈ H) : Rds c H ⟨b, 32, none⟩ (p.2.1.map u8) :=
  fun w hw => by
    have h1 := Mem.pairR (ps := [p]) (k := 0) (Mem.own (o := 0) (l := fp [p]) hw hm (fun j v hj => by simpa using hj)) rfl
    simpa [Addr.add] using h1
theorem fp1_size (p : Dig × Dig) : (fp [p]).toArray.size = 64 := by rw [List.size_toArray, fp_length]; rfl
theorem fp1_one (p : Dig × Dig) : ∀ u ∈ (fp [p]).toArray.toList, u.oneCell' = true := fun u hu => fp_one [p] u hu
section
variable {c : Cx} {σ : Slots} {H : Blocks} {ops : Array Oper}
theorem run_clo {σ : Slots} {c : Cx} {a : Act} {dst : Option Nat} {g : Nat} {f : Operand} {pre post : List Value} {xs : List Operand} {ats : Array TypeId} {vs : List Value} {ty : TypeId} {pos : String} {af : Array Edge} {gd : Option (Nat × Bool)} (hfr : Fr c.n c.ds σ a)
    (hf : ev σ f = some (.func (.func g) pre.toArray post.toArray)) (hx : evs σ xs = some vs) (hent : ∀ args w, (callFunc g args).run c.P w = .ok (.enter g args) w) (w : World) :
    (execOp a.eval { dst := dst, op := .call { callee := .value f, args := xs.toArray, argTypes := ats }, type := ty, pos := pos, after := af, guard := gd }).run c.P w = .ok (.enter g (pre ++ vs ++ post).toArray) w := by
  have e1 := hfr.ev hf
  have e2 := hfr.evs hx
  have key : execOp a.eval { dst := dst, op := .call { callee := .value f, args := xs.toArray, argTypes := ats }, type := ty, pos := pos, after := af, guard := gd } =
      (do let d ← resolve a.eval { callee := .value f, args := xs.toArray, argTypes := ats } ty; invoke d.target d.args) := rfl
  rw [key]
  simp only [resolve, e1, List.map_toArray, e2, Deferred.ofValue, Sem.run_bind, Sem.run_pure, Result.andThen_ok, invoke]
  have := hent (pre ++ vs ++ post).toArray w
  simpa using this
theorem JW.callCloV {G : Act → Prop} {d g : Nat} {f : Operand} {pre post : List Value} {xs : List Operand} {ats : Array TypeId} {ty : TypeId} {pos : String} {af : Array Edge} {gd : Option (Nat × Bool)} {vs : List Value} {v : Value} {l : List Oper}
    (hdn : Nat.blt d c.n = true) (hg : Gd ops σ gd true) (hf : ev σ f = some (.func (.func g) pre.toArray post.toArray)) (hx : evs σ xs = some vs)
    (hent : ∀ args w, (callFunc g args).run c.P w = .ok (.enter g args) w)
    (hc : ∀ w, Hp c.w0 H w → Calls c.P g (pre ++ vs ++ post).toArray w (Ret w fun v' _ => v' = v))
    (h : JW c ops ((d, v) :: σ) H l G) :
    JW c ops σ H ({ dst := some d, op := .call { callee := .value f, args := xs.toArray, argTypes := ats }, type := ty, pos := pos, after := af, guard := gd } :: l) G := fun a hfr => by
  unfold wpQuiet
  rw [if_pos (hg.wanted hfr)]
  refine ⟨v, fun w hw => ?_, h _ (hfr.put (Nat.le_of_ble_eq_true hdn) v)⟩
  unfold Oper.quietAt
  rw [run_clo hfr hf hx hent w]
  refine ⟨rfl, ?_⟩
  exact (Ret.lift hw (hc w hw)).mono fun e w' ⟨v', H', he, h1, H1, e2, hv⟩ => by
    subst hv
    subst e2
    exact ⟨he, h1.below, fun x hx => h1.blk x (List.mem_append_right _ hx), (List.pairwise_append.1 h1.apart).2.1⟩
end
end Go.Proofs.YtimegpilihfghaaDoor
