/-
  Lists of digests in memory; parts of several cells; fields; a range whose variable is laid anew in each round.
-/
import Derived.Test.YtebinlinhmohbaaDoorTwin
import Derived.Test.YtebinlinhmohbaaDoorTree
namespace Go.Proofs.YtebinlinhmohbaaDoor
open Go Go.RowKit

theorem add_add' (a : Addr) (k j : Nat) : (a.add k).add j = a.add (k + j) := by
  unfold Addr.add
  by_cases h0 : k = 0
  · subst h0; simp
  · by_cases h1 : j = 0
    · subst h1; simp
    · have h2 : ¬ k + j = 0 := by omega
      simp [h0, h1, Nat.add_assoc]
def fl (ds : List Dig) : List Value := ds.flatMap fun d => d.1.map u8
theorem fl_nil : fl [] = [] := rfl
theorem fl_cons (d : Dig) (ds : List Dig) : fl (d :: ds) = d.1.map u8 ++ fl ds := rfl
theorem fl_append (a b : List Dig) : fl (a ++ b) = fl a ++ fl b := by simp [fl]
theorem fl_length (ds : List Dig) : (fl ds).length = ds.length * 32 := by
  induction ds with
  | nil => rfl
  | cons d ds ih => rw [fl_cons, List.length_append, ih, List.length_map, d.2, List.length_cons]; omega
theorem fl_one (ds : List Dig) : ∀ u ∈ fl ds, u.oneCell' = true := by
  intro u hu
  obtain ⟨d, _, hd⟩ := List.mem_flatMap.1 hu
  exact u8s_one d.1 u hd
theorem fl_drop : ∀ (ds : List Dig) (k : Nat), (fl ds).drop (k * 32) = fl (ds.drop k)
  | ds, 0 => by simp
  | [], k + 1 => by simp [fl]
  | d :: ds, k + 1 => by
    rw [fl_cons, List.drop_append, List.length_map, d.2, List.drop_of_length_le (by rw [List.length_map, d.2]; omega), List.nil_append, show (k + 1) * 32 - 32 = k * 32 by omega, fl_drop ds k]
    rfl
theorem fl_take : ∀ (ds : List Dig) (k : Nat), (fl ds).take (k * 32) = fl (ds.take k)
  | ds, 0 => by simp [fl]
  | [], k + 1 => by simp [fl]
  | d :: ds, k + 1 => by
    rw [fl_cons, List.take_append, List.length_map, d.2, List.take_of_length_le (by rw [List.length_map, d.2]; omega), show (k + 1) * 32 - 32 = k * 32 by omega, fl_take ds k]
    rfl
theorem fl_get {ds : List Dig} {k : Nat} {d : Dig} (h : ds[k]? = some d) : ((fl ds).drop (k * 32)).take 32 = d.1.map u8 := by
  rw [fl_drop]
  obtain ⟨hk, rfl⟩ := List.getElem?_eq_some_iff.1 h
  rw [List.drop_eq_getElem_cons hk, fl_cons, List.take_left' (by rw [List.length_map, ds[k].2])]
theorem dig_size (d : Dig) : (arr8 d.1).size = 32 := by rw [arr8_size, d.2]
theorem fl_single (d : Dig) : (fl [d]).toArray = arr8 d.1 := by simp [fl, arr8]
theorem Mem.atD {w : World} {a : Addr} {ds : List Dig} (h : Mem w a (fl ds)) {k : Nat} {d : Dig} (hk : ds[k]? = some d) : Mem w (a.add (k * 32)) (d.1.map u8) := by
  have := h.cut (k * 32) 32
  rwa [fl_get hk] at this

/-- A slice of digests. -/
abbrev Dl (w : World) (oa : Option Addr) (cap : Nat) (ds : List Dig) : Prop := Cs w oa ds.length cap (fl ds)
theorem sub3_cut {w : World} {oa : Option Addr} {cap : Nat} {ds : List Dig} (h : Dl w oa cap ds) {l k m : Nat} (hlk : l ≤ k) (hk : k ≤ ds.length) (hkm : k ≤ m) (hm : m ≤ cap) :
    ∃ ob, sub3 oa l k m 32 = .slice ob ((ds.drop l).take (k - l)).length (m - l) ∧ ∀ w', Dl w' oa cap ds → Dl w' ob (m - l) ((ds.drop l).take (k - l)) := by
  have hl : ((ds.drop l).take (k - l)).length = k - l := by rw [List.length_take, List.length_drop]; omega
  have htop := h.top
  refine ⟨if m = l then oa else oa.map (·.add (l * 32)), by rw [hl]; rfl, fun w' h' => ⟨by rw [hl]; omega, by omega, fun h0 => ?_, fun b hb => ?_⟩⟩
  · split at h0
    · have := h.empty h0
      omega
    · have : oa = none := by cases oa <;> simp_all
      have := h.empty this
      omega
  · split at hb
    · have : (ds.drop l).take (k - l) = [] := List.eq_nil_of_length_eq_zero (by omega)
      rw [this]
      intro j v hj
      simp [fl] at hj
    · cases oa with
      | none => simp at hb
      | some a =>
        obtain rfl := Option.some.inj hb
        have := (h'.mem a rfl).cut (l * 32) ((k - l) * 32)
        rwa [fl_drop, fl_take] at this

/-- Where a slice of digests lies: as found, or in a row of the call's own. -/
def Lv (w0 : World) (e : TypeId) (oa : Option Addr) (cap : Nat) (ds : List Dig) (O : Blocks) : Prop :=
  Dl w0 oa cap ds ∨ ∃ r : Row, oa = some ⟨r.g, 0, none⟩ ∧ cap = r.cap ∧ (r.g, Obj.cells r.cs e (0, 0)) ∈ O ∧ Row.ok 32 ds.length (fl ds) (some r)
theorem Lv.cs {w0 w : World} {e : TypeId} {oa : Option Addr} {cap : Nat} {ds : List Dig} {O H : Blocks} (h : Lv w0 e oa cap ds O) (hw : Hp w0 H w) (hm : ∀ p ∈ O, p ∈ H) : Dl w oa cap ds := by
  rcases h with h | ⟨r, rfl, rfl, hr, hok⟩
  · exact h.old hw
  · obtain ⟨oa, cap, e1, _, hC⟩ := Row.vw (e := e) hok
    rw [Row.v] at e1
    obtain ⟨rfl, _, rfl⟩ := Value.slice.inj e1
    exact hC w hw (fun p hp => by
      have : p = (r.g, Obj.cells r.cs e (0, 0)) := by simpa [Row.b] using hp
      rw [this]; exact hm _ hr)
theorem Lv.mono {w0 : World} {e : TypeId} {oa : Option Addr} {cap : Nat} {ds : List Dig} {O O' : Blocks} (h : Lv w0 e oa cap ds O) (hm : ∀ p ∈ O, p ∈ O') : Lv w0 e oa cap ds O' := by
  rcases h with h | ⟨r, h1, h2, h3, h4⟩
  · exact .inl h
  · exact .inr ⟨r, h1, h2, hm _ h3, h4⟩
theorem Lv.row {w0 : World} {e : TypeId} {ds : List Dig} {r : Row} (h : Row.ok 32 ds.length (fl ds) (some r)) : Lv w0 e (some ⟨r.g, 0, none⟩) r.cap ds (Row.b e (some r)) := .inr ⟨r, rfl, rfl, by simp [Row.b], h⟩
theorem Lv.rd {c : Cx} {H : Blocks} {e : TypeId} {a : Addr} {cap : Nat} {ds : List Dig} {O : Blocks} (h : Lv c.w0 e (some a) cap ds O) (hm : ∀ p ∈ O, p ∈ H) {k : Nat} {d : Dig} (hk : ds[k]? = some d) : Rds c H (a.add (k * 32)) (d.1.map u8) :=
  fun _ hw => ((h.cs hw hm).mem a rfl).atD hk
theorem Lv.get_some {w0 : World} {e : TypeId} {oa : Option Addr} {cap : Nat} {ds : List Dig} {O : Blocks} (h : Lv w0 e oa cap ds O) (hl : 0 < ds.length) : ∃ a, oa = some a := by
  rcases h with h | ⟨r, rfl, _⟩
  · exact Cs.get_some h hl
  · exact ⟨_, rfl⟩
theorem Lv.le {w0 : World} {e : TypeId} {oa : Option Addr} {cap : Nat} {ds : List Dig} {O : Blocks} (h : Lv w0 e oa cap ds O) : ds.length ≤ cap := by
  rcases h with h | ⟨r, _, rfl, _, h⟩
  · exact h.le
  · exact h.2.1

/-! ### Parts of several cells -/
def setR (cs : Array Value) (off : Nat) : List Value → Array Value
  | [] => cs
  | v :: vs => setR (cs.setIfInBounds off v) (off + 1) vs
theorem setR_fold (vs : List Value) : ∀ (cs : Array Value) (off n : Nat), (vs.zipIdx n).foldl (fun cs (c, j) => cs.setIfInBounds (off + j) c) cs = setR cs (off + n) vs := by
  induction vs with
  | nil => intro cs off n; rfl
  | cons v vs ih =>
    intro cs off n
    rw [List.zipIdx_cons, List.foldl_cons, ih]
    rfl
theorem setR_toList (vs : List Value) : ∀ (cs : Array Value) (off : Nat), off + vs.length ≤ cs.size → (setR cs off vs).toList = cs.toList.take off ++ vs ++ cs.toList.drop (off + vs.length) := by
  induction vs with
  | nil => intro cs off _; simp [setR]
  | cons v vs ih =>
    intro cs off h
    simp only [List.length_cons] at h
    rw [setR, ih _ _ (by rw [Array.size_setIfInBounds]; omega), Array.toList_setIfInBounds]
    have hl : off < cs.toList.length := by rw [Array.length_toList]; omega
    rw [List.take_add_one, List.take_set_of_le (Nat.le_refl _), List.getElem?_set_self hl, List.drop_set_of_lt (by omega)]
    simp only [Option.toList_some, List.append_assoc, List.cons_append, List.nil_append, List.length_cons]
    rw [show off + 1 + vs.length = off + (vs.length + 1) by omega]
theorem fill_seq {s : Nat} (hs : 0 < s) : ∀ (vs : List Value) (o : Nat) (cs : Array Value), (∀ v ∈ vs, v.cells.size = s) → (o + vs.length) * s ≤ cs.size →
    ∃ cs', Instr.fill (fun i => some (i * s, s)) cs ((List.range' o vs.length).zip vs) = some cs' ∧ cs'.toList = cs.toList.take (o * s) ++ vs.flatMap (·.cells.toList) ++ cs.toList.drop ((o + vs.length) * s)
  | [], o, cs, _, _ => ⟨cs, rfl, by simp⟩
  | v :: vs, o, cs, hv, hl => by
    have h1 := hv v (List.mem_cons_self ..)
    have h2 : v.cells.toList.length = s := by rw [Array.length_toList, h1]
    rw [List.length_cons] at hl
    have e1 : (o + (vs.length + 1)) * s = (o + 1 + vs.length) * s := by congr 1; omega
    have e2 : (o + 1) * s = o * s + s := by rw [Nat.add_mul]; omega
    have e3 : (o + 1) * s ≤ (o + 1 + vs.length) * s := Nat.mul_le_mul_right _ (by omega)
    have hfold : v.cells.zipIdx.foldl (fun cs (c, j) => cs.setIfInBounds (o * s + j) c) cs = setR cs (o * s) v.cells.toList := by
      have := setR_fold v.cells.toList cs (o * s) 0
      rw [Nat.add_zero] at this
      rw [← this, ← Array.foldl_toList, Array.toList_zipIdx]
    have hset := setR_toList v.cells.toList cs (o * s) (by rw [h2]; omega)
    have hsz : (setR cs (o * s) v.cells.toList).size = cs.size := by
      rw [← Array.length_toList, hset]
      simp only [List.length_append, List.length_take, List.length_drop, Array.length_toList, h1]
      omega
    obtain ⟨cs', h3, h4⟩ := fill_seq hs vs (o + 1) (setR cs (o * s) v.cells.toList) (fun u hu => hv u (List.mem_cons_of_mem _ hu)) (by rw [hsz]; omega)
    refine ⟨cs', ?_, ?_⟩
    · rw [List.length_cons, List.range'_succ, List.zip_cons_cons, Instr.fill]
      simp only [h1]
      rw [if_neg (by simp; omega), hfold]
      exact h3
    · have e4 : o * s ≤ cs.size := by omega
      have hlen : (cs.toList.take (o * s) ++ v.cells.toList).length = (o + 1) * s := by
        rw [List.length_append, List.length_take, Array.length_toList, h2, e2, Nat.min_eq_left e4]
      rw [h4, hset, h2, List.take_left' hlen, List.drop_append, List.drop_of_length_le (by rw [hlen]; exact e3), hlen, List.drop_drop, List.nil_append, List.flatMap_cons, List.length_cons, e1]
      have e5 : o * s + s + ((o + 1 + vs.length) * s - (o + 1) * s) = (o + 1 + vs.length) * s := by omega
      rw [e5]
      simp only [List.append_assoc]
theorem fill_all {s n : Nat} (hs : 0 < s) {vs : List Value} {cs : Array Value} (hv : ∀ v ∈ vs, v.cells.size = s) (hn : vs.length = n) (hl : n * s = cs.size) :
    Instr.fill (fun i => some (i * s, s)) cs ((List.range n).zip vs) = some (vs.flatMap (·.cells.toList)).toArray := by
  subst hn
  obtain ⟨cs', h1, h2⟩ := fill_seq hs vs 0 cs hv (by rw [Nat.zero_add]; omega)
  rw [← List.range_eq_range'] at h1
  rw [h1]
  congr 1
  apply Array.toList_inj.1
  rw [h2]
  simp [hl]

section
variable {c : Cx} {σ : Slots} {H : Blocks} {Q : Post1} {ty : TypeId} {pos : String} {af : Array Edge} {gd : Option (Nat × Bool)} {dst : Option Nat}
theorem En.bsA {T e : TypeId} {n s : Nat} {parts : List (Nat × Operand)} {vs : List Value} {z : Value} (hx : evs σ (parts.map (·.2)) = some vs) (hp : parts.map (·.1) = List.range n) (hT : c.P.underlying T = some (.slice e)) (hs : ∀ w, (sizeOf e).run c.P w = .ok s w)
    (hz : ∀ w, (zeroValue e).run c.P w = .ok z w) (hv : ∀ v ∈ vs, v.cells.size = s) (hs0 : 0 < s) (hn : n * s ≤ 16777216) (hn0 : 0 < n) :
    En c σ H ⟨dst, .buildSlice T n parts.toArray, ty, pos, af, gd⟩ (fun b => .slice (some ⟨b, 0, none⟩) n n) (.cells (vs.flatMap (·.cells.toList)).toArray e (0, 0)) := by
  refine En.buildSlice (vs := (List.range n).zip vs) ?_ ?_
  · intro a hf
    rw [parts_zip, hf.evs hx, hp]
  · intro w
    have hl : vs.length = n := by
      have h1 := congrArg List.length hp
      rw [List.length_map, List.length_range] at h1
      have h2 : ∀ (xs : List Operand) (us : List Value), evs σ xs = some us → us.length = xs.length := by
        intro xs
        induction xs with
        | nil => intro us h; simp only [evs, Option.some.injEq] at h; subst h; rfl
        | cons x xs ih =>
          intro us h
          simp only [evs] at h
          split at h
          · rename_i v ws h3 h4
            simp only [Option.some.injEq] at h
            subst h
            simp [ih ws h4]
          · cases h
      rw [h2 _ _ hx, List.length_map, h1]
    have hns : 0 < n * s := Nat.mul_pos hn0 hs0
    have hf := fill_all hs0 (cs := (Array.range (n * s)).map (z.cells[· % z.cells.size]!)) hv hl (by simp)
    have hgt : ¬ 2 ^ 24 < n * s := by omega
    have hne : ¬ n * s = 0 := by omega
    simp only [Instr.buildSlice, Sem.run_bind, run_underlying hT, Result.andThen_ok, hs w]
    rw [if_neg hgt, if_neg hne]
    all_goals simp [newRow, hz w, hf]
/-- A variable of one cell written over. -/
theorem Es.store0 {T t : TypeId} {x y : Operand} {v v0 : Value} {b : Nat} {H' : Blocks} (hx : ev σ x = some (.pointer (some ⟨b, 0, none⟩))) (hy : ev σ y = some v) (hs : ∀ w, (sizeOf T).run c.P w = .ok 1 w)
    (hv : v.cells = #[v]) (h1 : v.oneCell' = true) (hu : Upd b (.cells #[v0] t (0, 0)) (.cells #[v] t (0, 0)) H H') : Es c σ H ⟨dst, .store T x y, ty, pos, af, gd⟩ H' :=
  Es.store1 hx hy hs hv h1 (cs := #[v0]) hu (Nat.zero_lt_one)
/-- A slice written out of digests. -/
theorem En.bsD {T e : TypeId} {n : Nat} {parts : List (Nat × Operand)} {ds : List Dig} {z : Value} (hx : evs σ (parts.map (·.2)) = some (ds.map fun d => .agg (arr8 d.1))) (hp : parts.map (·.1) = List.range n) (hT : c.P.underlying T = some (.slice e)) (hs : ∀ w, (sizeOf e).run c.P w = .ok 32 w)
    (hz : ∀ w, (zeroValue e).run c.P w = .ok z w) (hn : n * 32 ≤ 16777216) (hn0 : 0 < n) :
    En c σ H ⟨dst, .buildSlice T n parts.toArray, ty, pos, af, gd⟩ (fun b => .slice (some ⟨b, 0, none⟩) n n) (.cells (fl ds).toArray e (0, 0)) := by
  have h := En.bsA (c := c) (H := H) (dst := dst) (ty := ty) (pos := pos) (af := af) (gd := gd) hx hp hT hs hz (fun v hv => by
    obtain ⟨d, _, rfl⟩ := List.mem_map.1 hv
    exact dig_size d) (by decide) hn hn0
  have e1 : (ds.map fun d => Value.agg (arr8 d.1)).flatMap (·.cells.toList) = fl ds := by
    rw [List.flatMap_map]
    rfl
  rw [e1] at h
  exact h
theorem En.bs1D {T e : TypeId} {x : Operand} {d : Dig} {z : Value} (hx : ev σ x = some (.agg (arr8 d.1))) (hT : c.P.underlying T = some (.slice e)) (hs : ∀ w, (sizeOf e).run c.P w = .ok 32 w)
    (hz : ∀ w, (zeroValue e).run c.P w = .ok z w) :
    En c σ H ⟨dst, .buildSlice T 1 #[(0, x)], ty, pos, af, gd⟩ (fun b => .slice (some ⟨b, 0, none⟩) 1 1) (.cells (fl [d]).toArray e (0, 0)) :=
  En.bsD (parts := [(0, x)]) (ds := [d]) (by simp [evs, hx]) rfl hT hs hz (by decide) (by decide)
theorem Ev.loadD {T : TypeId} {x : Operand} {a : Addr} {D : Dig} {d : TypeDesc} (hx : ev σ x = some (.pointer (some a))) (hu : c.P.underlying T = some d)
    (hd : aggB d = true) (hs : ∀ w, (sizeOf T).run c.P w = .ok 32 w) (hr : Rds c H a (D.1.map u8)) : Ev c σ H ⟨dst, .load T x, ty, pos, af, gd⟩ (.agg (arr8 D.1)) :=
  Ev.loadA hx hu hd hs hr (by rw [List.length_map, D.2])
theorem Ev.fld {T : TypeId} {x : Operand} {b o i : Nat} (off : Nat) (hx : ev σ x = some (.pointer (some ⟨b, o, none⟩))) (h : ∀ a w, (Instr.fieldAt T (.pointer (some a)) i).run c.P w = .ok (.pointer (some (a.add off))) w) :
    Ev c σ H ⟨dst, .fieldAddr T x i, ty, pos, af, gd⟩ (.pointer (some ⟨b, o + off, none⟩)) := fun A w hf _ => by
  have e : execOp A.eval ⟨dst, .fieldAddr T x i, ty, pos, af, gd⟩ = (do pure (Next.value (← Instr.fieldAt T (A.eval x) i))) := rfl
  rw [e, hf.ev hx]
  simp only [Sem.run_bind, h, Result.andThen_ok, Sem.run_pure, add_lit]
theorem Ev.field {T : TypeId} {x : Operand} {cs : Array Value} {i : Nat} {v : Value} (hx : ev σ x = some (.agg cs)) (h : ∀ w, (Instr.field T (.agg cs) i).run c.P w = .ok v w) :
    Ev c σ H ⟨dst, .field T x i, ty, pos, af, gd⟩ v := fun A w hf _ => by
  have e : execOp A.eval ⟨dst, .field T x i, ty, pos, af, gd⟩ = (do pure (Next.value (← Instr.field T (A.eval x) i))) := rfl
  rw [e, hf.ev hx]
  simp only [Sem.run_bind, h, Result.andThen_ok, Sem.run_pure]
theorem xor1_i64 {P : Program} {T : TypeId} {i : Nat} (h : i < 4611686018427387904) : Bin P .xor T (.int .i64 (i : Int)) (.int .i64 1) (.int .i64 (oth i : Int)) := Bin.int fun w => by
  have e1 : BitVec.ofInt 64 (i : Int) = BitVec.ofNat 64 i := BitVec.ofInt_natCast ..
  have e3 : (BitVec.ofInt 64 (i : Int) ^^^ BitVec.ofInt 64 1).toNat = oth i := by
    have e2 : BitVec.ofInt 64 1 = BitVec.ofNat 64 1 := rfl
    rw [e1, e2, BitVec.toNat_xor, BitVec.toNat_ofNat, BitVec.toNat_ofNat, Nat.mod_eq_of_lt (by omega), Nat.mod_eq_of_lt (by omega)]
    have h1 := Nat.xor_div_two (a := i) (b := 1)
    have h2 : (i ^^^ 1) % 2 = 1 ↔ ¬ i % 2 = 1 := by
      rw [Nat.mod_two_eq_one_iff_testBit_zero, Nat.testBit_xor, Nat.mod_two_eq_one_iff_testBit_zero]
      cases i.testBit 0 <;> decide
    unfold oth
    rw [show (1 : Nat) / 2 = 0 from rfl, Nat.xor_zero] at h1
    split <;> omega
  have e4 : IntKind.i64.wrap (((BitVec.ofInt 64 (i : Int) ^^^ BitVec.ofInt 64 1).toNat : Nat) : Int) = oth i := by
    rw [e3]
    exact IntWalk.i64_in _ (by unfold oth; split <;> omega)
  simp only [binOp, Op.intBits]
  exact congrArg (fun n => Result.ok (Value.int IntKind.i64 n) w) e4
end
/-! ### Taking an operation first, inside a round too (after Derived/OrdersIn.lean; no operation defers) -/
section
variable {P : Program} {ops : Array Oper} {md : Region.Mode} {Q : Post1} {F : Fence} {n : Nat}
theorem yieldsR {i : Nat} {o : Oper} {v : Value} {a : Act} (hnd : notDefer o = true) (hi : ops[i]? = some o) (hy : YieldsFenced P ops o v a)
    {K : Act → World → Prop} {w : World} (h : K (a.put o.dst v) w) : wpOpIn F n P ops Q i K a w := by
  unfold Go.wpOpIn
  simp only [hi]
  have hab : ∀ f, o.about P w a.eval = some f → F.fn f := fun f hf => by rw [hy.2 w] at hf; cases hf
  rcases hy.1 with ⟨hw, hv⟩ | ⟨hw, rfl⟩
  · simp only [hw, if_true, Oper.wpIn]
    refine ⟨hab, ?_⟩
    rw [Oper.semAt_eq _ _ _ (notDefer_ne hnd), hv w]
    exact h
  · simp only [hw, Bool.false_eq_true, if_false]; exact ⟨hab, h⟩
theorem wpOpIn_putR {j : Nat} {oi oj : Oper} {v : Value} (hnd : notDefer oj = true) (hj : ops[j]? = some oj) (hap : oi.apart ops oj = true)
    (hsi : ∀ cs b, oi.op ≠ .select cs b) (hsj : ∀ cs b, oj.op ≠ .select cs b)
    (hQ : ∀ c a w, Q (.panic c) (a.put oi.dst v) w → Q (.panic c) a w) {K : Act → World → Prop} {a : Act} {w : World}
    (hy : YieldsFenced P ops oi v a) (h : wpOpIn F n P ops Q j K (a.put oi.dst v) w) :
    wpOpIn F n P ops Q j (fun a' w' => YieldsFenced P ops oi v a' ∧ K (a'.put oi.dst v) w') a w := by
  obtain ⟨h1, h2, h3⟩ := Oper.apart_spec hap
  have keep : ∀ (a : Act), YieldsFenced P ops oi v a → ∀ u, YieldsFenced P ops oi v (a.put oj.dst u) := fun a hy u =>
    hy.of_same (execOp_put oi hsi a oj.dst u h3) (wanted_put oi a oj.dst u h3) (fun w => about_put oi w a oj.dst u h3)
  have keepD : ∀ d, YieldsFenced P ops oi v { a with defers := d :: a.defers } := fun d => hy.of_same rfl rfl (fun _ => rfl)
  unfold wpOpIn at *
  simp only [hj] at *
  rw [wanted_put oj a oi.dst v h1, about_put oj w a oi.dst v h1] at h
  split
  · rename_i hw
    simp only [hw, if_true] at h
    unfold Oper.wpIn at *
    rw [about_put oj w a oi.dst v h1] at h
    refine ⟨h.1, ?_⟩
    have h := h.2
    rw [Oper.semAt_eq _ _ _ (notDefer_ne hnd), execOp_put oj hsj a oi.dst v h1] at h
    rw [Oper.semAt_eq _ _ _ (notDefer_ne hnd)]
    generalize (execOp a.eval oj).run P w = r at *
    cases r with
    | ok x w' =>
      cases x <;> simp only [Oper.uponIn] at h ⊢
      case value u => exact ⟨keep a hy u, by rw [← Act.put_comm a v u h2]; exact h⟩
      case skip => exact ⟨keep a hy _, by rw [← Act.put_comm a v undef h2]; exact h⟩
      case defer d =>
        refine ⟨keep _ (keepD d) _, ?_⟩
        rw [← Act.put_comm _ v undef h2, ← Act.put_defers]
        exact h
      case enter f args =>
        refine ⟨h.1, CallsIn.mono h.2 fun e w'' he => ?_⟩
        cases e with
        | returned u => exact ⟨keep a hy u, by rw [← Act.put_comm a v u h2]; exact he⟩
        | panicked c => exact hQ _ _ _ he
        | outgrown => exact he
      case row row args => exact ⟨h.1, RowsIn.mono h.2 fun u w'' he => ⟨keep a hy u, by rw [← Act.put_comm a v u h2]; exact he⟩⟩
      case round l f tmps assign body =>
        refine ⟨h.1, RoundIn.mono h.2 fun e w'' he => ?_⟩
        cases e with
        | returned u => exact ⟨keep a hy u, by rw [← Act.put_comm a v u h2]; exact he⟩
        | panicked c => exact hQ _ _ _ he
        | outgrown => exact he
    | halt x w' =>
      cases x <;> simp only [Oper.uponIn] at h ⊢
      case panic u => exact hQ _ _ _ h
  · rename_i hw
    simp only [hw] at h
    exact ⟨h.1, keep a hy _, by rw [← Act.put_comm a v undef h2]; exact h.2⟩
theorem wpAnyIn_firstR {i : Nat} {oi : Oper} {v : Value} (hnd : allKept ops = true) (hi : ops[i]? = some oi) (hsel : ∀ (j : Nat) (o : Oper) cs b, ops[j]? = some o → o.op ≠ .select cs b)
    (hQ : ∀ c a w, Q (.panic c) (a.put oi.dst v) w → Q (.panic c) a w) :
    ∀ (fuel : Nat) (listed : Array Bool) (a : Act) (w : World),
      (∀ j oj, ops[j]? = some oj → j ≠ i → listed.getD j true = false → (∀ e ∈ oj.after, Region.binds md e = true → e.on ≠ i) → oi.apart ops oj = true) →
      i ∈ Region.ready md ops listed → YieldsFenced P ops oi v a →
      wpAnyIn F n P md ops Q fuel (listed.setIfInBounds i true) (a.put oi.dst v) w → wpAnyIn F n P md ops Q (fuel + 1) listed a w := by
  intro fuel
  induction fuel with
  | zero =>
    intro listed a w _ hr hy H
    refine ⟨fun h => (by rw [h] at hr; cases hr), fun j hj => ?_⟩
    by_cases hji : j = i
    · subst hji; exact yieldsR (allKept_spec hnd hi) hi hy H
    · have := ready_mono hj hji
      rw [H.1] at this
      cases this
  | succ fuel ih =>
    intro listed a w hfree hr hy H
    refine ⟨fun h => (by rw [h] at hr; cases hr), fun j hj => ?_⟩
    by_cases hji : j = i
    · subst hji; exact yieldsR (allKept_spec hnd hi) hi hy H
    · have h1 := H.2 j (ready_mono hj hji)
      obtain ⟨hjun, oj, hoj, hall⟩ := mem_ready.1 hj
      have hnot : ∀ e ∈ oj.after, Region.binds md e = true → e.on ≠ i := fun e he hb heq => by
        have h1 := hall e he hb
        have h0 := (mem_ready.1 hr).1
        rw [heq] at h1
        rcases Nat.lt_or_ge i listed.size with h' | h'
        · simp [h'] at h0 h1; rw [h0] at h1; cases h1
        · simp [Array.getElem?_eq_none h'] at h1
      have h2 := wpOpIn_putR (allKept_spec hnd hoj) hoj (hfree j oj hoj hji hjun hnot) (fun cs b => hsel i oi cs b hi) (fun cs b => hsel j oj cs b hoj) hQ hy h1
      have hfree' : ∀ k ok, ops[k]? = some ok → k ≠ i → (listed.setIfInBounds j true).getD k true = false →
          (∀ e ∈ ok.after, Region.binds md e = true → e.on ≠ i) → oi.apart ops ok = true := fun k ok hk hki hun hno => by
        refine hfree k ok hk hki ?_ hno
        by_cases hjk : j = k
        · subst hjk; exact hjun
        · rw [getD_set_ne true hjk] at hun; exact hun
      refine wpOpIn_mono (fun a' w' h3 => ih (listed.setIfInBounds j true) a' w' hfree' (ready_mono hr (Ne.symm hji)) h3.1 ?_) h2
      rw [Array.setIfInBounds_comm _ _ hji]
      exact h3.2
end
theorem JA.takeR {c : Cx} {ops : Array Oper} {σ : Slots} {H : Blocks} {fuel : Nat} {listed : Array Bool} {Q : Post1} {o : Oper} (i : Nat) {d : Nat} {v : Value} (hnd : allKept ops = true) (hi : ops[i]? = some o) (hd : o.dst = some d) (hdn : Nat.blt d c.n = true) (hs : Region.noSelect ops = true) (hf : Region.free .any ops listed i = true) (hr : (Region.ready .any ops listed).contains i = true)
    (hQ : ∀ ch a w, Q (.panic ch) (a.put o.dst v) w → Q (.panic ch) a w) (hab : ∀ w (a : Act), o.about c.P w a.eval = none)
    (g : Gd ops σ o.guard true) (e : ∀ w0, Ev { c with w0 := w0 } σ [] o v) (h : JA c ops ((d, v) :: σ) H fuel (listed.setIfInBounds i true) Q) : JA c ops σ H (fuel + 1) listed Q := fun a w hf1 hw =>
  wpAnyIn_firstR (i := i) (v := v) hnd hi (Region.noSelect_spec hs) hQ fuel listed a w (Region.free_spec hi hf) (by simpa using hr) ⟨.inl ⟨g.wanted hf1, fun w' => e w' a w' hf1 (Hp.start w')⟩, fun w' => hab w' a⟩
    (h _ _ (by rw [hd]; exact hf1.put (Nat.le_of_ble_eq_true hdn) v) hw)

theorem JA.skipR {c : Cx} {ops : Array Oper} {σ : Slots} {H : Blocks} {fuel : Nat} {listed : Array Bool} {Q : Post1} {o : Oper} (i : Nat) {d : Nat} (hnd : allKept ops = true) (hi : ops[i]? = some o) (hd : o.dst = some d) (hdn : Nat.blt d c.n = true) (hs : Region.noSelect ops = true) (hf : Region.free .any ops listed i = true) (hr : (Region.ready .any ops listed).contains i = true)
    (hQ : ∀ ch a w, Q (.panic ch) (a.put o.dst undef) w → Q (.panic ch) a w) (hab : ∀ w (a : Act), o.about c.P w a.eval = none)
    (g : Gd ops σ o.guard false) (h : JA c ops ((d, undef) :: σ) H fuel (listed.setIfInBounds i true) Q) : JA c ops σ H (fuel + 1) listed Q := fun a w hf1 hw =>
  wpAnyIn_firstR (i := i) (v := undef) hnd hi (Region.noSelect_spec hs) hQ fuel listed a w (Region.free_spec hi hf) (by simpa using hr) ⟨.inr ⟨by rw [g.wanted hf1], rfl⟩, fun w' => hab w' a⟩
    (h _ _ (by rw [hd]; exact hf1.put (Nat.le_of_ble_eq_true hdn) undef) hw)
theorem JO.skip {c : Cx} {ops : Array Oper} {σ : Slots} {H : Blocks} {o : Oper} {K : Act → World → Prop} {Q : Post1} {d : Nat} (hd : o.dst = some d) (hdn : Nat.blt d c.n = true) (g : Gd ops σ o.guard false) (h : J c ((d, undef) :: σ) H K) : JO c ops σ H o K Q := fun a w hf hw => by
  rw [if_neg (by rw [g.wanted hf]; simp)]
  exact ⟨fun _ _ => trivial, h _ _ (by rw [hd]; exact hf.put (Nat.le_of_ble_eq_true hdn) _) hw⟩
/-- A guard that was itself left out. -/
theorem wantU {n : Nat} {ds : List Deferred} {ops : Array Oper} {σ : Slots} {o : Oper} {j e : Nat} {b : Bool} (h : o.guard = some (j, b)) (hd : (ops[j]?).bind (·.dst) = some e) (hb : look σ e = some undef) : ∀ a, Fr n ds σ a → Region.wanted o (yielded ops a.tmps) = false := fun a hf => by
  have := hf.get _ _ hb
  simp [Region.wanted, h, yielded, hd, this, undef]
theorem JA.skipW {c : Cx} {ops : Array Oper} {σ : Slots} {H : Blocks} {fuel : Nat} {listed : Array Bool} {Q : Post1} {o : Oper} (i : Nat) {d : Nat} (hnd : allKept ops = true) (hi : ops[i]? = some o) (hd : o.dst = some d) (hdn : Nat.blt d c.n = true) (hs : Region.noSelect ops = true) (hf : Region.free .any ops listed i = true) (hr : (Region.ready .any ops listed).contains i = true)
    (hQ : ∀ ch a w, Q (.panic ch) (a.put o.dst undef) w → Q (.panic ch) a w) (hab : ∀ w (a : Act), o.about c.P w a.eval = none)
    (g : ∀ a, Fr c.n c.ds σ a → Region.wanted o (yielded ops a.tmps) = false) (h : JA c ops ((d, undef) :: σ) H fuel (listed.setIfInBounds i true) Q) : JA c ops σ H (fuel + 1) listed Q := fun a w hf1 hw =>
  wpAnyIn_firstR (i := i) (v := undef) hnd hi (Region.noSelect_spec hs) hQ fuel listed a w (Region.free_spec hi hf) (by simpa using hr) ⟨.inr ⟨by rw [g a hf1], rfl⟩, fun w' => hab w' a⟩
    (h _ _ (by rw [hd]; exact hf1.put (Nat.le_of_ble_eq_true hdn) undef) hw)
theorem JO.skipW {c : Cx} {ops : Array Oper} {σ : Slots} {H : Blocks} {o : Oper} {K : Act → World → Prop} {Q : Post1} {d : Nat} (hd : o.dst = some d) (hdn : Nat.blt d c.n = true) (g : ∀ a, Fr c.n c.ds σ a → Region.wanted o (yielded ops a.tmps) = false) (h : J c ((d, undef) :: σ) H K) : JO c ops σ H o K Q := fun a w hf hw => by
  rw [if_neg (by rw [g a hf]; simp)]
  exact ⟨fun _ _ => trivial, h _ _ (by rw [hd]; exact hf.put (Nat.le_of_ble_eq_true hdn) _) hw⟩
theorem JA.know {c : Cx} {ops : Array Oper} {σ : Slots} {H : Blocks} {fuel : Nat} {listed : Array Bool} {Q : Post1} {d : Nat} {b b' : Bool} (h : look σ d = some (.bool b')) (hb : b' = b) (h1 : JA c ops ((d, .bool b) :: σ) H fuel listed Q) : JA c ops σ H fuel listed Q := by
  subst hb; exact fun a w hf hw => h1 a w (hf.over h) hw
theorem JA.split {c : Cx} {ops : Array Oper} {σ : Slots} {H : Blocks} {fuel : Nat} {listed : Array Bool} {Q : Post1} {d : Nat} {b : Bool} (h : look σ d = some (.bool b)) (h1 : b = true → JA c ops ((d, .bool true) :: σ) H fuel listed Q) (h2 : b = false → JA c ops ((d, .bool false) :: σ) H fuel listed Q) : JA c ops σ H fuel listed Q := by
  cases b
  · exact fun a w hf hw => h2 rfl a w (hf.over h) hw
  · exact fun a w hf hw => h1 rfl a w (hf.over h) hw
theorem JA.weak {c : Cx} {ops : Array Oper} {σ σ' : Slots} {H H' : Blocks} {fuel fuel' : Nat} {listed listed' : Array Bool} {Q : Post1} (hfu : fuel = fuel') (hli : listed = listed') (hs : ∀ p ∈ σ', look σ p.1 = some p.2) (hH : Sub H' H) (h : JA c ops σ' H' fuel' listed' Q) : JA c ops σ H fuel listed Q := by
  subst hfu; subst hli; exact fun a w hf hw => h a w (hf.weaken hs) (hw.sub hH)
theorem JA.mid {c : Cx} {ops : Array Oper} {σ : Slots} {H : Blocks} {fuel : Nat} {listed : Array Bool} {Q : Post1} {X : Type} (p : X → Prop) (σ' : X → Slots) (H' : X → Blocks) (fuel' : Nat) (listed' : Array Bool) (h1 : ∀ x, p x → JA c ops (σ' x) (H' x) fuel' listed' Q) (h2 : (∀ x, p x → JA c ops (σ' x) (H' x) fuel' listed' Q) → JA c ops σ H fuel listed Q) : JA c ops σ H fuel listed Q := h2 h1
/-- A closure that writes its caller's blocks. -/
theorem JL.callCloAt {c : Cx} {σ : Slots} {H : Blocks} {Q : Post1} {ty : TypeId} {pos : String} {af : Array Edge} {gd : Option (Nat × Bool)} {ops : Array Oper} {l : List Oper} {d g : Nat} {f : Operand} {pre post : List Value} {xs : List Operand} {ats : Array TypeId} {vs : List Value} {Y : Value → Blocks → Prop}
    (hdn : Nat.blt d c.n = true) (hg : Gd ops σ gd true) (hf : ev σ f = some (.func (.func g) pre.toArray post.toArray)) (hx : evs σ xs = some vs)
    (hent : ∀ args w, (callFunc g args).run c.P w = .ok (.enter g args) w)
    (hc : ∀ w, Hp c.w0 H w → Calls c.P g (pre ++ vs ++ post).toArray w (Ret c.w0 Y))
    (h : ∀ v H', Y v H' → JL c ops ((d, v) :: σ) H' l Q) :
    JL c ops σ H ({ dst := some d, op := .call { callee := .value f, args := xs.toArray, argTypes := ats }, type := ty, pos := pos, after := af, guard := gd } :: l) Q := fun a w hfr hw => by
  have e1 := hfr.ev hf
  have e2 := hfr.evs hx
  refine wpListIn_execC (hg.wanted hfr) rfl (f := g) (args := (pre ++ vs ++ post).toArray) (w' := w) ?_ (hc w hw) ?_
  · have key : execOp a.eval { dst := some d, op := .call { callee := .value f, args := xs.toArray, argTypes := ats }, type := ty, pos := pos, after := af, guard := gd } =
        (do let d ← resolve a.eval { callee := .value f, args := xs.toArray, argTypes := ats } ty; invoke d.target d.args) := rfl
    rw [key]
    simp only [resolve, e1, List.map_toArray, e2, Deferred.ofValue, Sem.run_bind, Sem.run_pure, Result.andThen_ok, invoke]
    have := hent (pre ++ vs ++ post).toArray w
    simpa using this
  · rintro e w'' ⟨v, H', rfl, h1, h2⟩
    exact ⟨v, rfl, h v H' h2 _ _ (hfr.put (Nat.le_of_ble_eq_true hdn) _) h1⟩

/-- 'rangeG', where the assignment lays blocks of its own (a loop variable that is a variable in memory): 'y' tells what it left. -/
theorem JC.rangeH {P : Program} {n : Nat} {w0 : World} {σ : Slots} {H : Blocks} {g : Operand} {ps : List Nat} {assign body : Code} {Q : Post1} {gf : FuncId} {lb : List Value} {X Y : Type}
    (N : Nat) (HI : X → Blocks → Blocks) (Inv : Nat → X → Prop) (Stp : Code → X → Prop) (V : Nat → List Value → Blocks → Prop) (O0 : Blocks) (x0 : X) (σ1 : Nat → X → List Value → Y → Slots) (HA : X → List Value → Y → Blocks → Blocks)
    (hHI : ∀ x E, HI x E = HI x [] ++ E) (hHA : ∀ x vs y E, HA x vs y E = HA x vs y [] ++ E) (hg : ev σ g = some (.func (.func gf) #[] lb.toArray)) (hent : ∀ args w, (callFunc gf args).run P w = .ok (.enter gf args) w)
    (h0 : Sub (O0 ++ HI x0 []) H) (hi0 : Inv 0 x0) (hpn : (ps.all fun p => Nat.blt p n) = true) (hV : ∀ k vs O, V k vs O → vs.length = ps.length)
    (hiter : IterOk P gf lb w0 O0 V N)
    (hassign : ∀ (l k : Nat) (x : X) (vs : List Value) (O E : Blocks), k < N → Inv k x → V k vs O → (∀ p ∈ O, p ∈ E) →
      JC ⟨P, some l, n, [], w0⟩ (zipS ps vs σ) (HI x E) assign (fun e a w => e = .normal ∧ ∃ y, Fr n [] (σ1 k x vs y) a ∧ Hp w0 (HA x vs y E) w))
    (hbody : ∀ (l k : Nat) (x : X) (vs : List Value) (y : Y) (O E : Blocks), k < N → Inv k x → V k vs O → (∀ p ∈ O, p ∈ E) →
      JC ⟨P, some l, n, [], w0⟩ (σ1 k x vs y) (HA x vs y E) body (fun e _ w => (e = .normal ∧ ∃ x', Inv (k + 1) x' ∧ Hp w0 (HI x' E) w) ∨ ∃ c x', stopCode e = some c ∧ Stp c x' ∧ Hp w0 (HI x' E) w))
    (hdone : ∀ (x : X) (D : Nat) (E : Blocks), Inv N x → JQ ⟨P, none, n, [{ target := .collected D, args := #[] }], w0⟩ σ (HI x ((D, .deferred (some [])) :: E)) Q .normal)
    (hstop : ∀ (c : Code) (x : X) (D : Nat) (E : Blocks), Stp c x → JC ⟨P, none, n, [{ target := .collected D, args := #[] }], w0⟩ σ (HI x ((D, .deferred (some [])) :: E)) c Q) :
    JC ⟨P, none, n, [], w0⟩ σ H (.rangeFunc g ps.toArray assign body) Q := fun a w hf hw => by
  show (Code.rangeFunc g ps.toArray assign body).wpIn (Fw none) 7 P Q a w
  refine wpIn_rangeFunc (F := Fw none) ?_
  intro fn _
  obtain ⟨rec, hrec⟩ : ∃ rec : LoopState → Option Code → Loop, rec = fun st pe => { state := st, pending := pe, fn, tmps := a.tmps, params := ps.toArray, assign, body, defers := w.heap.size } := ⟨_, rfl⟩
  have hW1 : Hp w0 ((w.heap.size + 1, Obj.loop (rec .ready none)) :: (w.heap.size, Obj.deferred (some [])) :: H) ((w.alloc (.deferred (some []))).alloc (.loop (rec .ready none))) := by
    have := (hw.alloc (Obj.deferred (some []))).alloc (Obj.loop (rec .ready none))
    rwa [World.size_alloc] at this
  obtain ⟨LB, hLB⟩ : ∃ LB : LoopState → Option Code → Blocks, LB = fun st pe => [(w.heap.size + 1, Obj.loop (rec st pe)), (w.heap.size, Obj.deferred (some []))] := ⟨_, rfl⟩
  have hW2 : Hp w0 (O0 ++ HI x0 (LB .ready none)) ((w.alloc (.deferred (some []))).alloc (.loop (rec .ready none))) := by
    rw [hHI, ← List.append_assoc, hLB]
    exact hW1.sub (Sub.two h0)
  have hgv := hf.ev hg
  have hupG : ∀ (A : Blocks) (B : Blocks) st pe st' pe', Upd (w.heap.size + 1) (Obj.loop (rec st pe)) (Obj.loop (rec st' pe')) (A ++ (B ++ LB st pe)) (A ++ (B ++ LB st' pe')) := by
    intro A B st pe st' pe'
    rw [hLB]
    exact Upd.left _ (Upd.left _ .here)
  have hup : ∀ (O : Blocks) (x : X) st pe st' pe', Upd (w.heap.size + 1) (Obj.loop (rec st pe)) (Obj.loop (rec st' pe')) (O ++ HI x (LB st pe)) (O ++ HI x (LB st' pe')) := by
    intro O x st pe st' pe'
    rw [hHI x (LB st pe), hHI x (LB st' pe')]
    exact hupG _ _ _ _ _ _
  have hmem : ∀ (O : Blocks) (x : X) st pe, (w.heap.size + 1, Obj.loop (rec st pe)) ∈ O ++ HI x (LB st pe) := by
    intro O x st pe
    rw [hHI, hLB]; simp
  refine ⟨w.heap.size + 1, [{ target := .collected w.heap.size, args := #[] }], (w.alloc (.deferred (some []))).alloc (.loop (rec .ready none)), { target := .fn (.func gf) lb.toArray, args := #[.func (.yield (w.heap.size + 1)) #[] #[]] },
    (w.alloc (.deferred (some []))).alloc (.loop (rec .ready none)), gf, #[.func (.yield (w.heap.size + 1)) #[] #[]] ++ lb.toArray, (w.alloc (.deferred (some []))).alloc (.loop (rec .ready none)), ?_, ?_, fun _ _ => trivial, ?_, fun h => by simp [Fw] at h, ?_⟩
  · rw [hrec]
    exact run_enterLoop_outer _ _ _ _ _
  · simp only [resolve, hgv]
    simp [go_sem]
  · simp [invoke, go_sem, hent]
  · refine (callsW (hiter X (fun x => HI x (LB .ready none)) Inv (fun B => ∃ c x, Stp c x ∧ B = HI x (LB .done (some c))) (w.heap.size + 1) x0 _ hi0 hW2 ?_) none _).mono ?_
    · intro k x vs O w1 hk hi hv hw1
      have hl : w1.heap[w.heap.size + 1]? = some (.loop (rec .ready none)) := hw1.get (hmem ..)
      have hvl := hV k vs O hv
      have hy := run_yield (P := P) (args := vs.toArray) hl (by rw [hrec]; simpa using hvl)
      refine ⟨(rec .ready none).fn, _, (rec .ready none).assign, (rec .ready none).body, hy, ?_⟩
      refine roundIn_any (n := 7) (roundIn_of_wpIn (F := Fw none) trivial ?_)
      have hfr : Fr n [] (zipS ps vs σ) { tmps := (((rec .ready none).params).zip vs.toArray).foldl (fun tmps (t, a) => tmps.setIfInBounds t a) (rec .ready none).tmps, defers := [] } := by
        have h1 := Fr.zip ps vs hf hpn hvl
        have e : (((rec .ready none).params).zip vs.toArray).foldl (fun tmps (t, a) => tmps.setIfInBounds t a) (rec .ready none).tmps = (ps.zip vs).foldl (fun tmps (t, a) => tmps.setIfInBounds t a) a.tmps := by
          rw [hrec]
          simp
        exact ⟨by simpa only [e] using h1.size, rfl, fun t v h => by simpa only [e] using h1.get t v h⟩
      have hperm : ∀ x1 st pe w2, Hp w0 (O ++ HI x1 (LB st pe)) w2 → Hp w0 (HI x1 (O ++ LB st pe)) w2 := by
        intro x1 st pe w2 h
        rw [hHI] at h
        rw [hHI]
        exact h.swap
      have hperm' : ∀ x1 st pe w2, Hp w0 (HI x1 (O ++ LB st pe)) w2 → Hp w0 (O ++ HI x1 (LB st pe)) w2 := by
        intro x1 st pe w2 h
        rw [hHI] at h
        rw [hHI]
        exact h.swap
      have hassign' := hassign (w.heap.size + 1) k x vs O (O ++ LB .ready none) hk hi hv (fun p hp => List.mem_append_left _ hp) _ w1 hfr (hperm _ _ _ _ hw1)
      have hfn : (rec .ready none).assign = assign := by rw [hrec]
      have hbd : (rec .ready none).body = body := by rw [hrec]
      rw [hfn, hbd]
      refine wpIn_mono hassign' ?_
      rintro e a1 w2 ⟨rfl, y, hf1, hw2'⟩
      have hw2 : Hp w0 (HA x vs y [] ++ (O ++ LB .ready none)) w2 := by rw [hHA] at hw2'; exact hw2'
      have hl2 : w2.heap[w.heap.size + 1]? = some (.loop (rec .ready none)) := hw2.get (by rw [hLB]; simp)
      have ebusy : Obj.loop { rec .ready none with state := .busy } = Obj.loop (rec .busy none) := by rw [hrec]
      refine ⟨_, run_beginRound hl2 (by rw [hrec]), ?_⟩
      rw [ebusy]
      have hb := hbody (w.heap.size + 1) k x vs y O (O ++ LB .busy none) hk hi hv (fun p hp => List.mem_append_left _ hp) a1 (w2.putObj (w.heap.size + 1) (.loop (rec .busy none))) hf1
        (by rw [hHA]; exact hw2.putObj (hupG _ O .ready none .busy none))
      refine wpIn_mono hb ?_
      have fin : ∀ (jump : Option Code) (x' : X) (w3 : World), Hp w0 (HI x' (O ++ LB .busy none)) w3 →
          (Instr.endRound (w.heap.size + 1) jump).run P w3 = .ok (.bool jump.isNone) (w3.putObj (w.heap.size + 1) (.loop (rec (if jump.isNone then .ready else .done) jump))) ∧
          Hp w0 (O ++ HI x' (LB (if jump.isNone then .ready else .done) jump)) (w3.putObj (w.heap.size + 1) (.loop (rec (if jump.isNone then .ready else .done) jump))) := by
        intro jump x' w3 h3
        have h3 := hperm' _ _ _ _ h3
        have hl3 : w3.heap[w.heap.size + 1]? = some (.loop (rec .busy none)) := h3.get (hmem ..)
        refine ⟨?_, h3.putObj (hup O x' .busy none _ _)⟩
        have := run_endRound (P := P) jump hl3
        rw [hrec] at this ⊢
        exact this
      rintro e a3 w3 (⟨rfl, x', hi', hw3⟩ | ⟨c, x', he, hst, hw3⟩)
      · obtain ⟨h1, h2⟩ := fin none x' w3 hw3
        exact ⟨_, _, h1, .inl ⟨x', hi', rfl, h2⟩⟩
      · obtain ⟨h1, h2⟩ := fin (some c) x' w3 hw3
        cases e with
        | ret =>
          cases he
          exact ⟨_, _, h1, .inr ⟨_, ⟨_, x', hst, rfl⟩, rfl, h2⟩⟩
        | exit id =>
          cases he
          exact ⟨_, _, h1, .inr ⟨_, ⟨_, x', hst, rfl⟩, rfl, h2⟩⟩
        | _ => cases he
    · have last : ∀ (O : Blocks) (x : X) st pe (w2 : World), st ≠ .busy → Hp w0 (O ++ HI x (LB st pe)) w2 →
          (Instr.endLoop (w.heap.size + 1)).run P w2 = .ok pe (w2.putObj (w.heap.size + 1) (.loop (rec .exhausted pe))) ∧
          Hp w0 (HI x ((w.heap.size, Obj.deferred (some [])) :: (O ++ [(w.heap.size + 1, Obj.loop (rec .exhausted pe))]))) (w2.putObj (w.heap.size + 1) (.loop (rec .exhausted pe))) := by
        intro O x st pe w2 hst h2
        have hl : w2.heap[w.heap.size + 1]? = some (.loop (rec st pe)) := h2.get (hmem ..)
        refine ⟨?_, ?_⟩
        · refine (run_endLoop (P := P) hl (by rw [hrec]; exact hst)).trans ?_
          rw [hrec]
        · have h3 := h2.putObj (hup O x st pe .exhausted pe)
          rw [hHI] at h3
          rw [hHI]
          refine h3.swap.perm (List.Perm.append_left _ ?_)
          rw [hLB]
          refine (List.perm_append_comm (l₁ := O)).trans ?_
          refine (List.Perm.swap _ _ _).trans ?_
          exact List.Perm.cons _ (List.perm_append_comm (l₁ := [_]))
      rintro e w2 ⟨v, H', rfl, hw2, (⟨x, O, hi, rfl⟩ | ⟨B, O, ⟨c, x, hst, rfl⟩, rfl⟩)⟩
      · obtain ⟨h1, h2⟩ := last O x .ready none w2 (by simp) hw2
        exact ⟨none, _, h1, hdone x _ _ hi _ _ ⟨hf.size, by simp [hf.defers], hf.get⟩ h2⟩
      · obtain ⟨h1, h2⟩ := last O x .done (some c) w2 (by simp) hw2
        exact ⟨some c, _, h1, hstop c x _ _ hst _ _ ⟨hf.size, by simp [hf.defers], hf.get⟩ h2⟩
theorem JQ.asgH {P : Program} {r : Option Nat} {n : Nat} {ds : List Deferred} {w0 : World} {σ : Slots} {H : Blocks} {Y : Type} {σ1 : Y → Slots} {HA : Y → Blocks} (y : Y) (h : ∀ p ∈ σ1 y, look σ p.1 = some p.2) (hs : Sub (HA y) H) :
    JQ ⟨P, r, n, ds, w0⟩ σ H (fun e a w => e = .normal ∧ ∃ y, Fr n ds (σ1 y) a ∧ Hp w0 (HA y) w) .normal := fun _ _ hf hw => ⟨rfl, y, hf.weaken h, hw.sub hs⟩
end Go.Proofs.YtebinlinhmohbaaDoor
