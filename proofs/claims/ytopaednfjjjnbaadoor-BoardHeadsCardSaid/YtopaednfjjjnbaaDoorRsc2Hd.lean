/-
  Signatures in the reference, made and accepted; heads of boards in the reference.
-/
import Derived.Test.YtopaednfjjjnbaaDoorRsc1Hd
import Derived.Test.YtopaednfjjjnbaaDoorBrd2Hd
namespace Go.Proofs.YtopaednfjjjnbaaDoor
open Go Go.RowKit
set_option maxRecDepth 100000

theorem rOf2_any (g : Gp) (y r : UInt64) (oa ob : Option Addr) (ca cb : Nat) (t : List UInt8) (hok : formB g) (w : World) (ha : Cs w oa 2 ca (u64s [y, r])) (hb : Bs w ob cb t) (ht : t.length ≤ 8000) :
    Calls Tryd.prog 146 #[.agg g.cl.toArray, .slice oa 2 ca, .slice ob t.length cb] w (Ret w fun v _ => v = u64 (chalR g y r t)) := by
  rw [chalR, ← be8s_two]
  exact rOf31_any g oa ob ca cb [y, r] t hok w ha hb (show 2 ≤ 1000 by decide) ht

theorem rMade_any (g : Gp) (x : UInt64) (oa : Option Addr) (cap : Nat) (t : List UInt8) (hok : formB g) (w : World) (hb : Bs w oa cap t) (ht : t.length ≤ 8000) :
    Calls Tryd.prog 116 #[.agg g.cl.toArray, u64 x, .slice oa t.length cap] w (Ret w (fun v _ => v = .agg #[u64 ((pw g.g (nonceR g x t) g.p)), u64 ((((nonceR g x t) + (chalR g (pw g.g x g.p) (pw g.g (nonceR g x t) g.p) t) * x % g.q) % g.q))])) := by
  refine enter (vs := [.agg g.cl.toArray, u64 x, .slice oa t.length cap]) Tryd.func116 rfl Tryd.ntmps116 rfl ?_
  refine JC.seq ?_
  refine JC.region ?_
  refine JL.new rfl rfl rfl (.none rfl) (En.boxA rfl) (fun b3 hb3 => ?_)
  refine JL.new rfl rfl rfl (.none rfl) (En.allocZ (cs := #[u64 0, u64 0]) Tryd.zeroValue36 rfl) (fun b6 hb6 => ?_)
  refine JL.nil ?_
  refine JQ.thenN ?_
  refine JC.seq ?_
  refine JC.region ?_
  refine JL.val rfl rfl rfl (.none rfl) (Ev.lB Tryd.underlying53 Tryd.sizeOf53) ?_
  refine JL.mv ?_
  refine JL.mv ?_
  refine JL.callV rfl (.none rfl) rfl Tryd.call143 (fun w1 hw1 => rNonce_any g x oa cap t hok w1 (hb.old hw1) ht) ?_
  refine JL.asg ?_
  refine JL.nil ?_
  refine JQ.thenN ?_
  refine JC.seq ?_
  refine JC.region ?_
  refine JL.val rfl rfl rfl (.none rfl) (Ev.lB Tryd.underlying53 Tryd.sizeOf53) ?_
  refine JL.val rfl rfl rfl (.none rfl) (Ev.fld 2 rfl (fun _ _ => by kernel_rfl)) ?_
  refine JL.val rfl rfl rfl (.none rfl) (Ev.load1 rfl Tryd.underlying34 rfl (Rd.own memK rfl)) ?_
  refine JL.mv ?_
  refine JL.callV rfl (.none rfl) rfl Tryd.call144 (fun w1 hw1 => rPow_any g g.g (nonceR g x t) hok hok.2.2.2.2 w1) ?_
  refine JL.asg ?_
  refine JL.nil ?_
  refine JQ.thenN ?_
  refine JC.seq ?_
  refine JC.cut (X := Unit) (fun _ => [(6, .pointer (some ⟨b6, 0, none⟩))]) (fun _ => [(b6, Obj.cells #[u64 (pw g.g (nonceR g x t) g.p), u64 (((nonceR g x t) + (chalR g (pw g.g x g.p) (pw g.g (nonceR g x t) g.p) t) * x % g.q) % g.q)] 36 (0, 0))]) ?_ ?_
  · refine JC.regionA (by kernel_rfl) ?_
    refine JA.mid (X := Nat) (fun bs => True) (fun bs => [(33, .agg #[u64 ((pw g.g (nonceR g x t) g.p)), u64 ((((nonceR g x t) + (chalR g (pw g.g x g.p) (pw g.g (nonceR g x t) g.p) t) * x % g.q) % g.q))]), (3, .pointer (some ⟨b3, 0, none⟩)), (6, .pointer (some ⟨b6, 0, none⟩)), (1, u64 x), (2, .slice oa t.length cap), (7, u64 (nonceR g x t)), (8, u64 (pw g.g (nonceR g x t) g.p))]) (fun bs => [(b6, Obj.cells #[u64 0, u64 0] 36 (0, 0)), (b3, Obj.cells g.cl.toArray 53 (0, 0))]) 1 #[true, true, true, true, true, true, true, true, true, true, true, true, true, true, true, true, false] ?_ (fun hmid0 => ?_)
    · -- state [0, 1, 2, 3, 4, 5, 6, 7, 8, 9, 10, 11, 12, 13, 14, 15]
      rintro bs _
      refine JA.one 16 ?_
      refine JO.sto rfl rfl (.none rfl) (Es.storeA rfl rfl Tryd.sizeOf36 Upd.k rfl rfl (sig_one _ _)) ?_
      refine JA.done (by kernel_rfl) ?_
      refine JQ.cutN () ?_ ?_
      · exact Keeps.k
      · exact Sub.k
    refine JA.mid (X := Nat) (fun bs => True) (fun bs => [(32, u64 (((nonceR g x t) + (chalR g (pw g.g x g.p) (pw g.g (nonceR g x t) g.p) t) * x % g.q) % g.q)), (18, u64 (pw g.g (nonceR g x t) g.p)), (3, .pointer (some ⟨b3, 0, none⟩)), (6, .pointer (some ⟨b6, 0, none⟩)), (1, u64 x), (2, .slice oa t.length cap), (7, u64 (nonceR g x t)), (8, u64 (pw g.g (nonceR g x t) g.p))]) (fun bs => [(b6, Obj.cells #[u64 0, u64 0] 36 (0, 0)), (b3, Obj.cells g.cl.toArray 53 (0, 0))]) 2 #[true, true, true, true, true, true, true, true, true, true, true, true, true, true, true, false, false] ?_ (fun hmid1 => ?_)
    · -- state [0, 1, 2, 3, 4, 5, 6, 7, 8, 9, 10, 11, 12, 13, 14]
      rintro bs _
      refine JA.one 15 ?_
      refine JO.val rfl rfl rfl (.none rfl) (Ev.bu2 rfl rfl rfl rfl Tryd.underlying36 (fun _ => by kernel_rfl) Tryd.zeroValue36) ?_
      exact JA.wk (hmid0 0 trivial)
    refine JA.mid (X := Nat) (fun bs => True) (fun bs => [(31, u64 (chalR g (pw g.g x g.p) (pw g.g (nonceR g x t) g.p) t)), (21, u64 (nonceR g x t)), (20, u64 x), (19, .agg g.cl.toArray), (18, u64 (pw g.g (nonceR g x t) g.p)), (3, .pointer (some ⟨b3, 0, none⟩)), (6, .pointer (some ⟨b6, 0, none⟩)), (1, u64 x), (2, .slice oa t.length cap), (7, u64 (nonceR g x t)), (8, u64 (pw g.g (nonceR g x t) g.p))]) (fun bs => [(b6, Obj.cells #[u64 0, u64 0] 36 (0, 0)), (b3, Obj.cells g.cl.toArray 53 (0, 0))]) 3 #[true, true, true, true, true, true, true, true, true, true, true, true, true, true, false, false, false] ?_ (fun hmid2 => ?_)
    · -- state [0, 1, 2, 3, 4, 5, 6, 7, 8, 9, 10, 11, 12, 13]
      rintro bs _
      refine JA.one 14 ?_
      refine JO.callV rfl (.none rfl) rfl Tryd.call145 (fun w1 hw1 => rTold_any g x (nonceR g x t) (chalR g (pw g.g x g.p) (pw g.g (nonceR g x t) g.p) t) hok w1) ?_
      exact JA.wk (hmid1 0 trivial)
    refine JA.mid (X := Nat) (fun bs => True) (fun bs => [(30, .slice oa t.length cap), (29, .slice (some ⟨bs, 0, none⟩) 2 2), (22, .agg g.cl.toArray), (21, u64 (nonceR g x t)), (20, u64 x), (19, .agg g.cl.toArray), (18, u64 (pw g.g (nonceR g x t) g.p)), (3, .pointer (some ⟨b3, 0, none⟩)), (6, .pointer (some ⟨b6, 0, none⟩)), (1, u64 x), (2, .slice oa t.length cap), (7, u64 (nonceR g x t)), (8, u64 (pw g.g (nonceR g x t) g.p))]) (fun bs => [(bs, Obj.cells #[u64 (pw g.g x g.p), u64 (pw g.g (nonceR g x t) g.p)] 34 (0, 0)), (b6, Obj.cells #[u64 0, u64 0] 36 (0, 0)), (b3, Obj.cells g.cl.toArray 53 (0, 0))]) 4 #[true, true, true, true, true, true, true, true, true, true, true, true, true, false, false, false, false] ?_ (fun hmid3 => ?_)
    · -- state [0, 1, 2, 3, 4, 5, 6, 7, 8, 9, 10, 11, 12]
      rintro bs _
      refine JA.one 13 ?_
      refine JO.callV rfl (.none rfl) rfl Tryd.call146 (fun w1 hw1 => rOf2_any g (pw g.g x g.p) (pw g.g (nonceR g x t) g.p) (some ⟨bs, 0, none⟩) oa 2 cap t hok w1 (cs_block (xs := u64s [(pw g.g x g.p), (pw g.g (nonceR g x t) g.p)]) hw1 (by repeat (first | exact List.Mem.head _ | refine List.Mem.tail _ ?_ | refine List.mem_append_right _ ?_)) (show 2 ≤ 1000000 by decide)) (hb.old hw1) ht) ?_
      exact JA.wk (hmid2 0 trivial)
    refine JA.mid (X := Nat) (fun bs => True) (fun bs => [(31, u64 (chalR g (pw g.g x g.p) (pw g.g (nonceR g x t) g.p) t)), (21, u64 (nonceR g x t)), (20, u64 x), (18, u64 (pw g.g (nonceR g x t) g.p)), (3, .pointer (some ⟨b3, 0, none⟩)), (6, .pointer (some ⟨b6, 0, none⟩)), (1, u64 x), (2, .slice oa t.length cap), (7, u64 (nonceR g x t)), (8, u64 (pw g.g (nonceR g x t) g.p))]) (fun bs => [(b6, Obj.cells #[u64 0, u64 0] 36 (0, 0)), (b3, Obj.cells g.cl.toArray 53 (0, 0))]) 4 #[true, false, true, true, true, true, true, true, true, true, true, true, true, true, false, false, false] ?_ (fun hmid4 => ?_)
    · -- state [0, 2, 3, 4, 5, 6, 7, 8, 9, 10, 11, 12, 13]
      rintro bs _
      refine JA.one 1 ?_
      refine JO.val rfl rfl rfl (.none rfl) (Ev.lB Tryd.underlying53 Tryd.sizeOf53) ?_
      exact JA.wk (hmid2 0 trivial)
    refine JA.mid (X := Nat) (fun bs => True) (fun bs => [(30, .slice oa t.length cap), (28, u64 (pw g.g (nonceR g x t) g.p)), (27, u64 (pw g.g x g.p)), (22, .agg g.cl.toArray), (21, u64 (nonceR g x t)), (20, u64 x), (19, .agg g.cl.toArray), (18, u64 (pw g.g (nonceR g x t) g.p)), (3, .pointer (some ⟨b3, 0, none⟩)), (6, .pointer (some ⟨b6, 0, none⟩)), (1, u64 x), (2, .slice oa t.length cap), (7, u64 (nonceR g x t)), (8, u64 (pw g.g (nonceR g x t) g.p))]) (fun bs => [(b6, Obj.cells #[u64 0, u64 0] 36 (0, 0)), (b3, Obj.cells g.cl.toArray 53 (0, 0))]) 5 #[true, true, true, true, true, true, true, true, true, true, true, false, true, false, false, false, false] ?_ (fun hmid5 => ?_)
    · -- state [0, 1, 2, 3, 4, 5, 6, 7, 8, 9, 10, 12]
      rintro bs _
      refine JA.one 11 ?_
      refine JO.new rfl rfl rfl (.none rfl) (En.bsN (e := 34) rfl (fun _ => by kernel_rfl)) (fun b29 hb29 => ?_)
      obtain ⟨bs, rfl⟩ : ∃ b, b = b29 := ⟨_, rfl⟩
      exact JA.wk (hmid3 bs trivial)
    refine JA.mid (X := Nat) (fun bs => True) (fun bs => [(30, .slice oa t.length cap), (29, .slice (some ⟨bs, 0, none⟩) 2 2), (21, u64 (nonceR g x t)), (20, u64 x), (19, .agg g.cl.toArray), (18, u64 (pw g.g (nonceR g x t) g.p)), (3, .pointer (some ⟨b3, 0, none⟩)), (6, .pointer (some ⟨b6, 0, none⟩)), (1, u64 x), (2, .slice oa t.length cap), (7, u64 (nonceR g x t)), (8, u64 (pw g.g (nonceR g x t) g.p))]) (fun bs => [(bs, Obj.cells #[u64 (pw g.g x g.p), u64 (pw g.g (nonceR g x t) g.p)] 34 (0, 0)), (b6, Obj.cells #[u64 0, u64 0] 36 (0, 0)), (b3, Obj.cells g.cl.toArray 53 (0, 0))]) 5 #[true, true, true, true, false, true, true, true, true, true, true, true, true, false, false, false, false] ?_ (fun hmid6 => ?_)
    · -- state [0, 1, 2, 3, 5, 6, 7, 8, 9, 10, 11, 12]
      rintro bs _
      refine JA.one 4 ?_
      refine JO.val rfl rfl rfl (.none rfl) (Ev.lB Tryd.underlying53 Tryd.sizeOf53) ?_
      exact JA.wk (hmid3 bs trivial)
    refine JA.mid (X := Nat) (fun bs => True) (fun bs => [(30, .slice oa t.length cap), (29, .slice (some ⟨bs, 0, none⟩) 2 2), (22, .agg g.cl.toArray), (21, u64 (nonceR g x t)), (20, u64 x), (18, u64 (pw g.g (nonceR g x t) g.p)), (3, .pointer (some ⟨b3, 0, none⟩)), (6, .pointer (some ⟨b6, 0, none⟩)), (1, u64 x), (2, .slice oa t.length cap), (7, u64 (nonceR g x t)), (8, u64 (pw g.g (nonceR g x t) g.p))]) (fun bs => [(bs, Obj.cells #[u64 (pw g.g x g.p), u64 (pw g.g (nonceR g x t) g.p)] 34 (0, 0)), (b6, Obj.cells #[u64 0, u64 0] 36 (0, 0)), (b3, Obj.cells g.cl.toArray 53 (0, 0))]) 5 #[true, false, true, true, true, true, true, true, true, true, true, true, true, false, false, false, false] ?_ (fun hmid7 => ?_)
    · -- state [0, 2, 3, 4, 5, 6, 7, 8, 9, 10, 11, 12]
      rintro bs _
      refine JA.branch [1, 13] (by kernel_rfl) rfl ?_
      refine JAll.cons rfl ?_ ?_
      · -- 1
        refine JO.val rfl rfl rfl (.none rfl) (Ev.lB Tryd.underlying53 Tryd.sizeOf53) ?_
        exact JA.wk (hmid3 bs trivial)
      refine JAll.cons rfl ?_ JAll.nil
      refine JO.callV rfl (.none rfl) rfl Tryd.call146 (fun w1 hw1 => rOf2_any g (pw g.g x g.p) (pw g.g (nonceR g x t) g.p) (some ⟨bs, 0, none⟩) oa 2 cap t hok w1 (cs_block (xs := u64s [(pw g.g x g.p), (pw g.g (nonceR g x t) g.p)]) hw1 (by repeat (first | exact List.Mem.head _ | refine List.Mem.tail _ ?_ | refine List.mem_append_right _ ?_)) (show 2 ≤ 1000000 by decide)) (hb.old hw1) ht) ?_
      exact JA.wk (hmid4 0 trivial)
    refine JA.mid (X := Nat) (fun bs => True) (fun bs => [(30, .slice oa t.length cap), (28, u64 (pw g.g (nonceR g x t) g.p)), (26, u64 x), (25, u64 g.g), (24, .pointer (some ⟨b3, 0 + 2, none⟩)), (23, .agg g.cl.toArray), (22, .agg g.cl.toArray), (21, u64 (nonceR g x t)), (20, u64 x), (19, .agg g.cl.toArray), (18, u64 (pw g.g (nonceR g x t) g.p)), (3, .pointer (some ⟨b3, 0, none⟩)), (6, .pointer (some ⟨b6, 0, none⟩)), (1, u64 x), (2, .slice oa t.length cap), (7, u64 (nonceR g x t)), (8, u64 (pw g.g (nonceR g x t) g.p))]) (fun bs => [(b6, Obj.cells #[u64 0, u64 0] 36 (0, 0)), (b3, Obj.cells g.cl.toArray 53 (0, 0))]) 6 #[true, true, true, true, true, true, true, true, true, false, true, false, true, false, false, false, false] ?_ (fun hmid8 => ?_)
    · -- state [0, 1, 2, 3, 4, 5, 6, 7, 8, 10, 12]
      rintro bs _
      refine JA.one 9 ?_
      refine JO.callV rfl (.none rfl) rfl Tryd.call144 (fun w1 hw1 => rPow_any g g.g x hok hok.2.2.2.2 w1) ?_
      exact JA.wk (hmid5 0 trivial)
    refine JA.mid (X := Nat) (fun bs => True) (fun bs => [(30, .slice oa t.length cap), (28, u64 (pw g.g (nonceR g x t) g.p)), (27, u64 (pw g.g x g.p)), (21, u64 (nonceR g x t)), (20, u64 x), (19, .agg g.cl.toArray), (18, u64 (pw g.g (nonceR g x t) g.p)), (3, .pointer (some ⟨b3, 0, none⟩)), (6, .pointer (some ⟨b6, 0, none⟩)), (1, u64 x), (2, .slice oa t.length cap), (7, u64 (nonceR g x t)), (8, u64 (pw g.g (nonceR g x t) g.p))]) (fun bs => [(b6, Obj.cells #[u64 0, u64 0] 36 (0, 0)), (b3, Obj.cells g.cl.toArray 53 (0, 0))]) 6 #[true, true, true, true, false, true, true, true, true, true, true, false, true, false, false, false, false] ?_ (fun hmid9 => ?_)
    · -- state [0, 1, 2, 3, 5, 6, 7, 8, 9, 10, 12]
      rintro bs _
      refine JA.branch [4, 11] (by kernel_rfl) rfl ?_
      refine JAll.cons rfl ?_ ?_
      · -- 4
        refine JO.val rfl rfl rfl (.none rfl) (Ev.lB Tryd.underlying53 Tryd.sizeOf53) ?_
        exact JA.wk (hmid5 0 trivial)
      refine JAll.cons rfl ?_ JAll.nil
      refine JO.new rfl rfl rfl (.none rfl) (En.bsN (e := 34) rfl (fun _ => by kernel_rfl)) (fun b29 hb29 => ?_)
      obtain ⟨bs, rfl⟩ : ∃ b, b = b29 := ⟨_, rfl⟩
      exact JA.wk (hmid6 bs trivial)
    refine JA.mid (X := Nat) (fun bs => True) (fun bs => [(30, .slice oa t.length cap), (28, u64 (pw g.g (nonceR g x t) g.p)), (27, u64 (pw g.g x g.p)), (22, .agg g.cl.toArray), (21, u64 (nonceR g x t)), (20, u64 x), (18, u64 (pw g.g (nonceR g x t) g.p)), (3, .pointer (some ⟨b3, 0, none⟩)), (6, .pointer (some ⟨b6, 0, none⟩)), (1, u64 x), (2, .slice oa t.length cap), (7, u64 (nonceR g x t)), (8, u64 (pw g.g (nonceR g x t) g.p))]) (fun bs => [(b6, Obj.cells #[u64 0, u64 0] 36 (0, 0)), (b3, Obj.cells g.cl.toArray 53 (0, 0))]) 6 #[true, false, true, true, true, true, true, true, true, true, true, false, true, false, false, false, false] ?_ (fun hmid10 => ?_)
    · -- state [0, 2, 3, 4, 5, 6, 7, 8, 9, 10, 12]
      rintro bs _
      refine JA.branch [1, 11] (by kernel_rfl) rfl ?_
      refine JAll.cons rfl ?_ ?_
      · -- 1
        refine JO.val rfl rfl rfl (.none rfl) (Ev.lB Tryd.underlying53 Tryd.sizeOf53) ?_
        exact JA.wk (hmid5 0 trivial)
      refine JAll.cons rfl ?_ JAll.nil
      refine JO.new rfl rfl rfl (.none rfl) (En.bsN (e := 34) rfl (fun _ => by kernel_rfl)) (fun b29 hb29 => ?_)
      obtain ⟨bs, rfl⟩ : ∃ b, b = b29 := ⟨_, rfl⟩
      exact JA.wk (hmid7 bs trivial)
    refine JA.mid (X := Nat) (fun bs => True) (fun bs => [(30, .slice oa t.length cap), (29, .slice (some ⟨bs, 0, none⟩) 2 2), (21, u64 (nonceR g x t)), (20, u64 x), (18, u64 (pw g.g (nonceR g x t) g.p)), (3, .pointer (some ⟨b3, 0, none⟩)), (6, .pointer (some ⟨b6, 0, none⟩)), (1, u64 x), (2, .slice oa t.length cap), (7, u64 (nonceR g x t)), (8, u64 (pw g.g (nonceR g x t) g.p))]) (fun bs => [(bs, Obj.cells #[u64 (pw g.g x g.p), u64 (pw g.g (nonceR g x t) g.p)] 34 (0, 0)), (b6, Obj.cells #[u64 0, u64 0] 36 (0, 0)), (b3, Obj.cells g.cl.toArray 53 (0, 0))]) 6 #[true, false, true, true, false, true, true, true, true, true, true, true, true, false, false, false, false] ?_ (fun hmid11 => ?_)
    · -- state [0, 2, 3, 5, 6, 7, 8, 9, 10, 11, 12]
      rintro bs _
      refine JA.branch [1, 4] (by kernel_rfl) rfl ?_
      refine JAll.cons rfl ?_ ?_
      · -- 1
        refine JO.val rfl rfl rfl (.none rfl) (Ev.lB Tryd.underlying53 Tryd.sizeOf53) ?_
        exact JA.wk (hmid6 bs trivial)
      refine JAll.cons rfl ?_ JAll.nil
      refine JO.val rfl rfl rfl (.none rfl) (Ev.lB Tryd.underlying53 Tryd.sizeOf53) ?_
      exact JA.wk (hmid7 bs trivial)
    refine JA.mid (X := Nat) (fun bs => True) (fun bs => [(30, .slice oa t.length cap), (28, u64 (pw g.g (nonceR g x t) g.p)), (26, u64 x), (24, .pointer (some ⟨b3, 0 + 2, none⟩)), (23, .agg g.cl.toArray), (22, .agg g.cl.toArray), (21, u64 (nonceR g x t)), (20, u64 x), (19, .agg g.cl.toArray), (18, u64 (pw g.g (nonceR g x t) g.p)), (3, .pointer (some ⟨b3, 0, none⟩)), (6, .pointer (some ⟨b6, 0, none⟩)), (1, u64 x), (2, .slice oa t.length cap), (7, u64 (nonceR g x t)), (8, u64 (pw g.g (nonceR g x t) g.p))]) (fun bs => [(b6, Obj.cells #[u64 0, u64 0] 36 (0, 0)), (b3, Obj.cells g.cl.toArray 53 (0, 0))]) 7 #[true, true, true, true, true, true, true, false, true, false, true, false, true, false, false, false, false] ?_ (fun hmid12 => ?_)
    · -- state [0, 1, 2, 3, 4, 5, 6, 8, 10, 12]
      rintro bs _
      refine JA.one 7 ?_
      refine JO.val rfl rfl rfl (.none rfl) (Ev.load1 rfl Tryd.underlying34 rfl (Rd.own memK rfl)) ?_
      exact JA.wk (hmid8 0 trivial)
    refine JA.mid (X := Nat) (fun bs => True) (fun bs => [(30, .slice oa t.length cap), (28, u64 (pw g.g (nonceR g x t) g.p)), (26, u64 x), (25, u64 g.g), (24, .pointer (some ⟨b3, 0 + 2, none⟩)), (22, .agg g.cl.toArray), (21, u64 (nonceR g x t)), (20, u64 x), (19, .agg g.cl.toArray), (18, u64 (pw g.g (nonceR g x t) g.p)), (3, .pointer (some ⟨b3, 0, none⟩)), (6, .pointer (some ⟨b6, 0, none⟩)), (1, u64 x), (2, .slice oa t.length cap), (7, u64 (nonceR g x t)), (8, u64 (pw g.g (nonceR g x t) g.p))]) (fun bs => [(b6, Obj.cells #[u64 0, u64 0] 36 (0, 0)), (b3, Obj.cells g.cl.toArray 53 (0, 0))]) 7 #[true, true, true, true, true, false, true, true, true, false, true, false, true, false, false, false, false] ?_ (fun hmid13 => ?_)
    · -- state [0, 1, 2, 3, 4, 6, 7, 8, 10, 12]
      rintro bs _
      refine JA.one 5 ?_
      refine JO.val rfl rfl rfl (.none rfl) (Ev.lB Tryd.underlying53 Tryd.sizeOf53) ?_
      exact JA.wk (hmid8 0 trivial)
    refine JA.mid (X := Nat) (fun bs => True) (fun bs => [(30, .slice oa t.length cap), (28, u64 (pw g.g (nonceR g x t) g.p)), (26, u64 x), (25, u64 g.g), (24, .pointer (some ⟨b3, 0 + 2, none⟩)), (23, .agg g.cl.toArray), (21, u64 (nonceR g x t)), (20, u64 x), (19, .agg g.cl.toArray), (18, u64 (pw g.g (nonceR g x t) g.p)), (3, .pointer (some ⟨b3, 0, none⟩)), (6, .pointer (some ⟨b6, 0, none⟩)), (1, u64 x), (2, .slice oa t.length cap), (7, u64 (nonceR g x t)), (8, u64 (pw g.g (nonceR g x t) g.p))]) (fun bs => [(b6, Obj.cells #[u64 0, u64 0] 36 (0, 0)), (b3, Obj.cells g.cl.toArray 53 (0, 0))]) 7 #[true, true, true, true, false, true, true, true, true, false, true, false, true, false, false, false, false] ?_ (fun hmid14 => ?_)
    · -- state [0, 1, 2, 3, 5, 6, 7, 8, 10, 12]
      rintro bs _
      refine JA.branch [4, 9] (by kernel_rfl) rfl ?_
      refine JAll.cons rfl ?_ ?_
      · -- 4
        refine JO.val rfl rfl rfl (.none rfl) (Ev.lB Tryd.underlying53 Tryd.sizeOf53) ?_
        exact JA.wk (hmid8 0 trivial)
      refine JAll.cons rfl ?_ JAll.nil
      refine JO.callV rfl (.none rfl) rfl Tryd.call144 (fun w1 hw1 => rPow_any g g.g x hok hok.2.2.2.2 w1) ?_
      exact JA.wk (hmid9 0 trivial)
    refine JA.mid (X := Nat) (fun bs => True) (fun bs => [(30, .slice oa t.length cap), (28, u64 (pw g.g (nonceR g x t) g.p)), (26, u64 x), (25, u64 g.g), (24, .pointer (some ⟨b3, 0 + 2, none⟩)), (23, .agg g.cl.toArray), (22, .agg g.cl.toArray), (21, u64 (nonceR g x t)), (20, u64 x), (18, u64 (pw g.g (nonceR g x t) g.p)), (3, .pointer (some ⟨b3, 0, none⟩)), (6, .pointer (some ⟨b6, 0, none⟩)), (1, u64 x), (2, .slice oa t.length cap), (7, u64 (nonceR g x t)), (8, u64 (pw g.g (nonceR g x t) g.p))]) (fun bs => [(b6, Obj.cells #[u64 0, u64 0] 36 (0, 0)), (b3, Obj.cells g.cl.toArray 53 (0, 0))]) 7 #[true, false, true, true, true, true, true, true, true, false, true, false, true, false, false, false, false] ?_ (fun hmid15 => ?_)
    · -- state [0, 2, 3, 4, 5, 6, 7, 8, 10, 12]
      rintro bs _
      refine JA.branch [1, 9] (by kernel_rfl) rfl ?_
      refine JAll.cons rfl ?_ ?_
      · -- 1
        refine JO.val rfl rfl rfl (.none rfl) (Ev.lB Tryd.underlying53 Tryd.sizeOf53) ?_
        exact JA.wk (hmid8 0 trivial)
      refine JAll.cons rfl ?_ JAll.nil
      refine JO.callV rfl (.none rfl) rfl Tryd.call144 (fun w1 hw1 => rPow_any g g.g x hok hok.2.2.2.2 w1) ?_
      exact JA.wk (hmid10 0 trivial)
    refine JA.mid (X := Nat) (fun bs => True) (fun bs => [(30, .slice oa t.length cap), (28, u64 (pw g.g (nonceR g x t) g.p)), (27, u64 (pw g.g x g.p)), (21, u64 (nonceR g x t)), (20, u64 x), (18, u64 (pw g.g (nonceR g x t) g.p)), (3, .pointer (some ⟨b3, 0, none⟩)), (6, .pointer (some ⟨b6, 0, none⟩)), (1, u64 x), (2, .slice oa t.length cap), (7, u64 (nonceR g x t)), (8, u64 (pw g.g (nonceR g x t) g.p))]) (fun bs => [(b6, Obj.cells #[u64 0, u64 0] 36 (0, 0)), (b3, Obj.cells g.cl.toArray 53 (0, 0))]) 7 #[true, false, true, true, false, true, true, true, true, true, true, false, true, false, false, false, false] ?_ (fun hmid16 => ?_)
    · -- state [0, 2, 3, 5, 6, 7, 8, 9, 10, 12]
      rintro bs _
      refine JA.branch [1, 4, 11] (by kernel_rfl) rfl ?_
      refine JAll.cons rfl ?_ ?_
      · -- 1
        refine JO.val rfl rfl rfl (.none rfl) (Ev.lB Tryd.underlying53 Tryd.sizeOf53) ?_
        exact JA.wk (hmid9 0 trivial)
      refine JAll.cons rfl ?_ ?_
      · -- 4
        refine JO.val rfl rfl rfl (.none rfl) (Ev.lB Tryd.underlying53 Tryd.sizeOf53) ?_
        exact JA.wk (hmid10 0 trivial)
      refine JAll.cons rfl ?_ JAll.nil
      refine JO.new rfl rfl rfl (.none rfl) (En.bsN (e := 34) rfl (fun _ => by kernel_rfl)) (fun b29 hb29 => ?_)
      obtain ⟨bs, rfl⟩ : ∃ b, b = b29 := ⟨_, rfl⟩
      exact JA.wk (hmid11 bs trivial)
    refine JA.mid (X := Nat) (fun bs => True) (fun bs => [(30, .slice oa t.length cap), (28, u64 (pw g.g (nonceR g x t) g.p)), (26, u64 x), (24, .pointer (some ⟨b3, 0 + 2, none⟩)), (22, .agg g.cl.toArray), (21, u64 (nonceR g x t)), (20, u64 x), (19, .agg g.cl.toArray), (18, u64 (pw g.g (nonceR g x t) g.p)), (3, .pointer (some ⟨b3, 0, none⟩)), (6, .pointer (some ⟨b6, 0, none⟩)), (1, u64 x), (2, .slice oa t.length cap), (7, u64 (nonceR g x t)), (8, u64 (pw g.g (nonceR g x t) g.p))]) (fun bs => [(b6, Obj.cells #[u64 0, u64 0] 36 (0, 0)), (b3, Obj.cells g.cl.toArray 53 (0, 0))]) 8 #[true, true, true, true, true, false, true, false, true, false, true, false, true, false, false, false, false] ?_ (fun hmid17 => ?_)
    · -- state [0, 1, 2, 3, 4, 6, 8, 10, 12]
      rintro bs _
      refine JA.branch [5, 7] (by kernel_rfl) rfl ?_
      refine JAll.cons rfl ?_ ?_
      · -- 5
        refine JO.val rfl rfl rfl (.none rfl) (Ev.lB Tryd.underlying53 Tryd.sizeOf53) ?_
        exact JA.wk (hmid12 0 trivial)
      refine JAll.cons rfl ?_ JAll.nil
      refine JO.val rfl rfl rfl (.none rfl) (Ev.load1 rfl Tryd.underlying34 rfl (Rd.own memK rfl)) ?_
      exact JA.wk (hmid13 0 trivial)
    refine JA.mid (X := Nat) (fun bs => True) (fun bs => [(30, .slice oa t.length cap), (28, u64 (pw g.g (nonceR g x t) g.p)), (26, u64 x), (24, .pointer (some ⟨b3, 0 + 2, none⟩)), (23, .agg g.cl.toArray), (21, u64 (nonceR g x t)), (20, u64 x), (19, .agg g.cl.toArray), (18, u64 (pw g.g (nonceR g x t) g.p)), (3, .pointer (some ⟨b3, 0, none⟩)), (6, .pointer (some ⟨b6, 0, none⟩)), (1, u64 x), (2, .slice oa t.length cap), (7, u64 (nonceR g x t)), (8, u64 (pw g.g (nonceR g x t) g.p))]) (fun bs => [(b6, Obj.cells #[u64 0, u64 0] 36 (0, 0)), (b3, Obj.cells g.cl.toArray 53 (0, 0))]) 8 #[true, true, true, true, false, true, true, false, true, false, true, false, true, false, false, false, false] ?_ (fun hmid18 => ?_)
    · -- state [0, 1, 2, 3, 5, 6, 8, 10, 12]
      rintro bs _
      refine JA.branch [4, 7] (by kernel_rfl) rfl ?_
      refine JAll.cons rfl ?_ ?_
      · -- 4
        refine JO.val rfl rfl rfl (.none rfl) (Ev.lB Tryd.underlying53 Tryd.sizeOf53) ?_
        exact JA.wk (hmid12 0 trivial)
      refine JAll.cons rfl ?_ JAll.nil
      refine JO.val rfl rfl rfl (.none rfl) (Ev.load1 rfl Tryd.underlying34 rfl (Rd.own memK rfl)) ?_
      exact JA.wk (hmid14 0 trivial)
    refine JA.mid (X := Nat) (fun bs => True) (fun bs => [(30, .slice oa t.length cap), (28, u64 (pw g.g (nonceR g x t) g.p)), (26, u64 x), (25, u64 g.g), (24, .pointer (some ⟨b3, 0 + 2, none⟩)), (21, u64 (nonceR g x t)), (20, u64 x), (19, .agg g.cl.toArray), (18, u64 (pw g.g (nonceR g x t) g.p)), (3, .pointer (some ⟨b3, 0, none⟩)), (6, .pointer (some ⟨b6, 0, none⟩)), (1, u64 x), (2, .slice oa t.length cap), (7, u64 (nonceR g x t)), (8, u64 (pw g.g (nonceR g x t) g.p))]) (fun bs => [(b6, Obj.cells #[u64 0, u64 0] 36 (0, 0)), (b3, Obj.cells g.cl.toArray 53 (0, 0))]) 8 #[true, true, true, true, false, false, true, true, true, false, true, false, true, false, false, false, false] ?_ (fun hmid19 => ?_)
    · -- state [0, 1, 2, 3, 6, 7, 8, 10, 12]
      rintro bs _
      refine JA.branch [4, 5] (by kernel_rfl) rfl ?_
      refine JAll.cons rfl ?_ ?_
      · -- 4
        refine JO.val rfl rfl rfl (.none rfl) (Ev.lB Tryd.underlying53 Tryd.sizeOf53) ?_
        exact JA.wk (hmid13 0 trivial)
      refine JAll.cons rfl ?_ JAll.nil
      refine JO.val rfl rfl rfl (.none rfl) (Ev.lB Tryd.underlying53 Tryd.sizeOf53) ?_
      exact JA.wk (hmid14 0 trivial)
    refine JA.mid (X := Nat) (fun bs => True) (fun bs => [(30, .slice oa t.length cap), (28, u64 (pw g.g (nonceR g x t) g.p)), (26, u64 x), (24, .pointer (some ⟨b3, 0 + 2, none⟩)), (23, .agg g.cl.toArray), (22, .agg g.cl.toArray), (21, u64 (nonceR g x t)), (20, u64 x), (18, u64 (pw g.g (nonceR g x t) g.p)), (3, .pointer (some ⟨b3, 0, none⟩)), (6, .pointer (some ⟨b6, 0, none⟩)), (1, u64 x), (2, .slice oa t.length cap), (7, u64 (nonceR g x t)), (8, u64 (pw g.g (nonceR g x t) g.p))]) (fun bs => [(b6, Obj.cells #[u64 0, u64 0] 36 (0, 0)), (b3, Obj.cells g.cl.toArray 53 (0, 0))]) 8 #[true, false, true, true, true, true, true, false, true, false, true, false, true, false, false, false, false] ?_ (fun hmid20 => ?_)
    · -- state [0, 2, 3, 4, 5, 6, 8, 10, 12]
      rintro bs _
      refine JA.branch [1, 7] (by kernel_rfl) rfl ?_
      refine JAll.cons rfl ?_ ?_
      · -- 1
        refine JO.val rfl rfl rfl (.none rfl) (Ev.lB Tryd.underlying53 Tryd.sizeOf53) ?_
        exact JA.wk (hmid12 0 trivial)
      refine JAll.cons rfl ?_ JAll.nil
      refine JO.val rfl rfl rfl (.none rfl) (Ev.load1 rfl Tryd.underlying34 rfl (Rd.own memK rfl)) ?_
      exact JA.wk (hmid15 0 trivial)
    refine JA.mid (X := Nat) (fun bs => True) (fun bs => [(30, .slice oa t.length cap), (28, u64 (pw g.g (nonceR g x t) g.p)), (26, u64 x), (25, u64 g.g), (24, .pointer (some ⟨b3, 0 + 2, none⟩)), (22, .agg g.cl.toArray), (21, u64 (nonceR g x t)), (20, u64 x), (18, u64 (pw g.g (nonceR g x t) g.p)), (3, .pointer (some ⟨b3, 0, none⟩)), (6, .pointer (some ⟨b6, 0, none⟩)), (1, u64 x), (2, .slice oa t.length cap), (7, u64 (nonceR g x t)), (8, u64 (pw g.g (nonceR g x t) g.p))]) (fun bs => [(b6, Obj.cells #[u64 0, u64 0] 36 (0, 0)), (b3, Obj.cells g.cl.toArray 53 (0, 0))]) 8 #[true, false, true, true, true, false, true, true, true, false, true, false, true, false, false, false, false] ?_ (fun hmid21 => ?_)
    · -- state [0, 2, 3, 4, 6, 7, 8, 10, 12]
      rintro bs _
      refine JA.branch [1, 5] (by kernel_rfl) rfl ?_
      refine JAll.cons rfl ?_ ?_
      · -- 1
        refine JO.val rfl rfl rfl (.none rfl) (Ev.lB Tryd.underlying53 Tryd.sizeOf53) ?_
        exact JA.wk (hmid13 0 trivial)
      refine JAll.cons rfl ?_ JAll.nil
      refine JO.val rfl rfl rfl (.none rfl) (Ev.lB Tryd.underlying53 Tryd.sizeOf53) ?_
      exact JA.wk (hmid15 0 trivial)
    refine JA.mid (X := Nat) (fun bs => True) (fun bs => [(30, .slice oa t.length cap), (28, u64 (pw g.g (nonceR g x t) g.p)), (26, u64 x), (25, u64 g.g), (24, .pointer (some ⟨b3, 0 + 2, none⟩)), (23, .agg g.cl.toArray), (21, u64 (nonceR g x t)), (20, u64 x), (18, u64 (pw g.g (nonceR g x t) g.p)), (3, .pointer (some ⟨b3, 0, none⟩)), (6, .pointer (some ⟨b6, 0, none⟩)), (1, u64 x), (2, .slice oa t.length cap), (7, u64 (nonceR g x t)), (8, u64 (pw g.g (nonceR g x t) g.p))]) (fun bs => [(b6, Obj.cells #[u64 0, u64 0] 36 (0, 0)), (b3, Obj.cells g.cl.toArray 53 (0, 0))]) 8 #[true, false, true, true, false, true, true, true, true, false, true, false, true, false, false, false, false] ?_ (fun hmid22 => ?_)
    · -- state [0, 2, 3, 5, 6, 7, 8, 10, 12]
      rintro bs _
      refine JA.branch [1, 4, 9] (by kernel_rfl) rfl ?_
      refine JAll.cons rfl ?_ ?_
      · -- 1
        refine JO.val rfl rfl rfl (.none rfl) (Ev.lB Tryd.underlying53 Tryd.sizeOf53) ?_
        exact JA.wk (hmid14 0 trivial)
      refine JAll.cons rfl ?_ ?_
      · -- 4
        refine JO.val rfl rfl rfl (.none rfl) (Ev.lB Tryd.underlying53 Tryd.sizeOf53) ?_
        exact JA.wk (hmid15 0 trivial)
      refine JAll.cons rfl ?_ JAll.nil
      refine JO.callV rfl (.none rfl) rfl Tryd.call144 (fun w1 hw1 => rPow_any g g.g x hok hok.2.2.2.2 w1) ?_
      exact JA.wk (hmid16 0 trivial)
    refine JA.mid (X := Nat) (fun bs => True) (fun bs => [(30, .slice oa t.length cap), (28, u64 (pw g.g (nonceR g x t) g.p)), (26, u64 x), (24, .pointer (some ⟨b3, 0 + 2, none⟩)), (21, u64 (nonceR g x t)), (20, u64 x), (19, .agg g.cl.toArray), (18, u64 (pw g.g (nonceR g x t) g.p)), (3, .pointer (some ⟨b3, 0, none⟩)), (6, .pointer (some ⟨b6, 0, none⟩)), (1, u64 x), (2, .slice oa t.length cap), (7, u64 (nonceR g x t)), (8, u64 (pw g.g (nonceR g x t) g.p))]) (fun bs => [(b6, Obj.cells #[u64 0, u64 0] 36 (0, 0)), (b3, Obj.cells g.cl.toArray 53 (0, 0))]) 9 #[true, true, true, true, false, false, true, false, true, false, true, false, true, false, false, false, false] ?_ (fun hmid23 => ?_)
    · -- state [0, 1, 2, 3, 6, 8, 10, 12]
      rintro bs _
      refine JA.branch [4, 5, 7] (by kernel_rfl) rfl ?_
      refine JAll.cons rfl ?_ ?_
      · -- 4
        refine JO.val rfl rfl rfl (.none rfl) (Ev.lB Tryd.underlying53 Tryd.sizeOf53) ?_
        exact JA.wk (hmid17 0 trivial)
      refine JAll.cons rfl ?_ ?_
      · -- 5
        refine JO.val rfl rfl rfl (.none rfl) (Ev.lB Tryd.underlying53 Tryd.sizeOf53) ?_
        exact JA.wk (hmid18 0 trivial)
      refine JAll.cons rfl ?_ JAll.nil
      refine JO.val rfl rfl rfl (.none rfl) (Ev.load1 rfl Tryd.underlying34 rfl (Rd.own memK rfl)) ?_
      exact JA.wk (hmid19 0 trivial)
    refine JA.mid (X := Nat) (fun bs => True) (fun bs => [(30, .slice oa t.length cap), (28, u64 (pw g.g (nonceR g x t) g.p)), (26, u64 x), (24, .pointer (some ⟨b3, 0 + 2, none⟩)), (22, .agg g.cl.toArray), (21, u64 (nonceR g x t)), (20, u64 x), (18, u64 (pw g.g (nonceR g x t) g.p)), (3, .pointer (some ⟨b3, 0, none⟩)), (6, .pointer (some ⟨b6, 0, none⟩)), (1, u64 x), (2, .slice oa t.length cap), (7, u64 (nonceR g x t)), (8, u64 (pw g.g (nonceR g x t) g.p))]) (fun bs => [(b6, Obj.cells #[u64 0, u64 0] 36 (0, 0)), (b3, Obj.cells g.cl.toArray 53 (0, 0))]) 9 #[true, false, true, true, true, false, true, false, true, false, true, false, true, false, false, false, false] ?_ (fun hmid24 => ?_)
    · -- state [0, 2, 3, 4, 6, 8, 10, 12]
      rintro bs _
      refine JA.branch [1, 5, 7] (by kernel_rfl) rfl ?_
      refine JAll.cons rfl ?_ ?_
      · -- 1
        refine JO.val rfl rfl rfl (.none rfl) (Ev.lB Tryd.underlying53 Tryd.sizeOf53) ?_
        exact JA.wk (hmid17 0 trivial)
      refine JAll.cons rfl ?_ ?_
      · -- 5
        refine JO.val rfl rfl rfl (.none rfl) (Ev.lB Tryd.underlying53 Tryd.sizeOf53) ?_
        exact JA.wk (hmid20 0 trivial)
      refine JAll.cons rfl ?_ JAll.nil
      refine JO.val rfl rfl rfl (.none rfl) (Ev.load1 rfl Tryd.underlying34 rfl (Rd.own memK rfl)) ?_
      exact JA.wk (hmid21 0 trivial)
    refine JA.mid (X := Nat) (fun bs => True) (fun bs => [(30, .slice oa t.length cap), (28, u64 (pw g.g (nonceR g x t) g.p)), (26, u64 x), (24, .pointer (some ⟨b3, 0 + 2, none⟩)), (23, .agg g.cl.toArray), (21, u64 (nonceR g x t)), (20, u64 x), (18, u64 (pw g.g (nonceR g x t) g.p)), (3, .pointer (some ⟨b3, 0, none⟩)), (6, .pointer (some ⟨b6, 0, none⟩)), (1, u64 x), (2, .slice oa t.length cap), (7, u64 (nonceR g x t)), (8, u64 (pw g.g (nonceR g x t) g.p))]) (fun bs => [(b6, Obj.cells #[u64 0, u64 0] 36 (0, 0)), (b3, Obj.cells g.cl.toArray 53 (0, 0))]) 9 #[true, false, true, true, false, true, true, false, true, false, true, false, true, false, false, false, false] ?_ (fun hmid25 => ?_)
    · -- state [0, 2, 3, 5, 6, 8, 10, 12]
      rintro bs _
      refine JA.branch [1, 4, 7] (by kernel_rfl) rfl ?_
      refine JAll.cons rfl ?_ ?_
      · -- 1
        refine JO.val rfl rfl rfl (.none rfl) (Ev.lB Tryd.underlying53 Tryd.sizeOf53) ?_
        exact JA.wk (hmid18 0 trivial)
      refine JAll.cons rfl ?_ ?_
      · -- 4
        refine JO.val rfl rfl rfl (.none rfl) (Ev.lB Tryd.underlying53 Tryd.sizeOf53) ?_
        exact JA.wk (hmid20 0 trivial)
      refine JAll.cons rfl ?_ JAll.nil
      refine JO.val rfl rfl rfl (.none rfl) (Ev.load1 rfl Tryd.underlying34 rfl (Rd.own memK rfl)) ?_
      exact JA.wk (hmid22 0 trivial)
    refine JA.mid (X := Nat) (fun bs => True) (fun bs => [(30, .slice oa t.length cap), (28, u64 (pw g.g (nonceR g x t) g.p)), (26, u64 x), (25, u64 g.g), (24, .pointer (some ⟨b3, 0 + 2, none⟩)), (21, u64 (nonceR g x t)), (20, u64 x), (18, u64 (pw g.g (nonceR g x t) g.p)), (3, .pointer (some ⟨b3, 0, none⟩)), (6, .pointer (some ⟨b6, 0, none⟩)), (1, u64 x), (2, .slice oa t.length cap), (7, u64 (nonceR g x t)), (8, u64 (pw g.g (nonceR g x t) g.p))]) (fun bs => [(b6, Obj.cells #[u64 0, u64 0] 36 (0, 0)), (b3, Obj.cells g.cl.toArray 53 (0, 0))]) 9 #[true, false, true, true, false, false, true, true, true, false, true, false, true, false, false, false, false] ?_ (fun hmid26 => ?_)
    · -- state [0, 2, 3, 6, 7, 8, 10, 12]
      rintro bs _
      refine JA.branch [1, 4, 5] (by kernel_rfl) rfl ?_
      refine JAll.cons rfl ?_ ?_
      · -- 1
        refine JO.val rfl rfl rfl (.none rfl) (Ev.lB Tryd.underlying53 Tryd.sizeOf53) ?_
        exact JA.wk (hmid19 0 trivial)
      refine JAll.cons rfl ?_ ?_
      · -- 4
        refine JO.val rfl rfl rfl (.none rfl) (Ev.lB Tryd.underlying53 Tryd.sizeOf53) ?_
        exact JA.wk (hmid21 0 trivial)
      refine JAll.cons rfl ?_ JAll.nil
      refine JO.val rfl rfl rfl (.none rfl) (Ev.lB Tryd.underlying53 Tryd.sizeOf53) ?_
      exact JA.wk (hmid22 0 trivial)
    refine JA.tkc 0 rfl (.none rfl) (fun _ => (Ev.move rfl)) ?_
    refine JA.tkc 2 rfl (.none rfl) (fun _ => (Ev.move rfl)) ?_
    refine JA.tkc 3 rfl (.none rfl) (fun _ => (Ev.move rfl)) ?_
    refine JA.tkc 6 rfl (.none rfl) (fun _ => (Ev.fld 2 rfl (fun _ _ => by kernel_rfl))) ?_
    refine JA.tkc 8 rfl (.none rfl) (fun _ => (Ev.move rfl)) ?_
    refine JA.tkc 10 rfl (.none rfl) (fun _ => (Ev.move rfl)) ?_
    refine JA.tkc 12 rfl (.none rfl) (fun _ => (Ev.move rfl)) ?_
    refine JA.branch [1, 4, 5, 7] (by kernel_rfl) rfl ?_
    refine JAll.cons rfl ?_ ?_
    · -- 1
      refine JO.val rfl rfl rfl (.none rfl) (Ev.lB Tryd.underlying53 Tryd.sizeOf53) ?_
      exact JA.wk (hmid23 0 trivial)
    refine JAll.cons rfl ?_ ?_
    · -- 4
      refine JO.val rfl rfl rfl (.none rfl) (Ev.lB Tryd.underlying53 Tryd.sizeOf53) ?_
      exact JA.wk (hmid24 0 trivial)
    refine JAll.cons rfl ?_ ?_
    · -- 5
      refine JO.val rfl rfl rfl (.none rfl) (Ev.lB Tryd.underlying53 Tryd.sizeOf53) ?_
      exact JA.wk (hmid25 0 trivial)
    refine JAll.cons rfl ?_ JAll.nil
    refine JO.val rfl rfl rfl (.none rfl) (Ev.load1 rfl Tryd.underlying34 rfl (Rd.own memK rfl)) ?_
    exact JA.wk (hmid26 0 trivial)
  rintro _
  refine JQ.thenN ?_
  refine JC.ret ?_
  refine JQ.end1 (H' := []) (.inl rfl) rfl (.agg rfl memK Tryd.underlying36 rfl Tryd.sizeOf36 rfl) ?_ ?_
  · exact Sub.k
  · exact rfl

theorem rSign_any (g : Gp) (x : UInt64) (oa : Option Addr) (cap : Nat) (t : List UInt8) (w : World) (hb : Bs w oa cap t) (ht : t.length ≤ 8000) :
    Calls Tryd.prog 81 #[.agg g.cl.toArray, u64 x, .slice oa t.length cap] w (Ret w (fun v _ => v = .tuple #[.agg #[u64 (if kyE g x = 0 then (sigR g x t).1 else 0), u64 (if kyE g x = 0 then (sigR g x t).2 else 0)], .int .i64 (kyE g x)])) := by
  refine enter (vs := [.agg g.cl.toArray, u64 x, .slice oa t.length cap]) Tryd.func81 rfl Tryd.ntmps81 rfl ?_
  refine JC.seq ?_
  refine JC.region ?_
  refine JL.new rfl rfl rfl (.none rfl) (En.boxA rfl) (fun b3 hb3 => ?_)
  refine JL.new rfl rfl rfl (.none rfl) (En.allocZ (cs := #[u64 0, u64 0]) Tryd.zeroValue36 rfl) (fun b6 hb6 => ?_)
  refine JL.asg ?_
  refine JL.nil ?_
  refine JQ.thenN ?_
  refine JC.seq ?_
  refine JC.region ?_
  refine JL.val rfl rfl rfl (.none rfl) (Ev.lB Tryd.underlying53 Tryd.sizeOf53) ?_
  refine JL.mv ?_
  refine JL.callV rfl (.none rfl) rfl Tryd.call115 (fun w1 hw1 => rkey_any g x w1) ?_
  refine JL.asg ?_
  refine JL.nil ?_
  refine JQ.thenN ?_
  refine JC.seq ?_
  refine JC.seq ?_
  refine JC.region ?_
  refine JL.mv ?_
  refine JL.val rfl rfl rfl (.none rfl) (Ev.bin rfl rfl eql_int) ?_
  refine JL.mv ?_
  refine JL.split (d := 14) rfl (fun hA => ?_) (fun hA => ?_)
  · -- guard 14 true
    refine JL.val rfl rfl rfl (.yes rfl rfl rfl) (Ev.move rfl) ?_
    refine JL.val rfl rfl rfl (.yes rfl rfl rfl) (Ev.lenS rfl Tryd.underlying28) ?_
    refine JL.val rfl rfl rfl (.yes rfl rfl rfl) (Ev.bin rfl rfl gtr_int) ?_
    refine JL.val rfl rfl rfl (.none rfl) (Ev.pickT rfl rfl) ?_
    refine JL.nil ?_
    refine JQ.thenN ?_
    refine JC.knowF rfl ?_ ?_
    · exact decide_eq_false (by omega)
    refine JC.skip ?_
    refine JQ.thenN ?_
    refine JC.seq ?_
    refine JC.seq ?_
    refine JC.region ?_
    refine JL.mv ?_
    refine JL.val rfl rfl rfl (.none rfl) (Ev.bin rfl rfl neq_int) ?_
    refine JL.nil ?_
    refine JQ.thenN ?_
    refine JC.cond rfl (fun hc => ?_) (fun hc => ?_)
    · -- t20 True
      replace hc := of_decide_eq_true hc
      have hne : ¬ kyE g x = 0 := by omega
      refine JC.seq ?_
      refine JC.region ?_
      refine JL.val rfl rfl rfl (.none rfl) (Ev.build (parts := []) (vs := []) (cs := #[u64 0, u64 0]) (fun _ _ => rfl) (fun _ => by kernel_rfl)) ?_
      refine JL.mv ?_
      refine JL.sto rfl rfl (.none rfl) (Es.storeA rfl rfl Tryd.sizeOf36 Upd.k rfl rfl (sig_one _ _)) ?_
      refine JL.asg ?_
      refine JL.nil ?_
      refine JQ.thenN ?_
      refine JC.ret ?_
      refine JQ.thenR ?_
      refine JQ.end2 (H' := []) (.inl rfl) rfl (.agg rfl memK Tryd.underlying36 rfl Tryd.sizeOf36 rfl) (.tmp rfl) ?_ ?_
      · exact Sub.k
      · first | (rw [if_neg hne, if_neg hne]; done) | (rw [if_pos hz, if_pos hz, hz]; rfl)
    · -- t20 False
      replace hc := of_decide_eq_false hc
      have hz : kyE g x = 0 := by omega
      refine JC.skip ?_
      refine JQ.thenN ?_
      refine JC.seq ?_
      refine JC.region ?_
      refine JL.val rfl rfl rfl (.none rfl) (Ev.lB Tryd.underlying53 Tryd.sizeOf53) ?_
      refine JL.mv ?_
      refine JL.mv ?_
      refine JL.callV rfl (.none rfl) rfl Tryd.call116 (fun w1 hw1 => rMade_any g x oa cap t (kyE_form hz).1 w1 (hb.old hw1) ht) ?_
      refine JL.sto rfl rfl (.none rfl) (Es.storeA rfl rfl Tryd.sizeOf36 Upd.k rfl rfl (sig_one _ _)) ?_
      refine JL.asg ?_
      refine JL.nil ?_
      refine JQ.thenN ?_
      refine JC.ret ?_
      refine JQ.end2 (H' := []) (.inl rfl) rfl (.agg rfl memK Tryd.underlying36 rfl Tryd.sizeOf36 rfl) (.tmp rfl) ?_ ?_
      · exact Sub.k
      · first | (rw [if_neg hne, if_neg hne]; done) | (rw [if_pos hz, if_pos hz, hz]; rfl)
  · -- guard 14 false
    refine JL.skip rfl rfl (.noT rfl rfl rfl) ?_
    refine JL.skip rfl rfl (.noT rfl rfl rfl) ?_
    refine JL.skip rfl rfl (.noT rfl rfl rfl) ?_
    refine JL.val rfl rfl rfl (.none rfl) (Ev.pickF rfl rfl) ?_
    refine JL.nil ?_
    refine JQ.thenN ?_
    refine JC.condF rfl ?_
    refine JC.skip ?_
    refine JQ.thenN ?_
    refine JC.seq ?_
    refine JC.seq ?_
    refine JC.region ?_
    refine JL.mv ?_
    refine JL.val rfl rfl rfl (.none rfl) (Ev.bin rfl rfl neq_int) ?_
    refine JL.nil ?_
    refine JQ.thenN ?_
    refine JC.cond rfl (fun hc => ?_) (fun hc => ?_)
    · -- t20 True
      replace hc := of_decide_eq_true hc
      have hne : ¬ kyE g x = 0 := by omega
      refine JC.seq ?_
      refine JC.region ?_
      refine JL.val rfl rfl rfl (.none rfl) (Ev.build (parts := []) (vs := []) (cs := #[u64 0, u64 0]) (fun _ _ => rfl) (fun _ => by kernel_rfl)) ?_
      refine JL.mv ?_
      refine JL.sto rfl rfl (.none rfl) (Es.storeA rfl rfl Tryd.sizeOf36 Upd.k rfl rfl (sig_one _ _)) ?_
      refine JL.asg ?_
      refine JL.nil ?_
      refine JQ.thenN ?_
      refine JC.ret ?_
      refine JQ.thenR ?_
      refine JQ.end2 (H' := []) (.inl rfl) rfl (.agg rfl memK Tryd.underlying36 rfl Tryd.sizeOf36 rfl) (.tmp rfl) ?_ ?_
      · exact Sub.k
      · first | (rw [if_neg hne, if_neg hne]; done) | (rw [if_pos hz, if_pos hz, hz]; rfl)
    · -- t20 False
      replace hc := of_decide_eq_false hc
      have hz : kyE g x = 0 := by omega
      refine JC.skip ?_
      refine JQ.thenN ?_
      refine JC.seq ?_
      refine JC.region ?_
      refine JL.val rfl rfl rfl (.none rfl) (Ev.lB Tryd.underlying53 Tryd.sizeOf53) ?_
      refine JL.mv ?_
      refine JL.mv ?_
      refine JL.callV rfl (.none rfl) rfl Tryd.call116 (fun w1 hw1 => rMade_any g x oa cap t (kyE_form hz).1 w1 (hb.old hw1) ht) ?_
      refine JL.sto rfl rfl (.none rfl) (Es.storeA rfl rfl Tryd.sizeOf36 Upd.k rfl rfl (sig_one _ _)) ?_
      refine JL.asg ?_
      refine JL.nil ?_
      refine JQ.thenN ?_
      refine JC.ret ?_
      refine JQ.end2 (H' := []) (.inl rfl) rfl (.agg rfl memK Tryd.underlying36 rfl Tryd.sizeOf36 rfl) (.tmp rfl) ?_ ?_
      · exact Sub.k
      · first | (rw [if_neg hne, if_neg hne]; done) | (rw [if_pos hz, if_pos hz, hz]; rfl)

set_option maxHeartbeats 4000000 in
theorem rRight_any (g : Gp) (y : UInt64) (oa : Option Addr) (cap : Nat) (t : List UInt8) (r s : UInt64) (hok : formB g) (hy : y.toNat < g.p.toNat) (hr : r.toNat < g.p.toNat) (w : World) (hb : Bs w oa cap t) (ht : t.length ≤ 8000) :
    Calls Tryd.prog 120 #[.agg g.cl.toArray, u64 y, .slice oa t.length cap, .agg #[u64 (r), u64 (s)]] w (Ret w (fun v _ => v = .bool ((memR g y && memR g r) && evenR g y r (chalR g y r t) s))) := by
  refine enter (vs := [.agg g.cl.toArray, u64 y, .slice oa t.length cap, .agg #[u64 (r), u64 (s)]]) Tryd.func120 rfl Tryd.ntmps120 rfl ?_
  refine JC.seq ?_
  refine JC.region ?_
  refine JL.new rfl rfl rfl (.none rfl) (En.boxA rfl) (fun b4 hb4 => ?_)
  refine JL.new rfl rfl rfl (.none rfl) (En.boxA rfl) (fun b7 hb7 => ?_)
  refine JL.asg ?_
  refine JL.nil ?_
  refine JQ.thenN ?_
  refine JC.seq ?_
  refine JC.regionA (by kernel_rfl) ?_
  refine JA.mid (X := Nat) (fun bs => memR g y = true ∧ memR g r = true) (fun bs => [(33, u64 s), (31, u64 (chalR g y r t)), (24, u64 r), (22, u64 y), (21, u64 g.g), (19, .agg g.cl.toArray), (18, .bool true), (4, .pointer (some ⟨b4, 0, none⟩)), (7, .pointer (some ⟨b7, 0, none⟩)), (1, u64 y), (2, .slice oa t.length cap)]) (fun bs => [(b7, Obj.cells #[u64 r, u64 s] 36 (0, 0)), (b4, Obj.cells g.cl.toArray 53 (0, 0))]) 3 #[true, true, true, true, true, true, true, true, true, true, true, true, true, true, true, true, true, true, true, true, true, true, true, true, true, false, false, false] ?_ (fun hmid0 => ?_)
  · -- state [0, 1, 2, 3, 4, 5, 6, 7, 8, 9, 10, 11, 12, 13, 14, 15, 16, 17, 18, 19, 20, 21, 22, 23, 24]
    rintro bs ⟨hA, hB⟩
    refine JA.one 25 ?_
    refine JO.callV rfl (.yes rfl rfl rfl) rfl Tryd.call150 (fun w1 hw1 => rEven_any g g.g y r (chalR g y r t) s hok hok.2.2.2.2 hy w1) ?_
    refine JA.tk 26 rfl (.none rfl) (fun _ => (Ev.pickT rfl rfl)) ?_
    refine JA.tk 27 rfl (.none rfl) (fun _ => (Ev.assign rfl)) ?_
    refine JA.done (by kernel_rfl) ?_
    refine JQ.thenN ?_
    refine JC.ret ?_
    refine JQ.end1 (H' := []) (.inl rfl) rfl (.tmp rfl) ?_ ?_
    · exact Sub.k
    · first | (rw [hA]; rfl) | (rw [hA, hB]; rfl) | (rw [hA, hB, evenR]; rfl)
  refine JA.mid (X := Nat) (fun bs => memR g y = true ∧ memR g r = true) (fun bs => [(32, .pointer (some ⟨b7, 0 + 1, none⟩)), (31, u64 (chalR g y r t)), (24, u64 r), (22, u64 y), (21, u64 g.g), (19, .agg g.cl.toArray), (18, .bool true), (4, .pointer (some ⟨b4, 0, none⟩)), (7, .pointer (some ⟨b7, 0, none⟩)), (1, u64 y), (2, .slice oa t.length cap)]) (fun bs => [(b7, Obj.cells #[u64 r, u64 s] 36 (0, 0)), (b4, Obj.cells g.cl.toArray 53 (0, 0))]) 4 #[true, true, true, true, true, true, true, true, true, true, true, true, true, true, true, true, true, true, true, true, true, true, true, true, false, false, false, false] ?_ (fun hmid1 => ?_)
  · -- state [0, 1, 2, 3, 4, 5, 6, 7, 8, 9, 10, 11, 12, 13, 14, 15, 16, 17, 18, 19, 20, 21, 22, 23]
    rintro bs ⟨hA, hB⟩
    refine JA.one 24 ?_
    refine JO.val rfl rfl rfl (.yes rfl rfl rfl) (Ev.load1 rfl Tryd.underlying34 rfl (Rd.own memK rfl)) ?_
    exact JA.weak rfl (by kernel_rfl) (by exact Keeps.k) (by exact Sub.k) (hmid0 0 (by exact ⟨hA, hB⟩))
  refine JA.mid (X := Nat) (fun bs => memR g y = true ∧ memR g r = true) (fun bs => [(33, u64 s), (30, .slice oa t.length cap), (29, .slice (some ⟨bs, 0, none⟩) 2 2), (25, .agg g.cl.toArray), (24, u64 r), (22, u64 y), (21, u64 g.g), (19, .agg g.cl.toArray), (18, .bool true), (4, .pointer (some ⟨b4, 0, none⟩)), (7, .pointer (some ⟨b7, 0, none⟩)), (1, u64 y), (2, .slice oa t.length cap)]) (fun bs => [(bs, Obj.cells #[u64 y, u64 r] 34 (0, 0)), (b7, Obj.cells #[u64 r, u64 s] 36 (0, 0)), (b4, Obj.cells g.cl.toArray 53 (0, 0))]) 4 #[true, true, true, true, true, true, true, true, true, true, true, true, true, true, true, true, true, true, true, true, true, true, false, true, true, false, false, false] ?_ (fun hmid2 => ?_)
  · -- state [0, 1, 2, 3, 4, 5, 6, 7, 8, 9, 10, 11, 12, 13, 14, 15, 16, 17, 18, 19, 20, 21, 23, 24]
    rintro bs ⟨hA, hB⟩
    refine JA.one 22 ?_
    refine JO.callV rfl (.yes rfl rfl rfl) rfl Tryd.call146 (fun w1 hw1 => rOf2_any g y r (some ⟨bs, 0, none⟩) oa 2 cap t hok w1 (cs_block (xs := u64s [y, r]) hw1 (by repeat (first | exact List.Mem.head _ | refine List.Mem.tail _ ?_ | refine List.mem_append_right _ ?_)) (show 2 ≤ 1000000 by decide)) (hb.old hw1) ht) ?_
    exact JA.weak rfl (by kernel_rfl) (by exact Keeps.k) (by exact Sub.k) (hmid0 0 (by exact ⟨hA, hB⟩))
  refine JA.mid (X := Nat) (fun bs => memR g y = true ∧ memR g r = true) (fun bs => [(33, u64 s), (31, u64 (chalR g y r t)), (23, .pointer (some ⟨b7, 0 + 0, none⟩)), (22, u64 y), (21, u64 g.g), (19, .agg g.cl.toArray), (18, .bool true), (4, .pointer (some ⟨b4, 0, none⟩)), (7, .pointer (some ⟨b7, 0, none⟩)), (1, u64 y), (2, .slice oa t.length cap)]) (fun bs => [(b7, Obj.cells #[u64 r, u64 s] 36 (0, 0)), (b4, Obj.cells g.cl.toArray 53 (0, 0))]) 4 #[true, true, true, true, true, true, true, true, true, true, true, true, true, true, true, false, true, true, true, true, true, true, true, true, true, false, false, false] ?_ (fun hmid3 => ?_)
  · -- state [0, 1, 2, 3, 4, 5, 6, 7, 8, 9, 10, 11, 12, 13, 14, 16, 17, 18, 19, 20, 21, 22, 23, 24]
    rintro bs ⟨hA, hB⟩
    refine JA.one 15 ?_
    refine JO.val rfl rfl rfl (.yes rfl rfl rfl) (Ev.load1 rfl Tryd.underlying34 rfl (Rd.own memK rfl)) ?_
    exact JA.weak rfl (by kernel_rfl) (by exact Keeps.k) (by exact Sub.k) (hmid0 0 (by exact ⟨hA, hB⟩))
  refine JA.mid (X := Nat) (fun bs => memR g y = true ∧ memR g r = true) (fun bs => [(33, u64 s), (31, u64 (chalR g y r t)), (24, u64 r), (22, u64 y), (20, .pointer (some ⟨b4, 0 + 2, none⟩)), (19, .agg g.cl.toArray), (18, .bool true), (4, .pointer (some ⟨b4, 0, none⟩)), (7, .pointer (some ⟨b7, 0, none⟩)), (1, u64 y), (2, .slice oa t.length cap)]) (fun bs => [(b7, Obj.cells #[u64 r, u64 s] 36 (0, 0)), (b4, Obj.cells g.cl.toArray 53 (0, 0))]) 4 #[true, true, true, true, true, true, true, true, true, true, true, true, false, true, true, true, true, true, true, true, true, true, true, true, true, false, false, false] ?_ (fun hmid4 => ?_)
  · -- state [0, 1, 2, 3, 4, 5, 6, 7, 8, 9, 10, 11, 13, 14, 15, 16, 17, 18, 19, 20, 21, 22, 23, 24]
    rintro bs ⟨hA, hB⟩
    refine JA.one 12 ?_
    refine JO.val rfl rfl rfl (.yes rfl rfl rfl) (Ev.load1 rfl Tryd.underlying34 rfl (Rd.own memK rfl)) ?_
    exact JA.weak rfl (by kernel_rfl) (by exact Keeps.k) (by exact Sub.k) (hmid0 0 (by exact ⟨hA, hB⟩))
  refine JA.mid (X := Nat) (fun bs => memR g y = true ∧ memR g r = true) (fun bs => [(33, u64 s), (31, u64 (chalR g y r t)), (24, u64 r), (22, u64 y), (21, u64 g.g), (18, .bool true), (4, .pointer (some ⟨b4, 0, none⟩)), (7, .pointer (some ⟨b7, 0, none⟩)), (1, u64 y), (2, .slice oa t.length cap)]) (fun bs => [(b7, Obj.cells #[u64 r, u64 s] 36 (0, 0)), (b4, Obj.cells g.cl.toArray 53 (0, 0))]) 4 #[true, true, true, true, true, true, true, true, true, true, false, true, true, true, true, true, true, true, true, true, true, true, true, true, true, false, false, false] ?_ (fun hmid5 => ?_)
  · -- state [0, 1, 2, 3, 4, 5, 6, 7, 8, 9, 11, 12, 13, 14, 15, 16, 17, 18, 19, 20, 21, 22, 23, 24]
    rintro bs ⟨hA, hB⟩
    refine JA.one 10 ?_
    refine JO.val rfl rfl rfl (.yes rfl rfl rfl) (Ev.lB Tryd.underlying53 Tryd.sizeOf53) ?_
    exact JA.weak rfl (by kernel_rfl) (by exact Keeps.k) (by exact Sub.k) (hmid0 0 (by exact ⟨hA, hB⟩))
  refine JA.mid (X := Nat) (fun bs => memR g y = true ∧ memR g r = true) (fun bs => [(32, .pointer (some ⟨b7, 0 + 1, none⟩)), (30, .slice oa t.length cap), (29, .slice (some ⟨bs, 0, none⟩) 2 2), (25, .agg g.cl.toArray), (24, u64 r), (22, u64 y), (21, u64 g.g), (19, .agg g.cl.toArray), (18, .bool true), (4, .pointer (some ⟨b4, 0, none⟩)), (7, .pointer (some ⟨b7, 0, none⟩)), (1, u64 y), (2, .slice oa t.length cap)]) (fun bs => [(bs, Obj.cells #[u64 y, u64 r] 34 (0, 0)), (b7, Obj.cells #[u64 r, u64 s] 36 (0, 0)), (b4, Obj.cells g.cl.toArray 53 (0, 0))]) 5 #[true, true, true, true, true, true, true, true, true, true, true, true, true, true, true, true, true, true, true, true, true, true, false, true, false, false, false, false] ?_ (fun hmid6 => ?_)
  · -- state [0, 1, 2, 3, 4, 5, 6, 7, 8, 9, 10, 11, 12, 13, 14, 15, 16, 17, 18, 19, 20, 21, 23]
    rintro bs ⟨hA, hB⟩
    refine JA.branch [22, 24] (by kernel_rfl) rfl ?_
    refine JAll.cons rfl ?_ ?_
    · -- 22
      refine JO.callV rfl (.yes rfl rfl rfl) rfl Tryd.call146 (fun w1 hw1 => rOf2_any g y r (some ⟨bs, 0, none⟩) oa 2 cap t hok w1 (cs_block (xs := u64s [y, r]) hw1 (by repeat (first | exact List.Mem.head _ | refine List.Mem.tail _ ?_ | refine List.mem_append_right _ ?_)) (show 2 ≤ 1000000 by decide)) (hb.old hw1) ht) ?_
      exact JA.weak rfl (by kernel_rfl) (by exact Keeps.k) (by exact Sub.k) (hmid1 0 (by exact ⟨hA, hB⟩))
    refine JAll.cons rfl ?_ JAll.nil
    refine JO.val rfl rfl rfl (.yes rfl rfl rfl) (Ev.load1 rfl Tryd.underlying34 rfl (Rd.own memK rfl)) ?_
    exact JA.weak rfl (by kernel_rfl) (by exact Keeps.k) (by exact Sub.k) (hmid2 bs (by exact ⟨hA, hB⟩))
  refine JA.mid (X := Nat) (fun bs => memR g y = true ∧ memR g r = true) (fun bs => [(33, u64 s), (30, .slice oa t.length cap), (28, u64 r), (26, u64 y), (25, .agg g.cl.toArray), (24, u64 r), (22, u64 y), (21, u64 g.g), (19, .agg g.cl.toArray), (18, .bool true), (4, .pointer (some ⟨b4, 0, none⟩)), (7, .pointer (some ⟨b7, 0, none⟩)), (1, u64 y), (2, .slice oa t.length cap)]) (fun bs => [(b7, Obj.cells #[u64 r, u64 s] 36 (0, 0)), (b4, Obj.cells g.cl.toArray 53 (0, 0))]) 5 #[true, true, true, true, true, true, true, true, true, true, true, true, true, true, true, true, true, true, true, true, false, true, false, true, true, false, false, false] ?_ (fun hmid7 => ?_)
  · -- state [0, 1, 2, 3, 4, 5, 6, 7, 8, 9, 10, 11, 12, 13, 14, 15, 16, 17, 18, 19, 21, 23, 24]
    rintro bs ⟨hA, hB⟩
    refine JA.one 20 ?_
    refine JO.new rfl rfl rfl (.yes rfl rfl rfl) (En.bsN (e := 34) rfl (fun _ => by kernel_rfl)) (fun b29 hb29 => ?_)
    obtain ⟨bs, rfl⟩ : ∃ b, b = b29 := ⟨_, rfl⟩
    exact JA.weak rfl (by kernel_rfl) (by exact Keeps.k) (by exact Sub.k) (hmid2 bs (by exact ⟨hA, hB⟩))
  refine JA.mid (X := Nat) (fun bs => memR g y = true ∧ memR g r = true) (fun bs => [(33, u64 s), (30, .slice oa t.length cap), (29, .slice (some ⟨bs, 0, none⟩) 2 2), (24, u64 r), (22, u64 y), (21, u64 g.g), (19, .agg g.cl.toArray), (18, .bool true), (4, .pointer (some ⟨b4, 0, none⟩)), (7, .pointer (some ⟨b7, 0, none⟩)), (1, u64 y), (2, .slice oa t.length cap)]) (fun bs => [(bs, Obj.cells #[u64 y, u64 r] 34 (0, 0)), (b7, Obj.cells #[u64 r, u64 s] 36 (0, 0)), (b4, Obj.cells g.cl.toArray 53 (0, 0))]) 5 #[true, true, true, true, true, true, true, true, true, true, true, true, true, true, true, true, false, true, true, true, true, true, false, true, true, false, false, false] ?_ (fun hmid8 => ?_)
  · -- state [0, 1, 2, 3, 4, 5, 6, 7, 8, 9, 10, 11, 12, 13, 14, 15, 17, 18, 19, 20, 21, 23, 24]
    rintro bs ⟨hA, hB⟩
    refine JA.one 16 ?_
    refine JO.val rfl rfl rfl (.yes rfl rfl rfl) (Ev.lB Tryd.underlying53 Tryd.sizeOf53) ?_
    exact JA.weak rfl (by kernel_rfl) (by exact Keeps.k) (by exact Sub.k) (hmid2 bs (by exact ⟨hA, hB⟩))
  refine JA.mid (X := Nat) (fun bs => memR g y = true ∧ memR g r = true) (fun bs => [(32, .pointer (some ⟨b7, 0 + 1, none⟩)), (31, u64 (chalR g y r t)), (23, .pointer (some ⟨b7, 0 + 0, none⟩)), (22, u64 y), (21, u64 g.g), (19, .agg g.cl.toArray), (18, .bool true), (4, .pointer (some ⟨b4, 0, none⟩)), (7, .pointer (some ⟨b7, 0, none⟩)), (1, u64 y), (2, .slice oa t.length cap)]) (fun bs => [(b7, Obj.cells #[u64 r, u64 s] 36 (0, 0)), (b4, Obj.cells g.cl.toArray 53 (0, 0))]) 5 #[true, true, true, true, true, true, true, true, true, true, true, true, true, true, true, false, true, true, true, true, true, true, true, true, false, false, false, false] ?_ (fun hmid9 => ?_)
  · -- state [0, 1, 2, 3, 4, 5, 6, 7, 8, 9, 10, 11, 12, 13, 14, 16, 17, 18, 19, 20, 21, 22, 23]
    rintro bs ⟨hA, hB⟩
    refine JA.branch [15, 24] (by kernel_rfl) rfl ?_
    refine JAll.cons rfl ?_ ?_
    · -- 15
      refine JO.val rfl rfl rfl (.yes rfl rfl rfl) (Ev.load1 rfl Tryd.underlying34 rfl (Rd.own memK rfl)) ?_
      exact JA.weak rfl (by kernel_rfl) (by exact Keeps.k) (by exact Sub.k) (hmid1 0 (by exact ⟨hA, hB⟩))
    refine JAll.cons rfl ?_ JAll.nil
    refine JO.val rfl rfl rfl (.yes rfl rfl rfl) (Ev.load1 rfl Tryd.underlying34 rfl (Rd.own memK rfl)) ?_
    exact JA.weak rfl (by kernel_rfl) (by exact Keeps.k) (by exact Sub.k) (hmid3 0 (by exact ⟨hA, hB⟩))
  refine JA.mid (X := Nat) (fun bs => memR g y = true ∧ memR g r = true) (fun bs => [(33, u64 s), (30, .slice oa t.length cap), (29, .slice (some ⟨bs, 0, none⟩) 2 2), (25, .agg g.cl.toArray), (23, .pointer (some ⟨b7, 0 + 0, none⟩)), (22, u64 y), (21, u64 g.g), (19, .agg g.cl.toArray), (18, .bool true), (4, .pointer (some ⟨b4, 0, none⟩)), (7, .pointer (some ⟨b7, 0, none⟩)), (1, u64 y), (2, .slice oa t.length cap)]) (fun bs => [(bs, Obj.cells #[u64 y, u64 r] 34 (0, 0)), (b7, Obj.cells #[u64 r, u64 s] 36 (0, 0)), (b4, Obj.cells g.cl.toArray 53 (0, 0))]) 5 #[true, true, true, true, true, true, true, true, true, true, true, true, true, true, true, false, true, true, true, true, true, true, false, true, true, false, false, false] ?_ (fun hmid10 => ?_)
  · -- state [0, 1, 2, 3, 4, 5, 6, 7, 8, 9, 10, 11, 12, 13, 14, 16, 17, 18, 19, 20, 21, 23, 24]
    rintro bs ⟨hA, hB⟩
    refine JA.branch [15, 22] (by kernel_rfl) rfl ?_
    refine JAll.cons rfl ?_ ?_
    · -- 15
      refine JO.val rfl rfl rfl (.yes rfl rfl rfl) (Ev.load1 rfl Tryd.underlying34 rfl (Rd.own memK rfl)) ?_
      exact JA.weak rfl (by kernel_rfl) (by exact Keeps.k) (by exact Sub.k) (hmid2 bs (by exact ⟨hA, hB⟩))
    refine JAll.cons rfl ?_ JAll.nil
    refine JO.callV rfl (.yes rfl rfl rfl) rfl Tryd.call146 (fun w1 hw1 => rOf2_any g y r (some ⟨bs, 0, none⟩) oa 2 cap t hok w1 (cs_block (xs := u64s [y, r]) hw1 (by repeat (first | exact List.Mem.head _ | refine List.Mem.tail _ ?_ | refine List.mem_append_right _ ?_)) (show 2 ≤ 1000000 by decide)) (hb.old hw1) ht) ?_
    exact JA.weak rfl (by kernel_rfl) (by exact Keeps.k) (by exact Sub.k) (hmid3 0 (by exact ⟨hA, hB⟩))
  refine JA.mid (X := Nat) (fun bs => memR g y = true ∧ memR g r = true) (fun bs => [(32, .pointer (some ⟨b7, 0 + 1, none⟩)), (31, u64 (chalR g y r t)), (24, u64 r), (22, u64 y), (20, .pointer (some ⟨b4, 0 + 2, none⟩)), (19, .agg g.cl.toArray), (18, .bool true), (4, .pointer (some ⟨b4, 0, none⟩)), (7, .pointer (some ⟨b7, 0, none⟩)), (1, u64 y), (2, .slice oa t.length cap)]) (fun bs => [(b7, Obj.cells #[u64 r, u64 s] 36 (0, 0)), (b4, Obj.cells g.cl.toArray 53 (0, 0))]) 5 #[true, true, true, true, true, true, true, true, true, true, true, true, false, true, true, true, true, true, true, true, true, true, true, true, false, false, false, false] ?_ (fun hmid11 => ?_)
  · -- state [0, 1, 2, 3, 4, 5, 6, 7, 8, 9, 10, 11, 13, 14, 15, 16, 17, 18, 19, 20, 21, 22, 23]
    rintro bs ⟨hA, hB⟩
    refine JA.branch [12, 24] (by kernel_rfl) rfl ?_
    refine JAll.cons rfl ?_ ?_
    · -- 12
      refine JO.val rfl rfl rfl (.yes rfl rfl rfl) (Ev.load1 rfl Tryd.underlying34 rfl (Rd.own memK rfl)) ?_
      exact JA.weak rfl (by kernel_rfl) (by exact Keeps.k) (by exact Sub.k) (hmid1 0 (by exact ⟨hA, hB⟩))
    refine JAll.cons rfl ?_ JAll.nil
    refine JO.val rfl rfl rfl (.yes rfl rfl rfl) (Ev.load1 rfl Tryd.underlying34 rfl (Rd.own memK rfl)) ?_
    exact JA.weak rfl (by kernel_rfl) (by exact Keeps.k) (by exact Sub.k) (hmid4 0 (by exact ⟨hA, hB⟩))
  refine JA.mid (X := Nat) (fun bs => memR g y = true ∧ memR g r = true) (fun bs => [(33, u64 s), (30, .slice oa t.length cap), (29, .slice (some ⟨bs, 0, none⟩) 2 2), (25, .agg g.cl.toArray), (24, u64 r), (22, u64 y), (20, .pointer (some ⟨b4, 0 + 2, none⟩)), (19, .agg g.cl.toArray), (18, .bool true), (4, .pointer (some ⟨b4, 0, none⟩)), (7, .pointer (some ⟨b7, 0, none⟩)), (1, u64 y), (2, .slice oa t.length cap)]) (fun bs => [(bs, Obj.cells #[u64 y, u64 r] 34 (0, 0)), (b7, Obj.cells #[u64 r, u64 s] 36 (0, 0)), (b4, Obj.cells g.cl.toArray 53 (0, 0))]) 5 #[true, true, true, true, true, true, true, true, true, true, true, true, false, true, true, true, true, true, true, true, true, true, false, true, true, false, false, false] ?_ (fun hmid12 => ?_)
  · -- state [0, 1, 2, 3, 4, 5, 6, 7, 8, 9, 10, 11, 13, 14, 15, 16, 17, 18, 19, 20, 21, 23, 24]
    rintro bs ⟨hA, hB⟩
    refine JA.branch [12, 22] (by kernel_rfl) rfl ?_
    refine JAll.cons rfl ?_ ?_
    · -- 12
      refine JO.val rfl rfl rfl (.yes rfl rfl rfl) (Ev.load1 rfl Tryd.underlying34 rfl (Rd.own memK rfl)) ?_
      exact JA.weak rfl (by kernel_rfl) (by exact Keeps.k) (by exact Sub.k) (hmid2 bs (by exact ⟨hA, hB⟩))
    refine JAll.cons rfl ?_ JAll.nil
    refine JO.callV rfl (.yes rfl rfl rfl) rfl Tryd.call146 (fun w1 hw1 => rOf2_any g y r (some ⟨bs, 0, none⟩) oa 2 cap t hok w1 (cs_block (xs := u64s [y, r]) hw1 (by repeat (first | exact List.Mem.head _ | refine List.Mem.tail _ ?_ | refine List.mem_append_right _ ?_)) (show 2 ≤ 1000000 by decide)) (hb.old hw1) ht) ?_
    exact JA.weak rfl (by kernel_rfl) (by exact Keeps.k) (by exact Sub.k) (hmid4 0 (by exact ⟨hA, hB⟩))
  refine JA.mid (X := Nat) (fun bs => memR g y = true ∧ memR g r = true) (fun bs => [(33, u64 s), (31, u64 (chalR g y r t)), (23, .pointer (some ⟨b7, 0 + 0, none⟩)), (22, u64 y), (20, .pointer (some ⟨b4, 0 + 2, none⟩)), (19, .agg g.cl.toArray), (18, .bool true), (4, .pointer (some ⟨b4, 0, none⟩)), (7, .pointer (some ⟨b7, 0, none⟩)), (1, u64 y), (2, .slice oa t.length cap)]) (fun bs => [(b7, Obj.cells #[u64 r, u64 s] 36 (0, 0)), (b4, Obj.cells g.cl.toArray 53 (0, 0))]) 5 #[true, true, true, true, true, true, true, true, true, true, true, true, false, true, true, false, true, true, true, true, true, true, true, true, true, false, false, false] ?_ (fun hmid13 => ?_)
  · -- state [0, 1, 2, 3, 4, 5, 6, 7, 8, 9, 10, 11, 13, 14, 16, 17, 18, 19, 20, 21, 22, 23, 24]
    rintro bs ⟨hA, hB⟩
    refine JA.branch [12, 15] (by kernel_rfl) rfl ?_
    refine JAll.cons rfl ?_ ?_
    · -- 12
      refine JO.val rfl rfl rfl (.yes rfl rfl rfl) (Ev.load1 rfl Tryd.underlying34 rfl (Rd.own memK rfl)) ?_
      exact JA.weak rfl (by kernel_rfl) (by exact Keeps.k) (by exact Sub.k) (hmid3 0 (by exact ⟨hA, hB⟩))
    refine JAll.cons rfl ?_ JAll.nil
    refine JO.val rfl rfl rfl (.yes rfl rfl rfl) (Ev.load1 rfl Tryd.underlying34 rfl (Rd.own memK rfl)) ?_
    exact JA.weak rfl (by kernel_rfl) (by exact Keeps.k) (by exact Sub.k) (hmid4 0 (by exact ⟨hA, hB⟩))
  refine JA.mid (X := Nat) (fun bs => memR g y = true ∧ memR g r = true) (fun bs => [(32, .pointer (some ⟨b7, 0 + 1, none⟩)), (31, u64 (chalR g y r t)), (24, u64 r), (22, u64 y), (21, u64 g.g), (18, .bool true), (4, .pointer (some ⟨b4, 0, none⟩)), (7, .pointer (some ⟨b7, 0, none⟩)), (1, u64 y), (2, .slice oa t.length cap)]) (fun bs => [(b7, Obj.cells #[u64 r, u64 s] 36 (0, 0)), (b4, Obj.cells g.cl.toArray 53 (0, 0))]) 5 #[true, true, true, true, true, true, true, true, true, true, false, true, true, true, true, true, true, true, true, true, true, true, true, true, false, false, false, false] ?_ (fun hmid14 => ?_)
  · -- state [0, 1, 2, 3, 4, 5, 6, 7, 8, 9, 11, 12, 13, 14, 15, 16, 17, 18, 19, 20, 21, 22, 23]
    rintro bs ⟨hA, hB⟩
    refine JA.branch [10, 24] (by kernel_rfl) rfl ?_
    refine JAll.cons rfl ?_ ?_
    · -- 10
      refine JO.val rfl rfl rfl (.yes rfl rfl rfl) (Ev.lB Tryd.underlying53 Tryd.sizeOf53) ?_
      exact JA.weak rfl (by kernel_rfl) (by exact Keeps.k) (by exact Sub.k) (hmid1 0 (by exact ⟨hA, hB⟩))
    refine JAll.cons rfl ?_ JAll.nil
    refine JO.val rfl rfl rfl (.yes rfl rfl rfl) (Ev.load1 rfl Tryd.underlying34 rfl (Rd.own memK rfl)) ?_
    exact JA.weak rfl (by kernel_rfl) (by exact Keeps.k) (by exact Sub.k) (hmid5 0 (by exact ⟨hA, hB⟩))
  refine JA.mid (X := Nat) (fun bs => memR g y = true ∧ memR g r = true) (fun bs => [(33, u64 s), (30, .slice oa t.length cap), (29, .slice (some ⟨bs, 0, none⟩) 2 2), (25, .agg g.cl.toArray), (24, u64 r), (22, u64 y), (21, u64 g.g), (18, .bool true), (4, .pointer (some ⟨b4, 0, none⟩)), (7, .pointer (some ⟨b7, 0, none⟩)), (1, u64 y), (2, .slice oa t.length cap)]) (fun bs => [(bs, Obj.cells #[u64 y, u64 r] 34 (0, 0)), (b7, Obj.cells #[u64 r, u64 s] 36 (0, 0)), (b4, Obj.cells g.cl.toArray 53 (0, 0))]) 5 #[true, true, true, true, true, true, true, true, true, true, false, true, true, true, true, true, true, true, true, true, true, true, false, true, true, false, false, false] ?_ (fun hmid15 => ?_)
  · -- state [0, 1, 2, 3, 4, 5, 6, 7, 8, 9, 11, 12, 13, 14, 15, 16, 17, 18, 19, 20, 21, 23, 24]
    rintro bs ⟨hA, hB⟩
    refine JA.branch [10, 22] (by kernel_rfl) rfl ?_
    refine JAll.cons rfl ?_ ?_
    · -- 10
      refine JO.val rfl rfl rfl (.yes rfl rfl rfl) (Ev.lB Tryd.underlying53 Tryd.sizeOf53) ?_
      exact JA.weak rfl (by kernel_rfl) (by exact Keeps.k) (by exact Sub.k) (hmid2 bs (by exact ⟨hA, hB⟩))
    refine JAll.cons rfl ?_ JAll.nil
    refine JO.callV rfl (.yes rfl rfl rfl) rfl Tryd.call146 (fun w1 hw1 => rOf2_any g y r (some ⟨bs, 0, none⟩) oa 2 cap t hok w1 (cs_block (xs := u64s [y, r]) hw1 (by repeat (first | exact List.Mem.head _ | refine List.Mem.tail _ ?_ | refine List.mem_append_right _ ?_)) (show 2 ≤ 1000000 by decide)) (hb.old hw1) ht) ?_
    exact JA.weak rfl (by kernel_rfl) (by exact Keeps.k) (by exact Sub.k) (hmid5 0 (by exact ⟨hA, hB⟩))
  refine JA.mid (X := Nat) (fun bs => memR g y = true ∧ memR g r = true) (fun bs => [(33, u64 s), (31, u64 (chalR g y r t)), (23, .pointer (some ⟨b7, 0 + 0, none⟩)), (22, u64 y), (21, u64 g.g), (18, .bool true), (4, .pointer (some ⟨b4, 0, none⟩)), (7, .pointer (some ⟨b7, 0, none⟩)), (1, u64 y), (2, .slice oa t.length cap)]) (fun bs => [(b7, Obj.cells #[u64 r, u64 s] 36 (0, 0)), (b4, Obj.cells g.cl.toArray 53 (0, 0))]) 5 #[true, true, true, true, true, true, true, true, true, true, false, true, true, true, true, false, true, true, true, true, true, true, true, true, true, false, false, false] ?_ (fun hmid16 => ?_)
  · -- state [0, 1, 2, 3, 4, 5, 6, 7, 8, 9, 11, 12, 13, 14, 16, 17, 18, 19, 20, 21, 22, 23, 24]
    rintro bs ⟨hA, hB⟩
    refine JA.branch [10, 15] (by kernel_rfl) rfl ?_
    refine JAll.cons rfl ?_ ?_
    · -- 10
      refine JO.val rfl rfl rfl (.yes rfl rfl rfl) (Ev.lB Tryd.underlying53 Tryd.sizeOf53) ?_
      exact JA.weak rfl (by kernel_rfl) (by exact Keeps.k) (by exact Sub.k) (hmid3 0 (by exact ⟨hA, hB⟩))
    refine JAll.cons rfl ?_ JAll.nil
    refine JO.val rfl rfl rfl (.yes rfl rfl rfl) (Ev.load1 rfl Tryd.underlying34 rfl (Rd.own memK rfl)) ?_
    exact JA.weak rfl (by kernel_rfl) (by exact Keeps.k) (by exact Sub.k) (hmid5 0 (by exact ⟨hA, hB⟩))
  refine JA.mid (X := Nat) (fun bs => memR g y = true ∧ memR g r = true) (fun bs => [(33, u64 s), (31, u64 (chalR g y r t)), (24, u64 r), (22, u64 y), (20, .pointer (some ⟨b4, 0 + 2, none⟩)), (18, .bool true), (4, .pointer (some ⟨b4, 0, none⟩)), (7, .pointer (some ⟨b7, 0, none⟩)), (1, u64 y), (2, .slice oa t.length cap)]) (fun bs => [(b7, Obj.cells #[u64 r, u64 s] 36 (0, 0)), (b4, Obj.cells g.cl.toArray 53 (0, 0))]) 5 #[true, true, true, true, true, true, true, true, true, true, false, true, false, true, true, true, true, true, true, true, true, true, true, true, true, false, false, false] ?_ (fun hmid17 => ?_)
  · -- state [0, 1, 2, 3, 4, 5, 6, 7, 8, 9, 11, 13, 14, 15, 16, 17, 18, 19, 20, 21, 22, 23, 24]
    rintro bs ⟨hA, hB⟩
    refine JA.branch [10, 12] (by kernel_rfl) rfl ?_
    refine JAll.cons rfl ?_ ?_
    · -- 10
      refine JO.val rfl rfl rfl (.yes rfl rfl rfl) (Ev.lB Tryd.underlying53 Tryd.sizeOf53) ?_
      exact JA.weak rfl (by kernel_rfl) (by exact Keeps.k) (by exact Sub.k) (hmid4 0 (by exact ⟨hA, hB⟩))
    refine JAll.cons rfl ?_ JAll.nil
    refine JO.val rfl rfl rfl (.yes rfl rfl rfl) (Ev.load1 rfl Tryd.underlying34 rfl (Rd.own memK rfl)) ?_
    exact JA.weak rfl (by kernel_rfl) (by exact Keeps.k) (by exact Sub.k) (hmid5 0 (by exact ⟨hA, hB⟩))
  refine JA.mid (X := Nat) (fun bs => memR g y = true ∧ memR g r = true) (fun bs => [(32, .pointer (some ⟨b7, 0 + 1, none⟩)), (30, .slice oa t.length cap), (28, u64 r), (26, u64 y), (25, .agg g.cl.toArray), (24, u64 r), (22, u64 y), (21, u64 g.g), (19, .agg g.cl.toArray), (18, .bool true), (4, .pointer (some ⟨b4, 0, none⟩)), (7, .pointer (some ⟨b7, 0, none⟩)), (1, u64 y), (2, .slice oa t.length cap)]) (fun bs => [(b7, Obj.cells #[u64 r, u64 s] 36 (0, 0)), (b4, Obj.cells g.cl.toArray 53 (0, 0))]) 6 #[true, true, true, true, true, true, true, true, true, true, true, true, true, true, true, true, true, true, true, true, false, true, false, true, false, false, false, false] ?_ (fun hmid18 => ?_)
  · -- state [0, 1, 2, 3, 4, 5, 6, 7, 8, 9, 10, 11, 12, 13, 14, 15, 16, 17, 18, 19, 21, 23]
    rintro bs ⟨hA, hB⟩
    refine JA.branch [20, 24] (by kernel_rfl) rfl ?_
    refine JAll.cons rfl ?_ ?_
    · -- 20
      refine JO.new rfl rfl rfl (.yes rfl rfl rfl) (En.bsN (e := 34) rfl (fun _ => by kernel_rfl)) (fun b29 hb29 => ?_)
      obtain ⟨bs, rfl⟩ : ∃ b, b = b29 := ⟨_, rfl⟩
      exact JA.weak rfl (by kernel_rfl) (by exact Keeps.k) (by exact Sub.k) (hmid6 bs (by exact ⟨hA, hB⟩))
    refine JAll.cons rfl ?_ JAll.nil
    refine JO.val rfl rfl rfl (.yes rfl rfl rfl) (Ev.load1 rfl Tryd.underlying34 rfl (Rd.own memK rfl)) ?_
    exact JA.weak rfl (by kernel_rfl) (by exact Keeps.k) (by exact Sub.k) (hmid7 0 (by exact ⟨hA, hB⟩))
  refine JA.mid (X := Nat) (fun bs => memR g y = true ∧ memR g r = true) (fun bs => [(33, u64 s), (30, .slice oa t.length cap), (27, .pointer (some ⟨b7, 0 + 0, none⟩)), (26, u64 y), (25, .agg g.cl.toArray), (24, u64 r), (22, u64 y), (21, u64 g.g), (19, .agg g.cl.toArray), (18, .bool true), (4, .pointer (some ⟨b4, 0, none⟩)), (7, .pointer (some ⟨b7, 0, none⟩)), (1, u64 y), (2, .slice oa t.length cap)]) (fun bs => [(b7, Obj.cells #[u64 r, u64 s] 36 (0, 0)), (b4, Obj.cells g.cl.toArray 53 (0, 0))]) 6 #[true, true, true, true, true, true, true, true, true, true, true, true, true, true, true, true, true, true, true, false, false, true, false, true, true, false, false, false] ?_ (fun hmid19 => ?_)
  · -- state [0, 1, 2, 3, 4, 5, 6, 7, 8, 9, 10, 11, 12, 13, 14, 15, 16, 17, 18, 21, 23, 24]
    rintro bs ⟨hA, hB⟩
    refine JA.one 19 ?_
    refine JO.val rfl rfl rfl (.yes rfl rfl rfl) (Ev.load1 rfl Tryd.underlying34 rfl (Rd.own memK rfl)) ?_
    exact JA.weak rfl (by kernel_rfl) (by exact Keeps.k) (by exact Sub.k) (hmid7 0 (by exact ⟨hA, hB⟩))
  refine JA.mid (X := Nat) (fun bs => memR g y = true ∧ memR g r = true) (fun bs => [(32, .pointer (some ⟨b7, 0 + 1, none⟩)), (30, .slice oa t.length cap), (29, .slice (some ⟨bs, 0, none⟩) 2 2), (24, u64 r), (22, u64 y), (21, u64 g.g), (19, .agg g.cl.toArray), (18, .bool true), (4, .pointer (some ⟨b4, 0, none⟩)), (7, .pointer (some ⟨b7, 0, none⟩)), (1, u64 y), (2, .slice oa t.length cap)]) (fun bs => [(bs, Obj.cells #[u64 y, u64 r] 34 (0, 0)), (b7, Obj.cells #[u64 r, u64 s] 36 (0, 0)), (b4, Obj.cells g.cl.toArray 53 (0, 0))]) 6 #[true, true, true, true, true, true, true, true, true, true, true, true, true, true, true, true, false, true, true, true, true, true, false, true, false, false, false, false] ?_ (fun hmid20 => ?_)
  · -- state [0, 1, 2, 3, 4, 5, 6, 7, 8, 9, 10, 11, 12, 13, 14, 15, 17, 18, 19, 20, 21, 23]
    rintro bs ⟨hA, hB⟩
    refine JA.branch [16, 24] (by kernel_rfl) rfl ?_
    refine JAll.cons rfl ?_ ?_
    · -- 16
      refine JO.val rfl rfl rfl (.yes rfl rfl rfl) (Ev.lB Tryd.underlying53 Tryd.sizeOf53) ?_
      exact JA.weak rfl (by kernel_rfl) (by exact Keeps.k) (by exact Sub.k) (hmid6 bs (by exact ⟨hA, hB⟩))
    refine JAll.cons rfl ?_ JAll.nil
    refine JO.val rfl rfl rfl (.yes rfl rfl rfl) (Ev.load1 rfl Tryd.underlying34 rfl (Rd.own memK rfl)) ?_
    exact JA.weak rfl (by kernel_rfl) (by exact Keeps.k) (by exact Sub.k) (hmid8 bs (by exact ⟨hA, hB⟩))
  refine JA.mid (X := Nat) (fun bs => memR g y = true ∧ memR g r = true) (fun bs => [(33, u64 s), (30, .slice oa t.length cap), (28, u64 r), (26, u64 y), (24, u64 r), (22, u64 y), (21, u64 g.g), (19, .agg g.cl.toArray), (18, .bool true), (4, .pointer (some ⟨b4, 0, none⟩)), (7, .pointer (some ⟨b7, 0, none⟩)), (1, u64 y), (2, .slice oa t.length cap)]) (fun bs => [(b7, Obj.cells #[u64 r, u64 s] 36 (0, 0)), (b4, Obj.cells g.cl.toArray 53 (0, 0))]) 6 #[true, true, true, true, true, true, true, true, true, true, true, true, true, true, true, true, false, true, true, true, false, true, false, true, true, false, false, false] ?_ (fun hmid21 => ?_)
  · -- state [0, 1, 2, 3, 4, 5, 6, 7, 8, 9, 10, 11, 12, 13, 14, 15, 17, 18, 19, 21, 23, 24]
    rintro bs ⟨hA, hB⟩
    refine JA.branch [16, 20] (by kernel_rfl) rfl ?_
    refine JAll.cons rfl ?_ ?_
    · -- 16
      refine JO.val rfl rfl rfl (.yes rfl rfl rfl) (Ev.lB Tryd.underlying53 Tryd.sizeOf53) ?_
      exact JA.weak rfl (by kernel_rfl) (by exact Keeps.k) (by exact Sub.k) (hmid7 0 (by exact ⟨hA, hB⟩))
    refine JAll.cons rfl ?_ JAll.nil
    refine JO.new rfl rfl rfl (.yes rfl rfl rfl) (En.bsN (e := 34) rfl (fun _ => by kernel_rfl)) (fun b29 hb29 => ?_)
    obtain ⟨bs, rfl⟩ : ∃ b, b = b29 := ⟨_, rfl⟩
    exact JA.weak rfl (by kernel_rfl) (by exact Keeps.k) (by exact Sub.k) (hmid8 bs (by exact ⟨hA, hB⟩))
  refine JA.mid (X := Nat) (fun bs => memR g y = true ∧ memR g r = true) (fun bs => [(32, .pointer (some ⟨b7, 0 + 1, none⟩)), (30, .slice oa t.length cap), (29, .slice (some ⟨bs, 0, none⟩) 2 2), (25, .agg g.cl.toArray), (23, .pointer (some ⟨b7, 0 + 0, none⟩)), (22, u64 y), (21, u64 g.g), (19, .agg g.cl.toArray), (18, .bool true), (4, .pointer (some ⟨b4, 0, none⟩)), (7, .pointer (some ⟨b7, 0, none⟩)), (1, u64 y), (2, .slice oa t.length cap)]) (fun bs => [(bs, Obj.cells #[u64 y, u64 r] 34 (0, 0)), (b7, Obj.cells #[u64 r, u64 s] 36 (0, 0)), (b4, Obj.cells g.cl.toArray 53 (0, 0))]) 6 #[true, true, true, true, true, true, true, true, true, true, true, true, true, true, true, false, true, true, true, true, true, true, false, true, false, false, false, false] ?_ (fun hmid22 => ?_)
  · -- state [0, 1, 2, 3, 4, 5, 6, 7, 8, 9, 10, 11, 12, 13, 14, 16, 17, 18, 19, 20, 21, 23]
    rintro bs ⟨hA, hB⟩
    refine JA.branch [15, 22, 24] (by kernel_rfl) rfl ?_
    refine JAll.cons rfl ?_ ?_
    · -- 15
      refine JO.val rfl rfl rfl (.yes rfl rfl rfl) (Ev.load1 rfl Tryd.underlying34 rfl (Rd.own memK rfl)) ?_
      exact JA.weak rfl (by kernel_rfl) (by exact Keeps.k) (by exact Sub.k) (hmid6 bs (by exact ⟨hA, hB⟩))
    refine JAll.cons rfl ?_ ?_
    · -- 22
      refine JO.callV rfl (.yes rfl rfl rfl) rfl Tryd.call146 (fun w1 hw1 => rOf2_any g y r (some ⟨bs, 0, none⟩) oa 2 cap t hok w1 (cs_block (xs := u64s [y, r]) hw1 (by repeat (first | exact List.Mem.head _ | refine List.Mem.tail _ ?_ | refine List.mem_append_right _ ?_)) (show 2 ≤ 1000000 by decide)) (hb.old hw1) ht) ?_
      exact JA.weak rfl (by kernel_rfl) (by exact Keeps.k) (by exact Sub.k) (hmid9 0 (by exact ⟨hA, hB⟩))
    refine JAll.cons rfl ?_ JAll.nil
    refine JO.val rfl rfl rfl (.yes rfl rfl rfl) (Ev.load1 rfl Tryd.underlying34 rfl (Rd.own memK rfl)) ?_
    exact JA.weak rfl (by kernel_rfl) (by exact Keeps.k) (by exact Sub.k) (hmid10 bs (by exact ⟨hA, hB⟩))
  refine JA.mid (X := Nat) (fun bs => memR g y = true ∧ memR g r = true) (fun bs => [(33, u64 s), (30, .slice oa t.length cap), (28, u64 r), (26, u64 y), (25, .agg g.cl.toArray), (23, .pointer (some ⟨b7, 0 + 0, none⟩)), (22, u64 y), (21, u64 g.g), (19, .agg g.cl.toArray), (18, .bool true), (4, .pointer (some ⟨b4, 0, none⟩)), (7, .pointer (some ⟨b7, 0, none⟩)), (1, u64 y), (2, .slice oa t.length cap)]) (fun bs => [(b7, Obj.cells #[u64 r, u64 s] 36 (0, 0)), (b4, Obj.cells g.cl.toArray 53 (0, 0))]) 6 #[true, true, true, true, true, true, true, true, true, true, true, true, true, true, true, false, true, true, true, true, false, true, false, true, true, false, false, false] ?_ (fun hmid23 => ?_)
  · -- state [0, 1, 2, 3, 4, 5, 6, 7, 8, 9, 10, 11, 12, 13, 14, 16, 17, 18, 19, 21, 23, 24]
    rintro bs ⟨hA, hB⟩
    refine JA.branch [15, 20] (by kernel_rfl) rfl ?_
    refine JAll.cons rfl ?_ ?_
    · -- 15
      refine JO.val rfl rfl rfl (.yes rfl rfl rfl) (Ev.load1 rfl Tryd.underlying34 rfl (Rd.own memK rfl)) ?_
      exact JA.weak rfl (by kernel_rfl) (by exact Keeps.k) (by exact Sub.k) (hmid7 0 (by exact ⟨hA, hB⟩))
    refine JAll.cons rfl ?_ JAll.nil
    refine JO.new rfl rfl rfl (.yes rfl rfl rfl) (En.bsN (e := 34) rfl (fun _ => by kernel_rfl)) (fun b29 hb29 => ?_)
    obtain ⟨bs, rfl⟩ : ∃ b, b = b29 := ⟨_, rfl⟩
    exact JA.weak rfl (by kernel_rfl) (by exact Keeps.k) (by exact Sub.k) (hmid10 bs (by exact ⟨hA, hB⟩))
  refine JA.mid (X := Nat) (fun bs => memR g y = true ∧ memR g r = true) (fun bs => [(33, u64 s), (30, .slice oa t.length cap), (29, .slice (some ⟨bs, 0, none⟩) 2 2), (23, .pointer (some ⟨b7, 0 + 0, none⟩)), (22, u64 y), (21, u64 g.g), (19, .agg g.cl.toArray), (18, .bool true), (4, .pointer (some ⟨b4, 0, none⟩)), (7, .pointer (some ⟨b7, 0, none⟩)), (1, u64 y), (2, .slice oa t.length cap)]) (fun bs => [(bs, Obj.cells #[u64 y, u64 r] 34 (0, 0)), (b7, Obj.cells #[u64 r, u64 s] 36 (0, 0)), (b4, Obj.cells g.cl.toArray 53 (0, 0))]) 6 #[true, true, true, true, true, true, true, true, true, true, true, true, true, true, true, false, false, true, true, true, true, true, false, true, true, false, false, false] ?_ (fun hmid24 => ?_)
  · -- state [0, 1, 2, 3, 4, 5, 6, 7, 8, 9, 10, 11, 12, 13, 14, 17, 18, 19, 20, 21, 23, 24]
    rintro bs ⟨hA, hB⟩
    refine JA.branch [15, 16] (by kernel_rfl) rfl ?_
    refine JAll.cons rfl ?_ ?_
    · -- 15
      refine JO.val rfl rfl rfl (.yes rfl rfl rfl) (Ev.load1 rfl Tryd.underlying34 rfl (Rd.own memK rfl)) ?_
      exact JA.weak rfl (by kernel_rfl) (by exact Keeps.k) (by exact Sub.k) (hmid8 bs (by exact ⟨hA, hB⟩))
    refine JAll.cons rfl ?_ JAll.nil
    refine JO.val rfl rfl rfl (.yes rfl rfl rfl) (Ev.lB Tryd.underlying53 Tryd.sizeOf53) ?_
    exact JA.weak rfl (by kernel_rfl) (by exact Keeps.k) (by exact Sub.k) (hmid10 bs (by exact ⟨hA, hB⟩))
  refine JA.mid (X := Nat) (fun bs => memR g y = true ∧ memR g r = true) (fun bs => [(32, .pointer (some ⟨b7, 0 + 1, none⟩)), (30, .slice oa t.length cap), (29, .slice (some ⟨bs, 0, none⟩) 2 2), (25, .agg g.cl.toArray), (24, u64 r), (22, u64 y), (20, .pointer (some ⟨b4, 0 + 2, none⟩)), (19, .agg g.cl.toArray), (18, .bool true), (4, .pointer (some ⟨b4, 0, none⟩)), (7, .pointer (some ⟨b7, 0, none⟩)), (1, u64 y), (2, .slice oa t.length cap)]) (fun bs => [(bs, Obj.cells #[u64 y, u64 r] 34 (0, 0)), (b7, Obj.cells #[u64 r, u64 s] 36 (0, 0)), (b4, Obj.cells g.cl.toArray 53 (0, 0))]) 6 #[true, true, true, true, true, true, true, true, true, true, true, true, false, true, true, true, true, true, true, true, true, true, false, true, false, false, false, false] ?_ (fun hmid25 => ?_)
  · -- state [0, 1, 2, 3, 4, 5, 6, 7, 8, 9, 10, 11, 13, 14, 15, 16, 17, 18, 19, 20, 21, 23]
    rintro bs ⟨hA, hB⟩
    refine JA.branch [12, 22, 24] (by kernel_rfl) rfl ?_
    refine JAll.cons rfl ?_ ?_
    · -- 12
      refine JO.val rfl rfl rfl (.yes rfl rfl rfl) (Ev.load1 rfl Tryd.underlying34 rfl (Rd.own memK rfl)) ?_
      exact JA.weak rfl (by kernel_rfl) (by exact Keeps.k) (by exact Sub.k) (hmid6 bs (by exact ⟨hA, hB⟩))
    refine JAll.cons rfl ?_ ?_
    · -- 22
      refine JO.callV rfl (.yes rfl rfl rfl) rfl Tryd.call146 (fun w1 hw1 => rOf2_any g y r (some ⟨bs, 0, none⟩) oa 2 cap t hok w1 (cs_block (xs := u64s [y, r]) hw1 (by repeat (first | exact List.Mem.head _ | refine List.Mem.tail _ ?_ | refine List.mem_append_right _ ?_)) (show 2 ≤ 1000000 by decide)) (hb.old hw1) ht) ?_
      exact JA.weak rfl (by kernel_rfl) (by exact Keeps.k) (by exact Sub.k) (hmid11 0 (by exact ⟨hA, hB⟩))
    refine JAll.cons rfl ?_ JAll.nil
    refine JO.val rfl rfl rfl (.yes rfl rfl rfl) (Ev.load1 rfl Tryd.underlying34 rfl (Rd.own memK rfl)) ?_
    exact JA.weak rfl (by kernel_rfl) (by exact Keeps.k) (by exact Sub.k) (hmid12 bs (by exact ⟨hA, hB⟩))
  refine JA.mid (X := Nat) (fun bs => memR g y = true ∧ memR g r = true) (fun bs => [(33, u64 s), (30, .slice oa t.length cap), (28, u64 r), (26, u64 y), (25, .agg g.cl.toArray), (24, u64 r), (22, u64 y), (20, .pointer (some ⟨b4, 0 + 2, none⟩)), (19, .agg g.cl.toArray), (18, .bool true), (4, .pointer (some ⟨b4, 0, none⟩)), (7, .pointer (some ⟨b7, 0, none⟩)), (1, u64 y), (2, .slice oa t.length cap)]) (fun bs => [(b7, Obj.cells #[u64 r, u64 s] 36 (0, 0)), (b4, Obj.cells g.cl.toArray 53 (0, 0))]) 6 #[true, true, true, true, true, true, true, true, true, true, true, true, false, true, true, true, true, true, true, true, false, true, false, true, true, false, false, false] ?_ (fun hmid26 => ?_)
  · -- state [0, 1, 2, 3, 4, 5, 6, 7, 8, 9, 10, 11, 13, 14, 15, 16, 17, 18, 19, 21, 23, 24]
    rintro bs ⟨hA, hB⟩
    refine JA.branch [12, 20] (by kernel_rfl) rfl ?_
    refine JAll.cons rfl ?_ ?_
    · -- 12
      refine JO.val rfl rfl rfl (.yes rfl rfl rfl) (Ev.load1 rfl Tryd.underlying34 rfl (Rd.own memK rfl)) ?_
      exact JA.weak rfl (by kernel_rfl) (by exact Keeps.k) (by exact Sub.k) (hmid7 0 (by exact ⟨hA, hB⟩))
    refine JAll.cons rfl ?_ JAll.nil
    refine JO.new rfl rfl rfl (.yes rfl rfl rfl) (En.bsN (e := 34) rfl (fun _ => by kernel_rfl)) (fun b29 hb29 => ?_)
    obtain ⟨bs, rfl⟩ : ∃ b, b = b29 := ⟨_, rfl⟩
    exact JA.weak rfl (by kernel_rfl) (by exact Keeps.k) (by exact Sub.k) (hmid12 bs (by exact ⟨hA, hB⟩))
  refine JA.mid (X := Nat) (fun bs => memR g y = true ∧ memR g r = true) (fun bs => [(33, u64 s), (30, .slice oa t.length cap), (29, .slice (some ⟨bs, 0, none⟩) 2 2), (24, u64 r), (22, u64 y), (20, .pointer (some ⟨b4, 0 + 2, none⟩)), (19, .agg g.cl.toArray), (18, .bool true), (4, .pointer (some ⟨b4, 0, none⟩)), (7, .pointer (some ⟨b7, 0, none⟩)), (1, u64 y), (2, .slice oa t.length cap)]) (fun bs => [(bs, Obj.cells #[u64 y, u64 r] 34 (0, 0)), (b7, Obj.cells #[u64 r, u64 s] 36 (0, 0)), (b4, Obj.cells g.cl.toArray 53 (0, 0))]) 6 #[true, true, true, true, true, true, true, true, true, true, true, true, false, true, true, true, false, true, true, true, true, true, false, true, true, false, false, false] ?_ (fun hmid27 => ?_)
  · -- state [0, 1, 2, 3, 4, 5, 6, 7, 8, 9, 10, 11, 13, 14, 15, 17, 18, 19, 20, 21, 23, 24]
    rintro bs ⟨hA, hB⟩
    refine JA.branch [12, 16] (by kernel_rfl) rfl ?_
    refine JAll.cons rfl ?_ ?_
    · -- 12
      refine JO.val rfl rfl rfl (.yes rfl rfl rfl) (Ev.load1 rfl Tryd.underlying34 rfl (Rd.own memK rfl)) ?_
      exact JA.weak rfl (by kernel_rfl) (by exact Keeps.k) (by exact Sub.k) (hmid8 bs (by exact ⟨hA, hB⟩))
    refine JAll.cons rfl ?_ JAll.nil
    refine JO.val rfl rfl rfl (.yes rfl rfl rfl) (Ev.lB Tryd.underlying53 Tryd.sizeOf53) ?_
    exact JA.weak rfl (by kernel_rfl) (by exact Keeps.k) (by exact Sub.k) (hmid12 bs (by exact ⟨hA, hB⟩))
  refine JA.mid (X := Nat) (fun bs => memR g y = true ∧ memR g r = true) (fun bs => [(32, .pointer (some ⟨b7, 0 + 1, none⟩)), (31, u64 (chalR g y r t)), (23, .pointer (some ⟨b7, 0 + 0, none⟩)), (22, u64 y), (20, .pointer (some ⟨b4, 0 + 2, none⟩)), (19, .agg g.cl.toArray), (18, .bool true), (4, .pointer (some ⟨b4, 0, none⟩)), (7, .pointer (some ⟨b7, 0, none⟩)), (1, u64 y), (2, .slice oa t.length cap)]) (fun bs => [(b7, Obj.cells #[u64 r, u64 s] 36 (0, 0)), (b4, Obj.cells g.cl.toArray 53 (0, 0))]) 6 #[true, true, true, true, true, true, true, true, true, true, true, true, false, true, true, false, true, true, true, true, true, true, true, true, false, false, false, false] ?_ (fun hmid28 => ?_)
  · -- state [0, 1, 2, 3, 4, 5, 6, 7, 8, 9, 10, 11, 13, 14, 16, 17, 18, 19, 20, 21, 22, 23]
    rintro bs ⟨hA, hB⟩
    refine JA.branch [12, 15, 24] (by kernel_rfl) rfl ?_
    refine JAll.cons rfl ?_ ?_
    · -- 12
      refine JO.val rfl rfl rfl (.yes rfl rfl rfl) (Ev.load1 rfl Tryd.underlying34 rfl (Rd.own memK rfl)) ?_
      exact JA.weak rfl (by kernel_rfl) (by exact Keeps.k) (by exact Sub.k) (hmid9 0 (by exact ⟨hA, hB⟩))
    refine JAll.cons rfl ?_ ?_
    · -- 15
      refine JO.val rfl rfl rfl (.yes rfl rfl rfl) (Ev.load1 rfl Tryd.underlying34 rfl (Rd.own memK rfl)) ?_
      exact JA.weak rfl (by kernel_rfl) (by exact Keeps.k) (by exact Sub.k) (hmid11 0 (by exact ⟨hA, hB⟩))
    refine JAll.cons rfl ?_ JAll.nil
    refine JO.val rfl rfl rfl (.yes rfl rfl rfl) (Ev.load1 rfl Tryd.underlying34 rfl (Rd.own memK rfl)) ?_
    exact JA.weak rfl (by kernel_rfl) (by exact Keeps.k) (by exact Sub.k) (hmid13 0 (by exact ⟨hA, hB⟩))
  refine JA.mid (X := Nat) (fun bs => memR g y = true ∧ memR g r = true) (fun bs => [(33, u64 s), (30, .slice oa t.length cap), (29, .slice (some ⟨bs, 0, none⟩) 2 2), (25, .agg g.cl.toArray), (23, .pointer (some ⟨b7, 0 + 0, none⟩)), (22, u64 y), (20, .pointer (some ⟨b4, 0 + 2, none⟩)), (19, .agg g.cl.toArray), (18, .bool true), (4, .pointer (some ⟨b4, 0, none⟩)), (7, .pointer (some ⟨b7, 0, none⟩)), (1, u64 y), (2, .slice oa t.length cap)]) (fun bs => [(bs, Obj.cells #[u64 y, u64 r] 34 (0, 0)), (b7, Obj.cells #[u64 r, u64 s] 36 (0, 0)), (b4, Obj.cells g.cl.toArray 53 (0, 0))]) 6 #[true, true, true, true, true, true, true, true, true, true, true, true, false, true, true, false, true, true, true, true, true, true, false, true, true, false, false, false] ?_ (fun hmid29 => ?_)
  · -- state [0, 1, 2, 3, 4, 5, 6, 7, 8, 9, 10, 11, 13, 14, 16, 17, 18, 19, 20, 21, 23, 24]
    rintro bs ⟨hA, hB⟩
    refine JA.branch [12, 15, 22] (by kernel_rfl) rfl ?_
    refine JAll.cons rfl ?_ ?_
    · -- 12
      refine JO.val rfl rfl rfl (.yes rfl rfl rfl) (Ev.load1 rfl Tryd.underlying34 rfl (Rd.own memK rfl)) ?_
      exact JA.weak rfl (by kernel_rfl) (by exact Keeps.k) (by exact Sub.k) (hmid10 bs (by exact ⟨hA, hB⟩))
    refine JAll.cons rfl ?_ ?_
    · -- 15
      refine JO.val rfl rfl rfl (.yes rfl rfl rfl) (Ev.load1 rfl Tryd.underlying34 rfl (Rd.own memK rfl)) ?_
      exact JA.weak rfl (by kernel_rfl) (by exact Keeps.k) (by exact Sub.k) (hmid12 bs (by exact ⟨hA, hB⟩))
    refine JAll.cons rfl ?_ JAll.nil
    refine JO.callV rfl (.yes rfl rfl rfl) rfl Tryd.call146 (fun w1 hw1 => rOf2_any g y r (some ⟨bs, 0, none⟩) oa 2 cap t hok w1 (cs_block (xs := u64s [y, r]) hw1 (by repeat (first | exact List.Mem.head _ | refine List.Mem.tail _ ?_ | refine List.mem_append_right _ ?_)) (show 2 ≤ 1000000 by decide)) (hb.old hw1) ht) ?_
    exact JA.weak rfl (by kernel_rfl) (by exact Keeps.k) (by exact Sub.k) (hmid13 0 (by exact ⟨hA, hB⟩))
  refine JA.mid (X := Nat) (fun bs => memR g y = true ∧ memR g r = true) (fun bs => [(32, .pointer (some ⟨b7, 0 + 1, none⟩)), (30, .slice oa t.length cap), (29, .slice (some ⟨bs, 0, none⟩) 2 2), (25, .agg g.cl.toArray), (24, u64 r), (22, u64 y), (21, u64 g.g), (18, .bool true), (4, .pointer (some ⟨b4, 0, none⟩)), (7, .pointer (some ⟨b7, 0, none⟩)), (1, u64 y), (2, .slice oa t.length cap)]) (fun bs => [(bs, Obj.cells #[u64 y, u64 r] 34 (0, 0)), (b7, Obj.cells #[u64 r, u64 s] 36 (0, 0)), (b4, Obj.cells g.cl.toArray 53 (0, 0))]) 6 #[true, true, true, true, true, true, true, true, true, true, false, true, true, true, true, true, true, true, true, true, true, true, false, true, false, false, false, false] ?_ (fun hmid30 => ?_)
  · -- state [0, 1, 2, 3, 4, 5, 6, 7, 8, 9, 11, 12, 13, 14, 15, 16, 17, 18, 19, 20, 21, 23]
    rintro bs ⟨hA, hB⟩
    refine JA.branch [10, 22, 24] (by kernel_rfl) rfl ?_
    refine JAll.cons rfl ?_ ?_
    · -- 10
      refine JO.val rfl rfl rfl (.yes rfl rfl rfl) (Ev.lB Tryd.underlying53 Tryd.sizeOf53) ?_
      exact JA.weak rfl (by kernel_rfl) (by exact Keeps.k) (by exact Sub.k) (hmid6 bs (by exact ⟨hA, hB⟩))
    refine JAll.cons rfl ?_ ?_
    · -- 22
      refine JO.callV rfl (.yes rfl rfl rfl) rfl Tryd.call146 (fun w1 hw1 => rOf2_any g y r (some ⟨bs, 0, none⟩) oa 2 cap t hok w1 (cs_block (xs := u64s [y, r]) hw1 (by repeat (first | exact List.Mem.head _ | refine List.Mem.tail _ ?_ | refine List.mem_append_right _ ?_)) (show 2 ≤ 1000000 by decide)) (hb.old hw1) ht) ?_
      exact JA.weak rfl (by kernel_rfl) (by exact Keeps.k) (by exact Sub.k) (hmid14 0 (by exact ⟨hA, hB⟩))
    refine JAll.cons rfl ?_ JAll.nil
    refine JO.val rfl rfl rfl (.yes rfl rfl rfl) (Ev.load1 rfl Tryd.underlying34 rfl (Rd.own memK rfl)) ?_
    exact JA.weak rfl (by kernel_rfl) (by exact Keeps.k) (by exact Sub.k) (hmid15 bs (by exact ⟨hA, hB⟩))
  refine JA.mid (X := Nat) (fun bs => memR g y = true ∧ memR g r = true) (fun bs => [(33, u64 s), (30, .slice oa t.length cap), (28, u64 r), (26, u64 y), (25, .agg g.cl.toArray), (24, u64 r), (22, u64 y), (21, u64 g.g), (18, .bool true), (4, .pointer (some ⟨b4, 0, none⟩)), (7, .pointer (some ⟨b7, 0, none⟩)), (1, u64 y), (2, .slice oa t.length cap)]) (fun bs => [(b7, Obj.cells #[u64 r, u64 s] 36 (0, 0)), (b4, Obj.cells g.cl.toArray 53 (0, 0))]) 6 #[true, true, true, true, true, true, true, true, true, true, false, true, true, true, true, true, true, true, true, true, false, true, false, true, true, false, false, false] ?_ (fun hmid31 => ?_)
  · -- state [0, 1, 2, 3, 4, 5, 6, 7, 8, 9, 11, 12, 13, 14, 15, 16, 17, 18, 19, 21, 23, 24]
    rintro bs ⟨hA, hB⟩
    refine JA.branch [10, 20] (by kernel_rfl) rfl ?_
    refine JAll.cons rfl ?_ ?_
    · -- 10
      refine JO.val rfl rfl rfl (.yes rfl rfl rfl) (Ev.lB Tryd.underlying53 Tryd.sizeOf53) ?_
      exact JA.weak rfl (by kernel_rfl) (by exact Keeps.k) (by exact Sub.k) (hmid7 0 (by exact ⟨hA, hB⟩))
    refine JAll.cons rfl ?_ JAll.nil
    refine JO.new rfl rfl rfl (.yes rfl rfl rfl) (En.bsN (e := 34) rfl (fun _ => by kernel_rfl)) (fun b29 hb29 => ?_)
    obtain ⟨bs, rfl⟩ : ∃ b, b = b29 := ⟨_, rfl⟩
    exact JA.weak rfl (by kernel_rfl) (by exact Keeps.k) (by exact Sub.k) (hmid15 bs (by exact ⟨hA, hB⟩))
  refine JA.mid (X := Nat) (fun bs => memR g y = true ∧ memR g r = true) (fun bs => [(33, u64 s), (30, .slice oa t.length cap), (29, .slice (some ⟨bs, 0, none⟩) 2 2), (24, u64 r), (22, u64 y), (21, u64 g.g), (18, .bool true), (4, .pointer (some ⟨b4, 0, none⟩)), (7, .pointer (some ⟨b7, 0, none⟩)), (1, u64 y), (2, .slice oa t.length cap)]) (fun bs => [(bs, Obj.cells #[u64 y, u64 r] 34 (0, 0)), (b7, Obj.cells #[u64 r, u64 s] 36 (0, 0)), (b4, Obj.cells g.cl.toArray 53 (0, 0))]) 6 #[true, true, true, true, true, true, true, true, true, true, false, true, true, true, true, true, false, true, true, true, true, true, false, true, true, false, false, false] ?_ (fun hmid32 => ?_)
  · -- state [0, 1, 2, 3, 4, 5, 6, 7, 8, 9, 11, 12, 13, 14, 15, 17, 18, 19, 20, 21, 23, 24]
    rintro bs ⟨hA, hB⟩
    refine JA.branch [10, 16] (by kernel_rfl) rfl ?_
    refine JAll.cons rfl ?_ ?_
    · -- 10
      refine JO.val rfl rfl rfl (.yes rfl rfl rfl) (Ev.lB Tryd.underlying53 Tryd.sizeOf53) ?_
      exact JA.weak rfl (by kernel_rfl) (by exact Keeps.k) (by exact Sub.k) (hmid8 bs (by exact ⟨hA, hB⟩))
    refine JAll.cons rfl ?_ JAll.nil
    refine JO.val rfl rfl rfl (.yes rfl rfl rfl) (Ev.lB Tryd.underlying53 Tryd.sizeOf53) ?_
    exact JA.weak rfl (by kernel_rfl) (by exact Keeps.k) (by exact Sub.k) (hmid15 bs (by exact ⟨hA, hB⟩))
  refine JA.mid (X := Nat) (fun bs => memR g y = true ∧ memR g r = true) (fun bs => [(32, .pointer (some ⟨b7, 0 + 1, none⟩)), (31, u64 (chalR g y r t)), (23, .pointer (some ⟨b7, 0 + 0, none⟩)), (22, u64 y), (21, u64 g.g), (18, .bool true), (4, .pointer (some ⟨b4, 0, none⟩)), (7, .pointer (some ⟨b7, 0, none⟩)), (1, u64 y), (2, .slice oa t.length cap)]) (fun bs => [(b7, Obj.cells #[u64 r, u64 s] 36 (0, 0)), (b4, Obj.cells g.cl.toArray 53 (0, 0))]) 6 #[true, true, true, true, true, true, true, true, true, true, false, true, true, true, true, false, true, true, true, true, true, true, true, true, false, false, false, false] ?_ (fun hmid33 => ?_)
  · -- state [0, 1, 2, 3, 4, 5, 6, 7, 8, 9, 11, 12, 13, 14, 16, 17, 18, 19, 20, 21, 22, 23]
    rintro bs ⟨hA, hB⟩
    refine JA.branch [10, 15, 24] (by kernel_rfl) rfl ?_
    refine JAll.cons rfl ?_ ?_
    · -- 10
      refine JO.val rfl rfl rfl (.yes rfl rfl rfl) (Ev.lB Tryd.underlying53 Tryd.sizeOf53) ?_
      exact JA.weak rfl (by kernel_rfl) (by exact Keeps.k) (by exact Sub.k) (hmid9 0 (by exact ⟨hA, hB⟩))
    refine JAll.cons rfl ?_ ?_
    · -- 15
      refine JO.val rfl rfl rfl (.yes rfl rfl rfl) (Ev.load1 rfl Tryd.underlying34 rfl (Rd.own memK rfl)) ?_
      exact JA.weak rfl (by kernel_rfl) (by exact Keeps.k) (by exact Sub.k) (hmid14 0 (by exact ⟨hA, hB⟩))
    refine JAll.cons rfl ?_ JAll.nil
    refine JO.val rfl rfl rfl (.yes rfl rfl rfl) (Ev.load1 rfl Tryd.underlying34 rfl (Rd.own memK rfl)) ?_
    exact JA.weak rfl (by kernel_rfl) (by exact Keeps.k) (by exact Sub.k) (hmid16 0 (by exact ⟨hA, hB⟩))
  refine JA.mid (X := Nat) (fun bs => memR g y = true ∧ memR g r = true) (fun bs => [(33, u64 s), (30, .slice oa t.length cap), (29, .slice (some ⟨bs, 0, none⟩) 2 2), (25, .agg g.cl.toArray), (23, .pointer (some ⟨b7, 0 + 0, none⟩)), (22, u64 y), (21, u64 g.g), (18, .bool true), (4, .pointer (some ⟨b4, 0, none⟩)), (7, .pointer (some ⟨b7, 0, none⟩)), (1, u64 y), (2, .slice oa t.length cap)]) (fun bs => [(bs, Obj.cells #[u64 y, u64 r] 34 (0, 0)), (b7, Obj.cells #[u64 r, u64 s] 36 (0, 0)), (b4, Obj.cells g.cl.toArray 53 (0, 0))]) 6 #[true, true, true, true, true, true, true, true, true, true, false, true, true, true, true, false, true, true, true, true, true, true, false, true, true, false, false, false] ?_ (fun hmid34 => ?_)
  · -- state [0, 1, 2, 3, 4, 5, 6, 7, 8, 9, 11, 12, 13, 14, 16, 17, 18, 19, 20, 21, 23, 24]
    rintro bs ⟨hA, hB⟩
    refine JA.branch [10, 15, 22] (by kernel_rfl) rfl ?_
    refine JAll.cons rfl ?_ ?_
    · -- 10
      refine JO.val rfl rfl rfl (.yes rfl rfl rfl) (Ev.lB Tryd.underlying53 Tryd.sizeOf53) ?_
      exact JA.weak rfl (by kernel_rfl) (by exact Keeps.k) (by exact Sub.k) (hmid10 bs (by exact ⟨hA, hB⟩))
    refine JAll.cons rfl ?_ ?_
    · -- 15
      refine JO.val rfl rfl rfl (.yes rfl rfl rfl) (Ev.load1 rfl Tryd.underlying34 rfl (Rd.own memK rfl)) ?_
      exact JA.weak rfl (by kernel_rfl) (by exact Keeps.k) (by exact Sub.k) (hmid15 bs (by exact ⟨hA, hB⟩))
    refine JAll.cons rfl ?_ JAll.nil
    refine JO.callV rfl (.yes rfl rfl rfl) rfl Tryd.call146 (fun w1 hw1 => rOf2_any g y r (some ⟨bs, 0, none⟩) oa 2 cap t hok w1 (cs_block (xs := u64s [y, r]) hw1 (by repeat (first | exact List.Mem.head _ | refine List.Mem.tail _ ?_ | refine List.mem_append_right _ ?_)) (show 2 ≤ 1000000 by decide)) (hb.old hw1) ht) ?_
    exact JA.weak rfl (by kernel_rfl) (by exact Keeps.k) (by exact Sub.k) (hmid16 0 (by exact ⟨hA, hB⟩))
  refine JA.mid (X := Nat) (fun bs => memR g y = true ∧ memR g r = true) (fun bs => [(32, .pointer (some ⟨b7, 0 + 1, none⟩)), (31, u64 (chalR g y r t)), (24, u64 r), (22, u64 y), (20, .pointer (some ⟨b4, 0 + 2, none⟩)), (18, .bool true), (4, .pointer (some ⟨b4, 0, none⟩)), (7, .pointer (some ⟨b7, 0, none⟩)), (1, u64 y), (2, .slice oa t.length cap)]) (fun bs => [(b7, Obj.cells #[u64 r, u64 s] 36 (0, 0)), (b4, Obj.cells g.cl.toArray 53 (0, 0))]) 6 #[true, true, true, true, true, true, true, true, true, true, false, true, false, true, true, true, true, true, true, true, true, true, true, true, false, false, false, false] ?_ (fun hmid35 => ?_)
  · -- state [0, 1, 2, 3, 4, 5, 6, 7, 8, 9, 11, 13, 14, 15, 16, 17, 18, 19, 20, 21, 22, 23]
    rintro bs ⟨hA, hB⟩
    refine JA.branch [10, 12, 24] (by kernel_rfl) rfl ?_
    refine JAll.cons rfl ?_ ?_
    · -- 10
      refine JO.val rfl rfl rfl (.yes rfl rfl rfl) (Ev.lB Tryd.underlying53 Tryd.sizeOf53) ?_
      exact JA.weak rfl (by kernel_rfl) (by exact Keeps.k) (by exact Sub.k) (hmid11 0 (by exact ⟨hA, hB⟩))
    refine JAll.cons rfl ?_ ?_
    · -- 12
      refine JO.val rfl rfl rfl (.yes rfl rfl rfl) (Ev.load1 rfl Tryd.underlying34 rfl (Rd.own memK rfl)) ?_
      exact JA.weak rfl (by kernel_rfl) (by exact Keeps.k) (by exact Sub.k) (hmid14 0 (by exact ⟨hA, hB⟩))
    refine JAll.cons rfl ?_ JAll.nil
    refine JO.val rfl rfl rfl (.yes rfl rfl rfl) (Ev.load1 rfl Tryd.underlying34 rfl (Rd.own memK rfl)) ?_
    exact JA.weak rfl (by kernel_rfl) (by exact Keeps.k) (by exact Sub.k) (hmid17 0 (by exact ⟨hA, hB⟩))
  refine JA.mid (X := Nat) (fun bs => memR g y = true ∧ memR g r = true) (fun bs => [(33, u64 s), (30, .slice oa t.length cap), (29, .slice (some ⟨bs, 0, none⟩) 2 2), (25, .agg g.cl.toArray), (24, u64 r), (22, u64 y), (20, .pointer (some ⟨b4, 0 + 2, none⟩)), (18, .bool true), (4, .pointer (some ⟨b4, 0, none⟩)), (7, .pointer (some ⟨b7, 0, none⟩)), (1, u64 y), (2, .slice oa t.length cap)]) (fun bs => [(bs, Obj.cells #[u64 y, u64 r] 34 (0, 0)), (b7, Obj.cells #[u64 r, u64 s] 36 (0, 0)), (b4, Obj.cells g.cl.toArray 53 (0, 0))]) 6 #[true, true, true, true, true, true, true, true, true, true, false, true, false, true, true, true, true, true, true, true, true, true, false, true, true, false, false, false] ?_ (fun hmid36 => ?_)
  · -- state [0, 1, 2, 3, 4, 5, 6, 7, 8, 9, 11, 13, 14, 15, 16, 17, 18, 19, 20, 21, 23, 24]
    rintro bs ⟨hA, hB⟩
    refine JA.branch [10, 12, 22] (by kernel_rfl) rfl ?_
    refine JAll.cons rfl ?_ ?_
    · -- 10
      refine JO.val rfl rfl rfl (.yes rfl rfl rfl) (Ev.lB Tryd.underlying53 Tryd.sizeOf53) ?_
      exact JA.weak rfl (by kernel_rfl) (by exact Keeps.k) (by exact Sub.k) (hmid12 bs (by exact ⟨hA, hB⟩))
    refine JAll.cons rfl ?_ ?_
    · -- 12
      refine JO.val rfl rfl rfl (.yes rfl rfl rfl) (Ev.load1 rfl Tryd.underlying34 rfl (Rd.own memK rfl)) ?_
      exact JA.weak rfl (by kernel_rfl) (by exact Keeps.k) (by exact Sub.k) (hmid15 bs (by exact ⟨hA, hB⟩))
    refine JAll.cons rfl ?_ JAll.nil
    refine JO.callV rfl (.yes rfl rfl rfl) rfl Tryd.call146 (fun w1 hw1 => rOf2_any g y r (some ⟨bs, 0, none⟩) oa 2 cap t hok w1 (cs_block (xs := u64s [y, r]) hw1 (by repeat (first | exact List.Mem.head _ | refine List.Mem.tail _ ?_ | refine List.mem_append_right _ ?_)) (show 2 ≤ 1000000 by decide)) (hb.old hw1) ht) ?_
    exact JA.weak rfl (by kernel_rfl) (by exact Keeps.k) (by exact Sub.k) (hmid17 0 (by exact ⟨hA, hB⟩))
  refine JA.mid (X := Nat) (fun bs => memR g y = true ∧ memR g r = true) (fun bs => [(33, u64 s), (31, u64 (chalR g y r t)), (23, .pointer (some ⟨b7, 0 + 0, none⟩)), (22, u64 y), (20, .pointer (some ⟨b4, 0 + 2, none⟩)), (18, .bool true), (4, .pointer (some ⟨b4, 0, none⟩)), (7, .pointer (some ⟨b7, 0, none⟩)), (1, u64 y), (2, .slice oa t.length cap)]) (fun bs => [(b7, Obj.cells #[u64 r, u64 s] 36 (0, 0)), (b4, Obj.cells g.cl.toArray 53 (0, 0))]) 6 #[true, true, true, true, true, true, true, true, true, true, false, true, false, true, true, false, true, true, true, true, true, true, true, true, true, false, false, false] ?_ (fun hmid37 => ?_)
  · -- state [0, 1, 2, 3, 4, 5, 6, 7, 8, 9, 11, 13, 14, 16, 17, 18, 19, 20, 21, 22, 23, 24]
    rintro bs ⟨hA, hB⟩
    refine JA.branch [10, 12, 15] (by kernel_rfl) rfl ?_
    refine JAll.cons rfl ?_ ?_
    · -- 10
      refine JO.val rfl rfl rfl (.yes rfl rfl rfl) (Ev.lB Tryd.underlying53 Tryd.sizeOf53) ?_
      exact JA.weak rfl (by kernel_rfl) (by exact Keeps.k) (by exact Sub.k) (hmid13 0 (by exact ⟨hA, hB⟩))
    refine JAll.cons rfl ?_ ?_
    · -- 12
      refine JO.val rfl rfl rfl (.yes rfl rfl rfl) (Ev.load1 rfl Tryd.underlying34 rfl (Rd.own memK rfl)) ?_
      exact JA.weak rfl (by kernel_rfl) (by exact Keeps.k) (by exact Sub.k) (hmid16 0 (by exact ⟨hA, hB⟩))
    refine JAll.cons rfl ?_ JAll.nil
    refine JO.val rfl rfl rfl (.yes rfl rfl rfl) (Ev.load1 rfl Tryd.underlying34 rfl (Rd.own memK rfl)) ?_
    exact JA.weak rfl (by kernel_rfl) (by exact Keeps.k) (by exact Sub.k) (hmid17 0 (by exact ⟨hA, hB⟩))
  refine JA.mid (X := Nat) (fun bs => memR g y = true ∧ memR g r = true) (fun bs => [(32, .pointer (some ⟨b7, 0 + 1, none⟩)), (30, .slice oa t.length cap), (27, .pointer (some ⟨b7, 0 + 0, none⟩)), (26, u64 y), (25, .agg g.cl.toArray), (24, u64 r), (22, u64 y), (21, u64 g.g), (19, .agg g.cl.toArray), (18, .bool true), (4, .pointer (some ⟨b4, 0, none⟩)), (7, .pointer (some ⟨b7, 0, none⟩)), (1, u64 y), (2, .slice oa t.length cap)]) (fun bs => [(b7, Obj.cells #[u64 r, u64 s] 36 (0, 0)), (b4, Obj.cells g.cl.toArray 53 (0, 0))]) 7 #[true, true, true, true, true, true, true, true, true, true, true, true, true, true, true, true, true, true, true, false, false, true, false, true, false, false, false, false] ?_ (fun hmid38 => ?_)
  · -- state [0, 1, 2, 3, 4, 5, 6, 7, 8, 9, 10, 11, 12, 13, 14, 15, 16, 17, 18, 21, 23]
    rintro bs ⟨hA, hB⟩
    refine JA.branch [19, 24] (by kernel_rfl) rfl ?_
    refine JAll.cons rfl ?_ ?_
    · -- 19
      refine JO.val rfl rfl rfl (.yes rfl rfl rfl) (Ev.load1 rfl Tryd.underlying34 rfl (Rd.own memK rfl)) ?_
      exact JA.weak rfl (by kernel_rfl) (by exact Keeps.k) (by exact Sub.k) (hmid18 0 (by exact ⟨hA, hB⟩))
    refine JAll.cons rfl ?_ JAll.nil
    refine JO.val rfl rfl rfl (.yes rfl rfl rfl) (Ev.load1 rfl Tryd.underlying34 rfl (Rd.own memK rfl)) ?_
    exact JA.weak rfl (by kernel_rfl) (by exact Keeps.k) (by exact Sub.k) (hmid19 0 (by exact ⟨hA, hB⟩))
  refine JA.mid (X := Nat) (fun bs => memR g y = true ∧ memR g r = true) (fun bs => [(32, .pointer (some ⟨b7, 0 + 1, none⟩)), (30, .slice oa t.length cap), (28, u64 r), (26, u64 y), (24, u64 r), (22, u64 y), (21, u64 g.g), (19, .agg g.cl.toArray), (18, .bool true), (4, .pointer (some ⟨b4, 0, none⟩)), (7, .pointer (some ⟨b7, 0, none⟩)), (1, u64 y), (2, .slice oa t.length cap)]) (fun bs => [(b7, Obj.cells #[u64 r, u64 s] 36 (0, 0)), (b4, Obj.cells g.cl.toArray 53 (0, 0))]) 7 #[true, true, true, true, true, true, true, true, true, true, true, true, true, true, true, true, false, true, true, true, false, true, false, true, false, false, false, false] ?_ (fun hmid39 => ?_)
  · -- state [0, 1, 2, 3, 4, 5, 6, 7, 8, 9, 10, 11, 12, 13, 14, 15, 17, 18, 19, 21, 23]
    rintro bs ⟨hA, hB⟩
    refine JA.branch [16, 20, 24] (by kernel_rfl) rfl ?_
    refine JAll.cons rfl ?_ ?_
    · -- 16
      refine JO.val rfl rfl rfl (.yes rfl rfl rfl) (Ev.lB Tryd.underlying53 Tryd.sizeOf53) ?_
      exact JA.weak rfl (by kernel_rfl) (by exact Keeps.k) (by exact Sub.k) (hmid18 0 (by exact ⟨hA, hB⟩))
    refine JAll.cons rfl ?_ ?_
    · -- 20
      refine JO.new rfl rfl rfl (.yes rfl rfl rfl) (En.bsN (e := 34) rfl (fun _ => by kernel_rfl)) (fun b29 hb29 => ?_)
      obtain ⟨bs, rfl⟩ : ∃ b, b = b29 := ⟨_, rfl⟩
      exact JA.weak rfl (by kernel_rfl) (by exact Keeps.k) (by exact Sub.k) (hmid20 bs (by exact ⟨hA, hB⟩))
    refine JAll.cons rfl ?_ JAll.nil
    refine JO.val rfl rfl rfl (.yes rfl rfl rfl) (Ev.load1 rfl Tryd.underlying34 rfl (Rd.own memK rfl)) ?_
    exact JA.weak rfl (by kernel_rfl) (by exact Keeps.k) (by exact Sub.k) (hmid21 0 (by exact ⟨hA, hB⟩))
  refine JA.mid (X := Nat) (fun bs => memR g y = true ∧ memR g r = true) (fun bs => [(33, u64 s), (30, .slice oa t.length cap), (27, .pointer (some ⟨b7, 0 + 0, none⟩)), (26, u64 y), (24, u64 r), (22, u64 y), (21, u64 g.g), (19, .agg g.cl.toArray), (18, .bool true), (4, .pointer (some ⟨b4, 0, none⟩)), (7, .pointer (some ⟨b7, 0, none⟩)), (1, u64 y), (2, .slice oa t.length cap)]) (fun bs => [(b7, Obj.cells #[u64 r, u64 s] 36 (0, 0)), (b4, Obj.cells g.cl.toArray 53 (0, 0))]) 7 #[true, true, true, true, true, true, true, true, true, true, true, true, true, true, true, true, false, true, true, false, false, true, false, true, true, false, false, false] ?_ (fun hmid40 => ?_)
  · -- state [0, 1, 2, 3, 4, 5, 6, 7, 8, 9, 10, 11, 12, 13, 14, 15, 17, 18, 21, 23, 24]
    rintro bs ⟨hA, hB⟩
    refine JA.branch [16, 19] (by kernel_rfl) rfl ?_
    refine JAll.cons rfl ?_ ?_
    · -- 16
      refine JO.val rfl rfl rfl (.yes rfl rfl rfl) (Ev.lB Tryd.underlying53 Tryd.sizeOf53) ?_
      exact JA.weak rfl (by kernel_rfl) (by exact Keeps.k) (by exact Sub.k) (hmid19 0 (by exact ⟨hA, hB⟩))
    refine JAll.cons rfl ?_ JAll.nil
    refine JO.val rfl rfl rfl (.yes rfl rfl rfl) (Ev.load1 rfl Tryd.underlying34 rfl (Rd.own memK rfl)) ?_
    exact JA.weak rfl (by kernel_rfl) (by exact Keeps.k) (by exact Sub.k) (hmid21 0 (by exact ⟨hA, hB⟩))
  refine JA.mid (X := Nat) (fun bs => memR g y = true ∧ memR g r = true) (fun bs => [(32, .pointer (some ⟨b7, 0 + 1, none⟩)), (30, .slice oa t.length cap), (28, u64 r), (26, u64 y), (25, .agg g.cl.toArray), (23, .pointer (some ⟨b7, 0 + 0, none⟩)), (22, u64 y), (21, u64 g.g), (19, .agg g.cl.toArray), (18, .bool true), (4, .pointer (some ⟨b4, 0, none⟩)), (7, .pointer (some ⟨b7, 0, none⟩)), (1, u64 y), (2, .slice oa t.length cap)]) (fun bs => [(b7, Obj.cells #[u64 r, u64 s] 36 (0, 0)), (b4, Obj.cells g.cl.toArray 53 (0, 0))]) 7 #[true, true, true, true, true, true, true, true, true, true, true, true, true, true, true, false, true, true, true, true, false, true, false, true, false, false, false, false] ?_ (fun hmid41 => ?_)
  · -- state [0, 1, 2, 3, 4, 5, 6, 7, 8, 9, 10, 11, 12, 13, 14, 16, 17, 18, 19, 21, 23]
    rintro bs ⟨hA, hB⟩
    refine JA.branch [15, 20, 24] (by kernel_rfl) rfl ?_
    refine JAll.cons rfl ?_ ?_
    · -- 15
      refine JO.val rfl rfl rfl (.yes rfl rfl rfl) (Ev.load1 rfl Tryd.underlying34 rfl (Rd.own memK rfl)) ?_
      exact JA.weak rfl (by kernel_rfl) (by exact Keeps.k) (by exact Sub.k) (hmid18 0 (by exact ⟨hA, hB⟩))
    refine JAll.cons rfl ?_ ?_
    · -- 20
      refine JO.new rfl rfl rfl (.yes rfl rfl rfl) (En.bsN (e := 34) rfl (fun _ => by kernel_rfl)) (fun b29 hb29 => ?_)
      obtain ⟨bs, rfl⟩ : ∃ b, b = b29 := ⟨_, rfl⟩
      exact JA.weak rfl (by kernel_rfl) (by exact Keeps.k) (by exact Sub.k) (hmid22 bs (by exact ⟨hA, hB⟩))
    refine JAll.cons rfl ?_ JAll.nil
    refine JO.val rfl rfl rfl (.yes rfl rfl rfl) (Ev.load1 rfl Tryd.underlying34 rfl (Rd.own memK rfl)) ?_
    exact JA.weak rfl (by kernel_rfl) (by exact Keeps.k) (by exact Sub.k) (hmid23 0 (by exact ⟨hA, hB⟩))
  refine JA.mid (X := Nat) (fun bs => memR g y = true ∧ memR g r = true) (fun bs => [(33, u64 s), (30, .slice oa t.length cap), (27, .pointer (some ⟨b7, 0 + 0, none⟩)), (26, u64 y), (25, .agg g.cl.toArray), (23, .pointer (some ⟨b7, 0 + 0, none⟩)), (22, u64 y), (21, u64 g.g), (19, .agg g.cl.toArray), (18, .bool true), (4, .pointer (some ⟨b4, 0, none⟩)), (7, .pointer (some ⟨b7, 0, none⟩)), (1, u64 y), (2, .slice oa t.length cap)]) (fun bs => [(b7, Obj.cells #[u64 r, u64 s] 36 (0, 0)), (b4, Obj.cells g.cl.toArray 53 (0, 0))]) 7 #[true, true, true, true, true, true, true, true, true, true, true, true, true, true, true, false, true, true, true, false, false, true, false, true, true, false, false, false] ?_ (fun hmid42 => ?_)
  · -- state [0, 1, 2, 3, 4, 5, 6, 7, 8, 9, 10, 11, 12, 13, 14, 16, 17, 18, 21, 23, 24]
    rintro bs ⟨hA, hB⟩
    refine JA.branch [15, 19] (by kernel_rfl) rfl ?_
    refine JAll.cons rfl ?_ ?_
    · -- 15
      refine JO.val rfl rfl rfl (.yes rfl rfl rfl) (Ev.load1 rfl Tryd.underlying34 rfl (Rd.own memK rfl)) ?_
      exact JA.weak rfl (by kernel_rfl) (by exact Keeps.k) (by exact Sub.k) (hmid19 0 (by exact ⟨hA, hB⟩))
    refine JAll.cons rfl ?_ JAll.nil
    refine JO.val rfl rfl rfl (.yes rfl rfl rfl) (Ev.load1 rfl Tryd.underlying34 rfl (Rd.own memK rfl)) ?_
    exact JA.weak rfl (by kernel_rfl) (by exact Keeps.k) (by exact Sub.k) (hmid23 0 (by exact ⟨hA, hB⟩))
  refine JA.mid (X := Nat) (fun bs => memR g y = true ∧ memR g r = true) (fun bs => [(32, .pointer (some ⟨b7, 0 + 1, none⟩)), (30, .slice oa t.length cap), (29, .slice (some ⟨bs, 0, none⟩) 2 2), (23, .pointer (some ⟨b7, 0 + 0, none⟩)), (22, u64 y), (21, u64 g.g), (19, .agg g.cl.toArray), (18, .bool true), (4, .pointer (some ⟨b4, 0, none⟩)), (7, .pointer (some ⟨b7, 0, none⟩)), (1, u64 y), (2, .slice oa t.length cap)]) (fun bs => [(bs, Obj.cells #[u64 y, u64 r] 34 (0, 0)), (b7, Obj.cells #[u64 r, u64 s] 36 (0, 0)), (b4, Obj.cells g.cl.toArray 53 (0, 0))]) 7 #[true, true, true, true, true, true, true, true, true, true, true, true, true, true, true, false, false, true, true, true, true, true, false, true, false, false, false, false] ?_ (fun hmid43 => ?_)
  · -- state [0, 1, 2, 3, 4, 5, 6, 7, 8, 9, 10, 11, 12, 13, 14, 17, 18, 19, 20, 21, 23]
    rintro bs ⟨hA, hB⟩
    refine JA.branch [15, 16, 24] (by kernel_rfl) rfl ?_
    refine JAll.cons rfl ?_ ?_
    · -- 15
      refine JO.val rfl rfl rfl (.yes rfl rfl rfl) (Ev.load1 rfl Tryd.underlying34 rfl (Rd.own memK rfl)) ?_
      exact JA.weak rfl (by kernel_rfl) (by exact Keeps.k) (by exact Sub.k) (hmid20 bs (by exact ⟨hA, hB⟩))
    refine JAll.cons rfl ?_ ?_
    · -- 16
      refine JO.val rfl rfl rfl (.yes rfl rfl rfl) (Ev.lB Tryd.underlying53 Tryd.sizeOf53) ?_
      exact JA.weak rfl (by kernel_rfl) (by exact Keeps.k) (by exact Sub.k) (hmid22 bs (by exact ⟨hA, hB⟩))
    refine JAll.cons rfl ?_ JAll.nil
    refine JO.val rfl rfl rfl (.yes rfl rfl rfl) (Ev.load1 rfl Tryd.underlying34 rfl (Rd.own memK rfl)) ?_
    exact JA.weak rfl (by kernel_rfl) (by exact Keeps.k) (by exact Sub.k) (hmid24 bs (by exact ⟨hA, hB⟩))
  refine JA.mid (X := Nat) (fun bs => memR g y = true ∧ memR g r = true) (fun bs => [(33, u64 s), (30, .slice oa t.length cap), (28, u64 r), (26, u64 y), (23, .pointer (some ⟨b7, 0 + 0, none⟩)), (22, u64 y), (21, u64 g.g), (19, .agg g.cl.toArray), (18, .bool true), (4, .pointer (some ⟨b4, 0, none⟩)), (7, .pointer (some ⟨b7, 0, none⟩)), (1, u64 y), (2, .slice oa t.length cap)]) (fun bs => [(b7, Obj.cells #[u64 r, u64 s] 36 (0, 0)), (b4, Obj.cells g.cl.toArray 53 (0, 0))]) 7 #[true, true, true, true, true, true, true, true, true, true, true, true, true, true, true, false, false, true, true, true, false, true, false, true, true, false, false, false] ?_ (fun hmid44 => ?_)
  · -- state [0, 1, 2, 3, 4, 5, 6, 7, 8, 9, 10, 11, 12, 13, 14, 17, 18, 19, 21, 23, 24]
    rintro bs ⟨hA, hB⟩
    refine JA.branch [15, 16, 20] (by kernel_rfl) rfl ?_
    refine JAll.cons rfl ?_ ?_
    · -- 15
      refine JO.val rfl rfl rfl (.yes rfl rfl rfl) (Ev.load1 rfl Tryd.underlying34 rfl (Rd.own memK rfl)) ?_
      exact JA.weak rfl (by kernel_rfl) (by exact Keeps.k) (by exact Sub.k) (hmid21 0 (by exact ⟨hA, hB⟩))
    refine JAll.cons rfl ?_ ?_
    · -- 16
      refine JO.val rfl rfl rfl (.yes rfl rfl rfl) (Ev.lB Tryd.underlying53 Tryd.sizeOf53) ?_
      exact JA.weak rfl (by kernel_rfl) (by exact Keeps.k) (by exact Sub.k) (hmid23 0 (by exact ⟨hA, hB⟩))
    refine JAll.cons rfl ?_ JAll.nil
    refine JO.new rfl rfl rfl (.yes rfl rfl rfl) (En.bsN (e := 34) rfl (fun _ => by kernel_rfl)) (fun b29 hb29 => ?_)
    obtain ⟨bs, rfl⟩ : ∃ b, b = b29 := ⟨_, rfl⟩
    exact JA.weak rfl (by kernel_rfl) (by exact Keeps.k) (by exact Sub.k) (hmid24 bs (by exact ⟨hA, hB⟩))
  refine JA.mid (X := Nat) (fun bs => memR g y = true ∧ memR g r = true) (fun bs => [(32, .pointer (some ⟨b7, 0 + 1, none⟩)), (30, .slice oa t.length cap), (28, u64 r), (26, u64 y), (25, .agg g.cl.toArray), (24, u64 r), (22, u64 y), (20, .pointer (some ⟨b4, 0 + 2, none⟩)), (19, .agg g.cl.toArray), (18, .bool true), (4, .pointer (some ⟨b4, 0, none⟩)), (7, .pointer (some ⟨b7, 0, none⟩)), (1, u64 y), (2, .slice oa t.length cap)]) (fun bs => [(b7, Obj.cells #[u64 r, u64 s] 36 (0, 0)), (b4, Obj.cells g.cl.toArray 53 (0, 0))]) 7 #[true, true, true, true, true, true, true, true, true, true, true, true, false, true, true, true, true, true, true, true, false, true, false, true, false, false, false, false] ?_ (fun hmid45 => ?_)
  · -- state [0, 1, 2, 3, 4, 5, 6, 7, 8, 9, 10, 11, 13, 14, 15, 16, 17, 18, 19, 21, 23]
    rintro bs ⟨hA, hB⟩
    refine JA.branch [12, 20, 24] (by kernel_rfl) rfl ?_
    refine JAll.cons rfl ?_ ?_
    · -- 12
      refine JO.val rfl rfl rfl (.yes rfl rfl rfl) (Ev.load1 rfl Tryd.underlying34 rfl (Rd.own memK rfl)) ?_
      exact JA.weak rfl (by kernel_rfl) (by exact Keeps.k) (by exact Sub.k) (hmid18 0 (by exact ⟨hA, hB⟩))
    refine JAll.cons rfl ?_ ?_
    · -- 20
      refine JO.new rfl rfl rfl (.yes rfl rfl rfl) (En.bsN (e := 34) rfl (fun _ => by kernel_rfl)) (fun b29 hb29 => ?_)
      obtain ⟨bs, rfl⟩ : ∃ b, b = b29 := ⟨_, rfl⟩
      exact JA.weak rfl (by kernel_rfl) (by exact Keeps.k) (by exact Sub.k) (hmid25 bs (by exact ⟨hA, hB⟩))
    refine JAll.cons rfl ?_ JAll.nil
    refine JO.val rfl rfl rfl (.yes rfl rfl rfl) (Ev.load1 rfl Tryd.underlying34 rfl (Rd.own memK rfl)) ?_
    exact JA.weak rfl (by kernel_rfl) (by exact Keeps.k) (by exact Sub.k) (hmid26 0 (by exact ⟨hA, hB⟩))
  refine JA.mid (X := Nat) (fun bs => memR g y = true ∧ memR g r = true) (fun bs => [(33, u64 s), (30, .slice oa t.length cap), (27, .pointer (some ⟨b7, 0 + 0, none⟩)), (26, u64 y), (25, .agg g.cl.toArray), (24, u64 r), (22, u64 y), (20, .pointer (some ⟨b4, 0 + 2, none⟩)), (19, .agg g.cl.toArray), (18, .bool true), (4, .pointer (some ⟨b4, 0, none⟩)), (7, .pointer (some ⟨b7, 0, none⟩)), (1, u64 y), (2, .slice oa t.length cap)]) (fun bs => [(b7, Obj.cells #[u64 r, u64 s] 36 (0, 0)), (b4, Obj.cells g.cl.toArray 53 (0, 0))]) 7 #[true, true, true, true, true, true, true, true, true, true, true, true, false, true, true, true, true, true, true, false, false, true, false, true, true, false, false, false] ?_ (fun hmid46 => ?_)
  · -- state [0, 1, 2, 3, 4, 5, 6, 7, 8, 9, 10, 11, 13, 14, 15, 16, 17, 18, 21, 23, 24]
    rintro bs ⟨hA, hB⟩
    refine JA.branch [12, 19] (by kernel_rfl) rfl ?_
    refine JAll.cons rfl ?_ ?_
    · -- 12
      refine JO.val rfl rfl rfl (.yes rfl rfl rfl) (Ev.load1 rfl Tryd.underlying34 rfl (Rd.own memK rfl)) ?_
      exact JA.weak rfl (by kernel_rfl) (by exact Keeps.k) (by exact Sub.k) (hmid19 0 (by exact ⟨hA, hB⟩))
    refine JAll.cons rfl ?_ JAll.nil
    refine JO.val rfl rfl rfl (.yes rfl rfl rfl) (Ev.load1 rfl Tryd.underlying34 rfl (Rd.own memK rfl)) ?_
    exact JA.weak rfl (by kernel_rfl) (by exact Keeps.k) (by exact Sub.k) (hmid26 0 (by exact ⟨hA, hB⟩))
  refine JA.mid (X := Nat) (fun bs => memR g y = true ∧ memR g r = true) (fun bs => [(32, .pointer (some ⟨b7, 0 + 1, none⟩)), (30, .slice oa t.length cap), (29, .slice (some ⟨bs, 0, none⟩) 2 2), (24, u64 r), (22, u64 y), (20, .pointer (some ⟨b4, 0 + 2, none⟩)), (19, .agg g.cl.toArray), (18, .bool true), (4, .pointer (some ⟨b4, 0, none⟩)), (7, .pointer (some ⟨b7, 0, none⟩)), (1, u64 y), (2, .slice oa t.length cap)]) (fun bs => [(bs, Obj.cells #[u64 y, u64 r] 34 (0, 0)), (b7, Obj.cells #[u64 r, u64 s] 36 (0, 0)), (b4, Obj.cells g.cl.toArray 53 (0, 0))]) 7 #[true, true, true, true, true, true, true, true, true, true, true, true, false, true, true, true, false, true, true, true, true, true, false, true, false, false, false, false] ?_ (fun hmid47 => ?_)
  · -- state [0, 1, 2, 3, 4, 5, 6, 7, 8, 9, 10, 11, 13, 14, 15, 17, 18, 19, 20, 21, 23]
    rintro bs ⟨hA, hB⟩
    refine JA.branch [12, 16, 24] (by kernel_rfl) rfl ?_
    refine JAll.cons rfl ?_ ?_
    · -- 12
      refine JO.val rfl rfl rfl (.yes rfl rfl rfl) (Ev.load1 rfl Tryd.underlying34 rfl (Rd.own memK rfl)) ?_
      exact JA.weak rfl (by kernel_rfl) (by exact Keeps.k) (by exact Sub.k) (hmid20 bs (by exact ⟨hA, hB⟩))
    refine JAll.cons rfl ?_ ?_
    · -- 16
      refine JO.val rfl rfl rfl (.yes rfl rfl rfl) (Ev.lB Tryd.underlying53 Tryd.sizeOf53) ?_
      exact JA.weak rfl (by kernel_rfl) (by exact Keeps.k) (by exact Sub.k) (hmid25 bs (by exact ⟨hA, hB⟩))
    refine JAll.cons rfl ?_ JAll.nil
    refine JO.val rfl rfl rfl (.yes rfl rfl rfl) (Ev.load1 rfl Tryd.underlying34 rfl (Rd.own memK rfl)) ?_
    exact JA.weak rfl (by kernel_rfl) (by exact Keeps.k) (by exact Sub.k) (hmid27 bs (by exact ⟨hA, hB⟩))
  refine JA.mid (X := Nat) (fun bs => memR g y = true ∧ memR g r = true) (fun bs => [(33, u64 s), (30, .slice oa t.length cap), (28, u64 r), (26, u64 y), (24, u64 r), (22, u64 y), (20, .pointer (some ⟨b4, 0 + 2, none⟩)), (19, .agg g.cl.toArray), (18, .bool true), (4, .pointer (some ⟨b4, 0, none⟩)), (7, .pointer (some ⟨b7, 0, none⟩)), (1, u64 y), (2, .slice oa t.length cap)]) (fun bs => [(b7, Obj.cells #[u64 r, u64 s] 36 (0, 0)), (b4, Obj.cells g.cl.toArray 53 (0, 0))]) 7 #[true, true, true, true, true, true, true, true, true, true, true, true, false, true, true, true, false, true, true, true, false, true, false, true, true, false, false, false] ?_ (fun hmid48 => ?_)
  · -- state [0, 1, 2, 3, 4, 5, 6, 7, 8, 9, 10, 11, 13, 14, 15, 17, 18, 19, 21, 23, 24]
    rintro bs ⟨hA, hB⟩
    refine JA.branch [12, 16, 20] (by kernel_rfl) rfl ?_
    refine JAll.cons rfl ?_ ?_
    · -- 12
      refine JO.val rfl rfl rfl (.yes rfl rfl rfl) (Ev.load1 rfl Tryd.underlying34 rfl (Rd.own memK rfl)) ?_
      exact JA.weak rfl (by kernel_rfl) (by exact Keeps.k) (by exact Sub.k) (hmid21 0 (by exact ⟨hA, hB⟩))
    refine JAll.cons rfl ?_ ?_
    · -- 16
      refine JO.val rfl rfl rfl (.yes rfl rfl rfl) (Ev.lB Tryd.underlying53 Tryd.sizeOf53) ?_
      exact JA.weak rfl (by kernel_rfl) (by exact Keeps.k) (by exact Sub.k) (hmid26 0 (by exact ⟨hA, hB⟩))
    refine JAll.cons rfl ?_ JAll.nil
    refine JO.new rfl rfl rfl (.yes rfl rfl rfl) (En.bsN (e := 34) rfl (fun _ => by kernel_rfl)) (fun b29 hb29 => ?_)
    obtain ⟨bs, rfl⟩ : ∃ b, b = b29 := ⟨_, rfl⟩
    exact JA.weak rfl (by kernel_rfl) (by exact Keeps.k) (by exact Sub.k) (hmid27 bs (by exact ⟨hA, hB⟩))
  refine JA.mid (X := Nat) (fun bs => memR g y = true ∧ memR g r = true) (fun bs => [(32, .pointer (some ⟨b7, 0 + 1, none⟩)), (30, .slice oa t.length cap), (29, .slice (some ⟨bs, 0, none⟩) 2 2), (25, .agg g.cl.toArray), (23, .pointer (some ⟨b7, 0 + 0, none⟩)), (22, u64 y), (20, .pointer (some ⟨b4, 0 + 2, none⟩)), (19, .agg g.cl.toArray), (18, .bool true), (4, .pointer (some ⟨b4, 0, none⟩)), (7, .pointer (some ⟨b7, 0, none⟩)), (1, u64 y), (2, .slice oa t.length cap)]) (fun bs => [(bs, Obj.cells #[u64 y, u64 r] 34 (0, 0)), (b7, Obj.cells #[u64 r, u64 s] 36 (0, 0)), (b4, Obj.cells g.cl.toArray 53 (0, 0))]) 7 #[true, true, true, true, true, true, true, true, true, true, true, true, false, true, true, false, true, true, true, true, true, true, false, true, false, false, false, false] ?_ (fun hmid49 => ?_)
  · -- state [0, 1, 2, 3, 4, 5, 6, 7, 8, 9, 10, 11, 13, 14, 16, 17, 18, 19, 20, 21, 23]
    rintro bs ⟨hA, hB⟩
    refine JA.branch [12, 15, 22, 24] (by kernel_rfl) rfl ?_
    refine JAll.cons rfl ?_ ?_
    · -- 12
      refine JO.val rfl rfl rfl (.yes rfl rfl rfl) (Ev.load1 rfl Tryd.underlying34 rfl (Rd.own memK rfl)) ?_
      exact JA.weak rfl (by kernel_rfl) (by exact Keeps.k) (by exact Sub.k) (hmid22 bs (by exact ⟨hA, hB⟩))
    refine JAll.cons rfl ?_ ?_
    · -- 15
      refine JO.val rfl rfl rfl (.yes rfl rfl rfl) (Ev.load1 rfl Tryd.underlying34 rfl (Rd.own memK rfl)) ?_
      exact JA.weak rfl (by kernel_rfl) (by exact Keeps.k) (by exact Sub.k) (hmid25 bs (by exact ⟨hA, hB⟩))
    refine JAll.cons rfl ?_ ?_
    · -- 22
      refine JO.callV rfl (.yes rfl rfl rfl) rfl Tryd.call146 (fun w1 hw1 => rOf2_any g y r (some ⟨bs, 0, none⟩) oa 2 cap t hok w1 (cs_block (xs := u64s [y, r]) hw1 (by repeat (first | exact List.Mem.head _ | refine List.Mem.tail _ ?_ | refine List.mem_append_right _ ?_)) (show 2 ≤ 1000000 by decide)) (hb.old hw1) ht) ?_
      exact JA.weak rfl (by kernel_rfl) (by exact Keeps.k) (by exact Sub.k) (hmid28 0 (by exact ⟨hA, hB⟩))
    refine JAll.cons rfl ?_ JAll.nil
    refine JO.val rfl rfl rfl (.yes rfl rfl rfl) (Ev.load1 rfl Tryd.underlying34 rfl (Rd.own memK rfl)) ?_
    exact JA.weak rfl (by kernel_rfl) (by exact Keeps.k) (by exact Sub.k) (hmid29 bs (by exact ⟨hA, hB⟩))
  refine JA.mid (X := Nat) (fun bs => memR g y = true ∧ memR g r = true) (fun bs => [(33, u64 s), (30, .slice oa t.length cap), (28, u64 r), (26, u64 y), (25, .agg g.cl.toArray), (23, .pointer (some ⟨b7, 0 + 0, none⟩)), (22, u64 y), (20, .pointer (some ⟨b4, 0 + 2, none⟩)), (19, .agg g.cl.toArray), (18, .bool true), (4, .pointer (some ⟨b4, 0, none⟩)), (7, .pointer (some ⟨b7, 0, none⟩)), (1, u64 y), (2, .slice oa t.length cap)]) (fun bs => [(b7, Obj.cells #[u64 r, u64 s] 36 (0, 0)), (b4, Obj.cells g.cl.toArray 53 (0, 0))]) 7 #[true, true, true, true, true, true, true, true, true, true, true, true, false, true, true, false, true, true, true, true, false, true, false, true, true, false, false, false] ?_ (fun hmid50 => ?_)
  · -- state [0, 1, 2, 3, 4, 5, 6, 7, 8, 9, 10, 11, 13, 14, 16, 17, 18, 19, 21, 23, 24]
    rintro bs ⟨hA, hB⟩
    refine JA.branch [12, 15, 20] (by kernel_rfl) rfl ?_
    refine JAll.cons rfl ?_ ?_
    · -- 12
      refine JO.val rfl rfl rfl (.yes rfl rfl rfl) (Ev.load1 rfl Tryd.underlying34 rfl (Rd.own memK rfl)) ?_
      exact JA.weak rfl (by kernel_rfl) (by exact Keeps.k) (by exact Sub.k) (hmid23 0 (by exact ⟨hA, hB⟩))
    refine JAll.cons rfl ?_ ?_
    · -- 15
      refine JO.val rfl rfl rfl (.yes rfl rfl rfl) (Ev.load1 rfl Tryd.underlying34 rfl (Rd.own memK rfl)) ?_
      exact JA.weak rfl (by kernel_rfl) (by exact Keeps.k) (by exact Sub.k) (hmid26 0 (by exact ⟨hA, hB⟩))
    refine JAll.cons rfl ?_ JAll.nil
    refine JO.new rfl rfl rfl (.yes rfl rfl rfl) (En.bsN (e := 34) rfl (fun _ => by kernel_rfl)) (fun b29 hb29 => ?_)
    obtain ⟨bs, rfl⟩ : ∃ b, b = b29 := ⟨_, rfl⟩
    exact JA.weak rfl (by kernel_rfl) (by exact Keeps.k) (by exact Sub.k) (hmid29 bs (by exact ⟨hA, hB⟩))
  refine JA.mid (X := Nat) (fun bs => memR g y = true ∧ memR g r = true) (fun bs => [(33, u64 s), (30, .slice oa t.length cap), (29, .slice (some ⟨bs, 0, none⟩) 2 2), (23, .pointer (some ⟨b7, 0 + 0, none⟩)), (22, u64 y), (20, .pointer (some ⟨b4, 0 + 2, none⟩)), (19, .agg g.cl.toArray), (18, .bool true), (4, .pointer (some ⟨b4, 0, none⟩)), (7, .pointer (some ⟨b7, 0, none⟩)), (1, u64 y), (2, .slice oa t.length cap)]) (fun bs => [(bs, Obj.cells #[u64 y, u64 r] 34 (0, 0)), (b7, Obj.cells #[u64 r, u64 s] 36 (0, 0)), (b4, Obj.cells g.cl.toArray 53 (0, 0))]) 7 #[true, true, true, true, true, true, true, true, true, true, true, true, false, true, true, false, false, true, true, true, true, true, false, true, true, false, false, false] ?_ (fun hmid51 => ?_)
  · -- state [0, 1, 2, 3, 4, 5, 6, 7, 8, 9, 10, 11, 13, 14, 17, 18, 19, 20, 21, 23, 24]
    rintro bs ⟨hA, hB⟩
    refine JA.branch [12, 15, 16] (by kernel_rfl) rfl ?_
    refine JAll.cons rfl ?_ ?_
    · -- 12
      refine JO.val rfl rfl rfl (.yes rfl rfl rfl) (Ev.load1 rfl Tryd.underlying34 rfl (Rd.own memK rfl)) ?_
      exact JA.weak rfl (by kernel_rfl) (by exact Keeps.k) (by exact Sub.k) (hmid24 bs (by exact ⟨hA, hB⟩))
    refine JAll.cons rfl ?_ ?_
    · -- 15
      refine JO.val rfl rfl rfl (.yes rfl rfl rfl) (Ev.load1 rfl Tryd.underlying34 rfl (Rd.own memK rfl)) ?_
      exact JA.weak rfl (by kernel_rfl) (by exact Keeps.k) (by exact Sub.k) (hmid27 bs (by exact ⟨hA, hB⟩))
    refine JAll.cons rfl ?_ JAll.nil
    refine JO.val rfl rfl rfl (.yes rfl rfl rfl) (Ev.lB Tryd.underlying53 Tryd.sizeOf53) ?_
    exact JA.weak rfl (by kernel_rfl) (by exact Keeps.k) (by exact Sub.k) (hmid29 bs (by exact ⟨hA, hB⟩))
  refine JA.mid (X := Nat) (fun bs => memR g y = true ∧ memR g r = true) (fun bs => [(32, .pointer (some ⟨b7, 0 + 1, none⟩)), (30, .slice oa t.length cap), (28, u64 r), (26, u64 y), (25, .agg g.cl.toArray), (24, u64 r), (22, u64 y), (21, u64 g.g), (18, .bool true), (4, .pointer (some ⟨b4, 0, none⟩)), (7, .pointer (some ⟨b7, 0, none⟩)), (1, u64 y), (2, .slice oa t.length cap)]) (fun bs => [(b7, Obj.cells #[u64 r, u64 s] 36 (0, 0)), (b4, Obj.cells g.cl.toArray 53 (0, 0))]) 7 #[true, true, true, true, true, true, true, true, true, true, false, true, true, true, true, true, true, true, true, true, false, true, false, true, false, false, false, false] ?_ (fun hmid52 => ?_)
  · -- state [0, 1, 2, 3, 4, 5, 6, 7, 8, 9, 11, 12, 13, 14, 15, 16, 17, 18, 19, 21, 23]
    rintro bs ⟨hA, hB⟩
    refine JA.branch [10, 20, 24] (by kernel_rfl) rfl ?_
    refine JAll.cons rfl ?_ ?_
    · -- 10
      refine JO.val rfl rfl rfl (.yes rfl rfl rfl) (Ev.lB Tryd.underlying53 Tryd.sizeOf53) ?_
      exact JA.weak rfl (by kernel_rfl) (by exact Keeps.k) (by exact Sub.k) (hmid18 0 (by exact ⟨hA, hB⟩))
    refine JAll.cons rfl ?_ ?_
    · -- 20
      refine JO.new rfl rfl rfl (.yes rfl rfl rfl) (En.bsN (e := 34) rfl (fun _ => by kernel_rfl)) (fun b29 hb29 => ?_)
      obtain ⟨bs, rfl⟩ : ∃ b, b = b29 := ⟨_, rfl⟩
      exact JA.weak rfl (by kernel_rfl) (by exact Keeps.k) (by exact Sub.k) (hmid30 bs (by exact ⟨hA, hB⟩))
    refine JAll.cons rfl ?_ JAll.nil
    refine JO.val rfl rfl rfl (.yes rfl rfl rfl) (Ev.load1 rfl Tryd.underlying34 rfl (Rd.own memK rfl)) ?_
    exact JA.weak rfl (by kernel_rfl) (by exact Keeps.k) (by exact Sub.k) (hmid31 0 (by exact ⟨hA, hB⟩))
  refine JA.mid (X := Nat) (fun bs => memR g y = true ∧ memR g r = true) (fun bs => [(33, u64 s), (30, .slice oa t.length cap), (27, .pointer (some ⟨b7, 0 + 0, none⟩)), (26, u64 y), (25, .agg g.cl.toArray), (24, u64 r), (22, u64 y), (21, u64 g.g), (18, .bool true), (4, .pointer (some ⟨b4, 0, none⟩)), (7, .pointer (some ⟨b7, 0, none⟩)), (1, u64 y), (2, .slice oa t.length cap)]) (fun bs => [(b7, Obj.cells #[u64 r, u64 s] 36 (0, 0)), (b4, Obj.cells g.cl.toArray 53 (0, 0))]) 7 #[true, true, true, true, true, true, true, true, true, true, false, true, true, true, true, true, true, true, true, false, false, true, false, true, true, false, false, false] ?_ (fun hmid53 => ?_)
  · -- state [0, 1, 2, 3, 4, 5, 6, 7, 8, 9, 11, 12, 13, 14, 15, 16, 17, 18, 21, 23, 24]
    rintro bs ⟨hA, hB⟩
    refine JA.branch [10, 19] (by kernel_rfl) rfl ?_
    refine JAll.cons rfl ?_ ?_
    · -- 10
      refine JO.val rfl rfl rfl (.yes rfl rfl rfl) (Ev.lB Tryd.underlying53 Tryd.sizeOf53) ?_
      exact JA.weak rfl (by kernel_rfl) (by exact Keeps.k) (by exact Sub.k) (hmid19 0 (by exact ⟨hA, hB⟩))
    refine JAll.cons rfl ?_ JAll.nil
    refine JO.val rfl rfl rfl (.yes rfl rfl rfl) (Ev.load1 rfl Tryd.underlying34 rfl (Rd.own memK rfl)) ?_
    exact JA.weak rfl (by kernel_rfl) (by exact Keeps.k) (by exact Sub.k) (hmid31 0 (by exact ⟨hA, hB⟩))
  refine JA.mid (X := Nat) (fun bs => memR g y = true ∧ memR g r = true) (fun bs => [(32, .pointer (some ⟨b7, 0 + 1, none⟩)), (30, .slice oa t.length cap), (29, .slice (some ⟨bs, 0, none⟩) 2 2), (24, u64 r), (22, u64 y), (21, u64 g.g), (18, .bool true), (4, .pointer (some ⟨b4, 0, none⟩)), (7, .pointer (some ⟨b7, 0, none⟩)), (1, u64 y), (2, .slice oa t.length cap)]) (fun bs => [(bs, Obj.cells #[u64 y, u64 r] 34 (0, 0)), (b7, Obj.cells #[u64 r, u64 s] 36 (0, 0)), (b4, Obj.cells g.cl.toArray 53 (0, 0))]) 7 #[true, true, true, true, true, true, true, true, true, true, false, true, true, true, true, true, false, true, true, true, true, true, false, true, false, false, false, false] ?_ (fun hmid54 => ?_)
  · -- state [0, 1, 2, 3, 4, 5, 6, 7, 8, 9, 11, 12, 13, 14, 15, 17, 18, 19, 20, 21, 23]
    rintro bs ⟨hA, hB⟩
    refine JA.branch [10, 16, 24] (by kernel_rfl) rfl ?_
    refine JAll.cons rfl ?_ ?_
    · -- 10
      refine JO.val rfl rfl rfl (.yes rfl rfl rfl) (Ev.lB Tryd.underlying53 Tryd.sizeOf53) ?_
      exact JA.weak rfl (by kernel_rfl) (by exact Keeps.k) (by exact Sub.k) (hmid20 bs (by exact ⟨hA, hB⟩))
    refine JAll.cons rfl ?_ ?_
    · -- 16
      refine JO.val rfl rfl rfl (.yes rfl rfl rfl) (Ev.lB Tryd.underlying53 Tryd.sizeOf53) ?_
      exact JA.weak rfl (by kernel_rfl) (by exact Keeps.k) (by exact Sub.k) (hmid30 bs (by exact ⟨hA, hB⟩))
    refine JAll.cons rfl ?_ JAll.nil
    refine JO.val rfl rfl rfl (.yes rfl rfl rfl) (Ev.load1 rfl Tryd.underlying34 rfl (Rd.own memK rfl)) ?_
    exact JA.weak rfl (by kernel_rfl) (by exact Keeps.k) (by exact Sub.k) (hmid32 bs (by exact ⟨hA, hB⟩))
  refine JA.mid (X := Nat) (fun bs => memR g y = true ∧ memR g r = true) (fun bs => [(33, u64 s), (30, .slice oa t.length cap), (28, u64 r), (26, u64 y), (24, u64 r), (22, u64 y), (21, u64 g.g), (18, .bool true), (4, .pointer (some ⟨b4, 0, none⟩)), (7, .pointer (some ⟨b7, 0, none⟩)), (1, u64 y), (2, .slice oa t.length cap)]) (fun bs => [(b7, Obj.cells #[u64 r, u64 s] 36 (0, 0)), (b4, Obj.cells g.cl.toArray 53 (0, 0))]) 7 #[true, true, true, true, true, true, true, true, true, true, false, true, true, true, true, true, false, true, true, true, false, true, false, true, true, false, false, false] ?_ (fun hmid55 => ?_)
  · -- state [0, 1, 2, 3, 4, 5, 6, 7, 8, 9, 11, 12, 13, 14, 15, 17, 18, 19, 21, 23, 24]
    rintro bs ⟨hA, hB⟩
    refine JA.branch [10, 16, 20] (by kernel_rfl) rfl ?_
    refine JAll.cons rfl ?_ ?_
    · -- 10
      refine JO.val rfl rfl rfl (.yes rfl rfl rfl) (Ev.lB Tryd.underlying53 Tryd.sizeOf53) ?_
      exact JA.weak rfl (by kernel_rfl) (by exact Keeps.k) (by exact Sub.k) (hmid21 0 (by exact ⟨hA, hB⟩))
    refine JAll.cons rfl ?_ ?_
    · -- 16
      refine JO.val rfl rfl rfl (.yes rfl rfl rfl) (Ev.lB Tryd.underlying53 Tryd.sizeOf53) ?_
      exact JA.weak rfl (by kernel_rfl) (by exact Keeps.k) (by exact Sub.k) (hmid31 0 (by exact ⟨hA, hB⟩))
    refine JAll.cons rfl ?_ JAll.nil
    refine JO.new rfl rfl rfl (.yes rfl rfl rfl) (En.bsN (e := 34) rfl (fun _ => by kernel_rfl)) (fun b29 hb29 => ?_)
    obtain ⟨bs, rfl⟩ : ∃ b, b = b29 := ⟨_, rfl⟩
    exact JA.weak rfl (by kernel_rfl) (by exact Keeps.k) (by exact Sub.k) (hmid32 bs (by exact ⟨hA, hB⟩))
  refine JA.mid (X := Nat) (fun bs => memR g y = true ∧ memR g r = true) (fun bs => [(32, .pointer (some ⟨b7, 0 + 1, none⟩)), (30, .slice oa t.length cap), (29, .slice (some ⟨bs, 0, none⟩) 2 2), (25, .agg g.cl.toArray), (23, .pointer (some ⟨b7, 0 + 0, none⟩)), (22, u64 y), (21, u64 g.g), (18, .bool true), (4, .pointer (some ⟨b4, 0, none⟩)), (7, .pointer (some ⟨b7, 0, none⟩)), (1, u64 y), (2, .slice oa t.length cap)]) (fun bs => [(bs, Obj.cells #[u64 y, u64 r] 34 (0, 0)), (b7, Obj.cells #[u64 r, u64 s] 36 (0, 0)), (b4, Obj.cells g.cl.toArray 53 (0, 0))]) 7 #[true, true, true, true, true, true, true, true, true, true, false, true, true, true, true, false, true, true, true, true, true, true, false, true, false, false, false, false] ?_ (fun hmid56 => ?_)
  · -- state [0, 1, 2, 3, 4, 5, 6, 7, 8, 9, 11, 12, 13, 14, 16, 17, 18, 19, 20, 21, 23]
    rintro bs ⟨hA, hB⟩
    refine JA.branch [10, 15, 22, 24] (by kernel_rfl) rfl ?_
    refine JAll.cons rfl ?_ ?_
    · -- 10
      refine JO.val rfl rfl rfl (.yes rfl rfl rfl) (Ev.lB Tryd.underlying53 Tryd.sizeOf53) ?_
      exact JA.weak rfl (by kernel_rfl) (by exact Keeps.k) (by exact Sub.k) (hmid22 bs (by exact ⟨hA, hB⟩))
    refine JAll.cons rfl ?_ ?_
    · -- 15
      refine JO.val rfl rfl rfl (.yes rfl rfl rfl) (Ev.load1 rfl Tryd.underlying34 rfl (Rd.own memK rfl)) ?_
      exact JA.weak rfl (by kernel_rfl) (by exact Keeps.k) (by exact Sub.k) (hmid30 bs (by exact ⟨hA, hB⟩))
    refine JAll.cons rfl ?_ ?_
    · -- 22
      refine JO.callV rfl (.yes rfl rfl rfl) rfl Tryd.call146 (fun w1 hw1 => rOf2_any g y r (some ⟨bs, 0, none⟩) oa 2 cap t hok w1 (cs_block (xs := u64s [y, r]) hw1 (by repeat (first | exact List.Mem.head _ | refine List.Mem.tail _ ?_ | refine List.mem_append_right _ ?_)) (show 2 ≤ 1000000 by decide)) (hb.old hw1) ht) ?_
      exact JA.weak rfl (by kernel_rfl) (by exact Keeps.k) (by exact Sub.k) (hmid33 0 (by exact ⟨hA, hB⟩))
    refine JAll.cons rfl ?_ JAll.nil
    refine JO.val rfl rfl rfl (.yes rfl rfl rfl) (Ev.load1 rfl Tryd.underlying34 rfl (Rd.own memK rfl)) ?_
    exact JA.weak rfl (by kernel_rfl) (by exact Keeps.k) (by exact Sub.k) (hmid34 bs (by exact ⟨hA, hB⟩))
  refine JA.mid (X := Nat) (fun bs => memR g y = true ∧ memR g r = true) (fun bs => [(33, u64 s), (30, .slice oa t.length cap), (28, u64 r), (26, u64 y), (25, .agg g.cl.toArray), (23, .pointer (some ⟨b7, 0 + 0, none⟩)), (22, u64 y), (21, u64 g.g), (18, .bool true), (4, .pointer (some ⟨b4, 0, none⟩)), (7, .pointer (some ⟨b7, 0, none⟩)), (1, u64 y), (2, .slice oa t.length cap)]) (fun bs => [(b7, Obj.cells #[u64 r, u64 s] 36 (0, 0)), (b4, Obj.cells g.cl.toArray 53 (0, 0))]) 7 #[true, true, true, true, true, true, true, true, true, true, false, true, true, true, true, false, true, true, true, true, false, true, false, true, true, false, false, false] ?_ (fun hmid57 => ?_)
  · -- state [0, 1, 2, 3, 4, 5, 6, 7, 8, 9, 11, 12, 13, 14, 16, 17, 18, 19, 21, 23, 24]
    rintro bs ⟨hA, hB⟩
    refine JA.branch [10, 15, 20] (by kernel_rfl) rfl ?_
    refine JAll.cons rfl ?_ ?_
    · -- 10
      refine JO.val rfl rfl rfl (.yes rfl rfl rfl) (Ev.lB Tryd.underlying53 Tryd.sizeOf53) ?_
      exact JA.weak rfl (by kernel_rfl) (by exact Keeps.k) (by exact Sub.k) (hmid23 0 (by exact ⟨hA, hB⟩))
    refine JAll.cons rfl ?_ ?_
    · -- 15
      refine JO.val rfl rfl rfl (.yes rfl rfl rfl) (Ev.load1 rfl Tryd.underlying34 rfl (Rd.own memK rfl)) ?_
      exact JA.weak rfl (by kernel_rfl) (by exact Keeps.k) (by exact Sub.k) (hmid31 0 (by exact ⟨hA, hB⟩))
    refine JAll.cons rfl ?_ JAll.nil
    refine JO.new rfl rfl rfl (.yes rfl rfl rfl) (En.bsN (e := 34) rfl (fun _ => by kernel_rfl)) (fun b29 hb29 => ?_)
    obtain ⟨bs, rfl⟩ : ∃ b, b = b29 := ⟨_, rfl⟩
    exact JA.weak rfl (by kernel_rfl) (by exact Keeps.k) (by exact Sub.k) (hmid34 bs (by exact ⟨hA, hB⟩))
  refine JA.mid (X := Nat) (fun bs => memR g y = true ∧ memR g r = true) (fun bs => [(33, u64 s), (30, .slice oa t.length cap), (29, .slice (some ⟨bs, 0, none⟩) 2 2), (23, .pointer (some ⟨b7, 0 + 0, none⟩)), (22, u64 y), (21, u64 g.g), (18, .bool true), (4, .pointer (some ⟨b4, 0, none⟩)), (7, .pointer (some ⟨b7, 0, none⟩)), (1, u64 y), (2, .slice oa t.length cap)]) (fun bs => [(bs, Obj.cells #[u64 y, u64 r] 34 (0, 0)), (b7, Obj.cells #[u64 r, u64 s] 36 (0, 0)), (b4, Obj.cells g.cl.toArray 53 (0, 0))]) 7 #[true, true, true, true, true, true, true, true, true, true, false, true, true, true, true, false, false, true, true, true, true, true, false, true, true, false, false, false] ?_ (fun hmid58 => ?_)
  · -- state [0, 1, 2, 3, 4, 5, 6, 7, 8, 9, 11, 12, 13, 14, 17, 18, 19, 20, 21, 23, 24]
    rintro bs ⟨hA, hB⟩
    refine JA.branch [10, 15, 16] (by kernel_rfl) rfl ?_
    refine JAll.cons rfl ?_ ?_
    · -- 10
      refine JO.val rfl rfl rfl (.yes rfl rfl rfl) (Ev.lB Tryd.underlying53 Tryd.sizeOf53) ?_
      exact JA.weak rfl (by kernel_rfl) (by exact Keeps.k) (by exact Sub.k) (hmid24 bs (by exact ⟨hA, hB⟩))
    refine JAll.cons rfl ?_ ?_
    · -- 15
      refine JO.val rfl rfl rfl (.yes rfl rfl rfl) (Ev.load1 rfl Tryd.underlying34 rfl (Rd.own memK rfl)) ?_
      exact JA.weak rfl (by kernel_rfl) (by exact Keeps.k) (by exact Sub.k) (hmid32 bs (by exact ⟨hA, hB⟩))
    refine JAll.cons rfl ?_ JAll.nil
    refine JO.val rfl rfl rfl (.yes rfl rfl rfl) (Ev.lB Tryd.underlying53 Tryd.sizeOf53) ?_
    exact JA.weak rfl (by kernel_rfl) (by exact Keeps.k) (by exact Sub.k) (hmid34 bs (by exact ⟨hA, hB⟩))
  refine JA.mid (X := Nat) (fun bs => memR g y = true ∧ memR g r = true) (fun bs => [(32, .pointer (some ⟨b7, 0 + 1, none⟩)), (30, .slice oa t.length cap), (29, .slice (some ⟨bs, 0, none⟩) 2 2), (25, .agg g.cl.toArray), (24, u64 r), (22, u64 y), (20, .pointer (some ⟨b4, 0 + 2, none⟩)), (18, .bool true), (4, .pointer (some ⟨b4, 0, none⟩)), (7, .pointer (some ⟨b7, 0, none⟩)), (1, u64 y), (2, .slice oa t.length cap)]) (fun bs => [(bs, Obj.cells #[u64 y, u64 r] 34 (0, 0)), (b7, Obj.cells #[u64 r, u64 s] 36 (0, 0)), (b4, Obj.cells g.cl.toArray 53 (0, 0))]) 7 #[true, true, true, true, true, true, true, true, true, true, false, true, false, true, true, true, true, true, true, true, true, true, false, true, false, false, false, false] ?_ (fun hmid59 => ?_)
  · -- state [0, 1, 2, 3, 4, 5, 6, 7, 8, 9, 11, 13, 14, 15, 16, 17, 18, 19, 20, 21, 23]
    rintro bs ⟨hA, hB⟩
    refine JA.branch [10, 12, 22, 24] (by kernel_rfl) rfl ?_
    refine JAll.cons rfl ?_ ?_
    · -- 10
      refine JO.val rfl rfl rfl (.yes rfl rfl rfl) (Ev.lB Tryd.underlying53 Tryd.sizeOf53) ?_
      exact JA.weak rfl (by kernel_rfl) (by exact Keeps.k) (by exact Sub.k) (hmid25 bs (by exact ⟨hA, hB⟩))
    refine JAll.cons rfl ?_ ?_
    · -- 12
      refine JO.val rfl rfl rfl (.yes rfl rfl rfl) (Ev.load1 rfl Tryd.underlying34 rfl (Rd.own memK rfl)) ?_
      exact JA.weak rfl (by kernel_rfl) (by exact Keeps.k) (by exact Sub.k) (hmid30 bs (by exact ⟨hA, hB⟩))
    refine JAll.cons rfl ?_ ?_
    · -- 22
      refine JO.callV rfl (.yes rfl rfl rfl) rfl Tryd.call146 (fun w1 hw1 => rOf2_any g y r (some ⟨bs, 0, none⟩) oa 2 cap t hok w1 (cs_block (xs := u64s [y, r]) hw1 (by repeat (first | exact List.Mem.head _ | refine List.Mem.tail _ ?_ | refine List.mem_append_right _ ?_)) (show 2 ≤ 1000000 by decide)) (hb.old hw1) ht) ?_
      exact JA.weak rfl (by kernel_rfl) (by exact Keeps.k) (by exact Sub.k) (hmid35 0 (by exact ⟨hA, hB⟩))
    refine JAll.cons rfl ?_ JAll.nil
    refine JO.val rfl rfl rfl (.yes rfl rfl rfl) (Ev.load1 rfl Tryd.underlying34 rfl (Rd.own memK rfl)) ?_
    exact JA.weak rfl (by kernel_rfl) (by exact Keeps.k) (by exact Sub.k) (hmid36 bs (by exact ⟨hA, hB⟩))
  refine JA.mid (X := Nat) (fun bs => memR g y = true ∧ memR g r = true) (fun bs => [(33, u64 s), (30, .slice oa t.length cap), (28, u64 r), (26, u64 y), (25, .agg g.cl.toArray), (24, u64 r), (22, u64 y), (20, .pointer (some ⟨b4, 0 + 2, none⟩)), (18, .bool true), (4, .pointer (some ⟨b4, 0, none⟩)), (7, .pointer (some ⟨b7, 0, none⟩)), (1, u64 y), (2, .slice oa t.length cap)]) (fun bs => [(b7, Obj.cells #[u64 r, u64 s] 36 (0, 0)), (b4, Obj.cells g.cl.toArray 53 (0, 0))]) 7 #[true, true, true, true, true, true, true, true, true, true, false, true, false, true, true, true, true, true, true, true, false, true, false, true, true, false, false, false] ?_ (fun hmid60 => ?_)
  · -- state [0, 1, 2, 3, 4, 5, 6, 7, 8, 9, 11, 13, 14, 15, 16, 17, 18, 19, 21, 23, 24]
    rintro bs ⟨hA, hB⟩
    refine JA.branch [10, 12, 20] (by kernel_rfl) rfl ?_
    refine JAll.cons rfl ?_ ?_
    · -- 10
      refine JO.val rfl rfl rfl (.yes rfl rfl rfl) (Ev.lB Tryd.underlying53 Tryd.sizeOf53) ?_
      exact JA.weak rfl (by kernel_rfl) (by exact Keeps.k) (by exact Sub.k) (hmid26 0 (by exact ⟨hA, hB⟩))
    refine JAll.cons rfl ?_ ?_
    · -- 12
      refine JO.val rfl rfl rfl (.yes rfl rfl rfl) (Ev.load1 rfl Tryd.underlying34 rfl (Rd.own memK rfl)) ?_
      exact JA.weak rfl (by kernel_rfl) (by exact Keeps.k) (by exact Sub.k) (hmid31 0 (by exact ⟨hA, hB⟩))
    refine JAll.cons rfl ?_ JAll.nil
    refine JO.new rfl rfl rfl (.yes rfl rfl rfl) (En.bsN (e := 34) rfl (fun _ => by kernel_rfl)) (fun b29 hb29 => ?_)
    obtain ⟨bs, rfl⟩ : ∃ b, b = b29 := ⟨_, rfl⟩
    exact JA.weak rfl (by kernel_rfl) (by exact Keeps.k) (by exact Sub.k) (hmid36 bs (by exact ⟨hA, hB⟩))
  refine JA.mid (X := Nat) (fun bs => memR g y = true ∧ memR g r = true) (fun bs => [(33, u64 s), (30, .slice oa t.length cap), (29, .slice (some ⟨bs, 0, none⟩) 2 2), (24, u64 r), (22, u64 y), (20, .pointer (some ⟨b4, 0 + 2, none⟩)), (18, .bool true), (4, .pointer (some ⟨b4, 0, none⟩)), (7, .pointer (some ⟨b7, 0, none⟩)), (1, u64 y), (2, .slice oa t.length cap)]) (fun bs => [(bs, Obj.cells #[u64 y, u64 r] 34 (0, 0)), (b7, Obj.cells #[u64 r, u64 s] 36 (0, 0)), (b4, Obj.cells g.cl.toArray 53 (0, 0))]) 7 #[true, true, true, true, true, true, true, true, true, true, false, true, false, true, true, true, false, true, true, true, true, true, false, true, true, false, false, false] ?_ (fun hmid61 => ?_)
  · -- state [0, 1, 2, 3, 4, 5, 6, 7, 8, 9, 11, 13, 14, 15, 17, 18, 19, 20, 21, 23, 24]
    rintro bs ⟨hA, hB⟩
    refine JA.branch [10, 12, 16] (by kernel_rfl) rfl ?_
    refine JAll.cons rfl ?_ ?_
    · -- 10
      refine JO.val rfl rfl rfl (.yes rfl rfl rfl) (Ev.lB Tryd.underlying53 Tryd.sizeOf53) ?_
      exact JA.weak rfl (by kernel_rfl) (by exact Keeps.k) (by exact Sub.k) (hmid27 bs (by exact ⟨hA, hB⟩))
    refine JAll.cons rfl ?_ ?_
    · -- 12
      refine JO.val rfl rfl rfl (.yes rfl rfl rfl) (Ev.load1 rfl Tryd.underlying34 rfl (Rd.own memK rfl)) ?_
      exact JA.weak rfl (by kernel_rfl) (by exact Keeps.k) (by exact Sub.k) (hmid32 bs (by exact ⟨hA, hB⟩))
    refine JAll.cons rfl ?_ JAll.nil
    refine JO.val rfl rfl rfl (.yes rfl rfl rfl) (Ev.lB Tryd.underlying53 Tryd.sizeOf53) ?_
    exact JA.weak rfl (by kernel_rfl) (by exact Keeps.k) (by exact Sub.k) (hmid36 bs (by exact ⟨hA, hB⟩))
  refine JA.mid (X := Nat) (fun bs => memR g y = true ∧ memR g r = true) (fun bs => [(32, .pointer (some ⟨b7, 0 + 1, none⟩)), (31, u64 (chalR g y r t)), (23, .pointer (some ⟨b7, 0 + 0, none⟩)), (22, u64 y), (20, .pointer (some ⟨b4, 0 + 2, none⟩)), (18, .bool true), (4, .pointer (some ⟨b4, 0, none⟩)), (7, .pointer (some ⟨b7, 0, none⟩)), (1, u64 y), (2, .slice oa t.length cap)]) (fun bs => [(b7, Obj.cells #[u64 r, u64 s] 36 (0, 0)), (b4, Obj.cells g.cl.toArray 53 (0, 0))]) 7 #[true, true, true, true, true, true, true, true, true, true, false, true, false, true, true, false, true, true, true, true, true, true, true, true, false, false, false, false] ?_ (fun hmid62 => ?_)
  · -- state [0, 1, 2, 3, 4, 5, 6, 7, 8, 9, 11, 13, 14, 16, 17, 18, 19, 20, 21, 22, 23]
    rintro bs ⟨hA, hB⟩
    refine JA.branch [10, 12, 15, 24] (by kernel_rfl) rfl ?_
    refine JAll.cons rfl ?_ ?_
    · -- 10
      refine JO.val rfl rfl rfl (.yes rfl rfl rfl) (Ev.lB Tryd.underlying53 Tryd.sizeOf53) ?_
      exact JA.weak rfl (by kernel_rfl) (by exact Keeps.k) (by exact Sub.k) (hmid28 0 (by exact ⟨hA, hB⟩))
    refine JAll.cons rfl ?_ ?_
    · -- 12
      refine JO.val rfl rfl rfl (.yes rfl rfl rfl) (Ev.load1 rfl Tryd.underlying34 rfl (Rd.own memK rfl)) ?_
      exact JA.weak rfl (by kernel_rfl) (by exact Keeps.k) (by exact Sub.k) (hmid33 0 (by exact ⟨hA, hB⟩))
    refine JAll.cons rfl ?_ ?_
    · -- 15
      refine JO.val rfl rfl rfl (.yes rfl rfl rfl) (Ev.load1 rfl Tryd.underlying34 rfl (Rd.own memK rfl)) ?_
      exact JA.weak rfl (by kernel_rfl) (by exact Keeps.k) (by exact Sub.k) (hmid35 0 (by exact ⟨hA, hB⟩))
    refine JAll.cons rfl ?_ JAll.nil
    refine JO.val rfl rfl rfl (.yes rfl rfl rfl) (Ev.load1 rfl Tryd.underlying34 rfl (Rd.own memK rfl)) ?_
    exact JA.weak rfl (by kernel_rfl) (by exact Keeps.k) (by exact Sub.k) (hmid37 0 (by exact ⟨hA, hB⟩))
  refine JA.mid (X := Nat) (fun bs => memR g y = true ∧ memR g r = true) (fun bs => [(33, u64 s), (30, .slice oa t.length cap), (29, .slice (some ⟨bs, 0, none⟩) 2 2), (25, .agg g.cl.toArray), (23, .pointer (some ⟨b7, 0 + 0, none⟩)), (22, u64 y), (20, .pointer (some ⟨b4, 0 + 2, none⟩)), (18, .bool true), (4, .pointer (some ⟨b4, 0, none⟩)), (7, .pointer (some ⟨b7, 0, none⟩)), (1, u64 y), (2, .slice oa t.length cap)]) (fun bs => [(bs, Obj.cells #[u64 y, u64 r] 34 (0, 0)), (b7, Obj.cells #[u64 r, u64 s] 36 (0, 0)), (b4, Obj.cells g.cl.toArray 53 (0, 0))]) 7 #[true, true, true, true, true, true, true, true, true, true, false, true, false, true, true, false, true, true, true, true, true, true, false, true, true, false, false, false] ?_ (fun hmid63 => ?_)
  · -- state [0, 1, 2, 3, 4, 5, 6, 7, 8, 9, 11, 13, 14, 16, 17, 18, 19, 20, 21, 23, 24]
    rintro bs ⟨hA, hB⟩
    refine JA.branch [10, 12, 15, 22] (by kernel_rfl) rfl ?_
    refine JAll.cons rfl ?_ ?_
    · -- 10
      refine JO.val rfl rfl rfl (.yes rfl rfl rfl) (Ev.lB Tryd.underlying53 Tryd.sizeOf53) ?_
      exact JA.weak rfl (by kernel_rfl) (by exact Keeps.k) (by exact Sub.k) (hmid29 bs (by exact ⟨hA, hB⟩))
    refine JAll.cons rfl ?_ ?_
    · -- 12
      refine JO.val rfl rfl rfl (.yes rfl rfl rfl) (Ev.load1 rfl Tryd.underlying34 rfl (Rd.own memK rfl)) ?_
      exact JA.weak rfl (by kernel_rfl) (by exact Keeps.k) (by exact Sub.k) (hmid34 bs (by exact ⟨hA, hB⟩))
    refine JAll.cons rfl ?_ ?_
    · -- 15
      refine JO.val rfl rfl rfl (.yes rfl rfl rfl) (Ev.load1 rfl Tryd.underlying34 rfl (Rd.own memK rfl)) ?_
      exact JA.weak rfl (by kernel_rfl) (by exact Keeps.k) (by exact Sub.k) (hmid36 bs (by exact ⟨hA, hB⟩))
    refine JAll.cons rfl ?_ JAll.nil
    refine JO.callV rfl (.yes rfl rfl rfl) rfl Tryd.call146 (fun w1 hw1 => rOf2_any g y r (some ⟨bs, 0, none⟩) oa 2 cap t hok w1 (cs_block (xs := u64s [y, r]) hw1 (by repeat (first | exact List.Mem.head _ | refine List.Mem.tail _ ?_ | refine List.mem_append_right _ ?_)) (show 2 ≤ 1000000 by decide)) (hb.old hw1) ht) ?_
    exact JA.weak rfl (by kernel_rfl) (by exact Keeps.k) (by exact Sub.k) (hmid37 0 (by exact ⟨hA, hB⟩))
  refine JA.mid (X := Nat) (fun bs => memR g y = true ∧ memR g r = true) (fun bs => [(32, .pointer (some ⟨b7, 0 + 1, none⟩)), (30, .slice oa t.length cap), (27, .pointer (some ⟨b7, 0 + 0, none⟩)), (26, u64 y), (24, u64 r), (22, u64 y), (21, u64 g.g), (19, .agg g.cl.toArray), (18, .bool true), (4, .pointer (some ⟨b4, 0, none⟩)), (7, .pointer (some ⟨b7, 0, none⟩)), (1, u64 y), (2, .slice oa t.length cap)]) (fun bs => [(b7, Obj.cells #[u64 r, u64 s] 36 (0, 0)), (b4, Obj.cells g.cl.toArray 53 (0, 0))]) 8 #[true, true, true, true, true, true, true, true, true, true, true, true, true, true, true, true, false, true, true, false, false, true, false, true, false, false, false, false] ?_ (fun hmid64 => ?_)
  · -- state [0, 1, 2, 3, 4, 5, 6, 7, 8, 9, 10, 11, 12, 13, 14, 15, 17, 18, 21, 23]
    rintro bs ⟨hA, hB⟩
    refine JA.branch [16, 19, 24] (by kernel_rfl) rfl ?_
    refine JAll.cons rfl ?_ ?_
    · -- 16
      refine JO.val rfl rfl rfl (.yes rfl rfl rfl) (Ev.lB Tryd.underlying53 Tryd.sizeOf53) ?_
      exact JA.weak rfl (by kernel_rfl) (by exact Keeps.k) (by exact Sub.k) (hmid38 0 (by exact ⟨hA, hB⟩))
    refine JAll.cons rfl ?_ ?_
    · -- 19
      refine JO.val rfl rfl rfl (.yes rfl rfl rfl) (Ev.load1 rfl Tryd.underlying34 rfl (Rd.own memK rfl)) ?_
      exact JA.weak rfl (by kernel_rfl) (by exact Keeps.k) (by exact Sub.k) (hmid39 0 (by exact ⟨hA, hB⟩))
    refine JAll.cons rfl ?_ JAll.nil
    refine JO.val rfl rfl rfl (.yes rfl rfl rfl) (Ev.load1 rfl Tryd.underlying34 rfl (Rd.own memK rfl)) ?_
    exact JA.weak rfl (by kernel_rfl) (by exact Keeps.k) (by exact Sub.k) (hmid40 0 (by exact ⟨hA, hB⟩))
  refine JA.mid (X := Nat) (fun bs => memR g y = true ∧ memR g r = true) (fun bs => [(32, .pointer (some ⟨b7, 0 + 1, none⟩)), (30, .slice oa t.length cap), (27, .pointer (some ⟨b7, 0 + 0, none⟩)), (26, u64 y), (25, .agg g.cl.toArray), (23, .pointer (some ⟨b7, 0 + 0, none⟩)), (22, u64 y), (21, u64 g.g), (19, .agg g.cl.toArray), (18, .bool true), (4, .pointer (some ⟨b4, 0, none⟩)), (7, .pointer (some ⟨b7, 0, none⟩)), (1, u64 y), (2, .slice oa t.length cap)]) (fun bs => [(b7, Obj.cells #[u64 r, u64 s] 36 (0, 0)), (b4, Obj.cells g.cl.toArray 53 (0, 0))]) 8 #[true, true, true, true, true, true, true, true, true, true, true, true, true, true, true, false, true, true, true, false, false, true, false, true, false, false, false, false] ?_ (fun hmid65 => ?_)
  · -- state [0, 1, 2, 3, 4, 5, 6, 7, 8, 9, 10, 11, 12, 13, 14, 16, 17, 18, 21, 23]
    rintro bs ⟨hA, hB⟩
    refine JA.branch [15, 19, 24] (by kernel_rfl) rfl ?_
    refine JAll.cons rfl ?_ ?_
    · -- 15
      refine JO.val rfl rfl rfl (.yes rfl rfl rfl) (Ev.load1 rfl Tryd.underlying34 rfl (Rd.own memK rfl)) ?_
      exact JA.weak rfl (by kernel_rfl) (by exact Keeps.k) (by exact Sub.k) (hmid38 0 (by exact ⟨hA, hB⟩))
    refine JAll.cons rfl ?_ ?_
    · -- 19
      refine JO.val rfl rfl rfl (.yes rfl rfl rfl) (Ev.load1 rfl Tryd.underlying34 rfl (Rd.own memK rfl)) ?_
      exact JA.weak rfl (by kernel_rfl) (by exact Keeps.k) (by exact Sub.k) (hmid41 0 (by exact ⟨hA, hB⟩))
    refine JAll.cons rfl ?_ JAll.nil
    refine JO.val rfl rfl rfl (.yes rfl rfl rfl) (Ev.load1 rfl Tryd.underlying34 rfl (Rd.own memK rfl)) ?_
    exact JA.weak rfl (by kernel_rfl) (by exact Keeps.k) (by exact Sub.k) (hmid42 0 (by exact ⟨hA, hB⟩))
  refine JA.mid (X := Nat) (fun bs => memR g y = true ∧ memR g r = true) (fun bs => [(32, .pointer (some ⟨b7, 0 + 1, none⟩)), (30, .slice oa t.length cap), (28, u64 r), (26, u64 y), (23, .pointer (some ⟨b7, 0 + 0, none⟩)), (22, u64 y), (21, u64 g.g), (19, .agg g.cl.toArray), (18, .bool true), (4, .pointer (some ⟨b4, 0, none⟩)), (7, .pointer (some ⟨b7, 0, none⟩)), (1, u64 y), (2, .slice oa t.length cap)]) (fun bs => [(b7, Obj.cells #[u64 r, u64 s] 36 (0, 0)), (b4, Obj.cells g.cl.toArray 53 (0, 0))]) 8 #[true, true, true, true, true, true, true, true, true, true, true, true, true, true, true, false, false, true, true, true, false, true, false, true, false, false, false, false] ?_ (fun hmid66 => ?_)
  · -- state [0, 1, 2, 3, 4, 5, 6, 7, 8, 9, 10, 11, 12, 13, 14, 17, 18, 19, 21, 23]
    rintro bs ⟨hA, hB⟩
    refine JA.branch [15, 16, 20, 24] (by kernel_rfl) rfl ?_
    refine JAll.cons rfl ?_ ?_
    · -- 15
      refine JO.val rfl rfl rfl (.yes rfl rfl rfl) (Ev.load1 rfl Tryd.underlying34 rfl (Rd.own memK rfl)) ?_
      exact JA.weak rfl (by kernel_rfl) (by exact Keeps.k) (by exact Sub.k) (hmid39 0 (by exact ⟨hA, hB⟩))
    refine JAll.cons rfl ?_ ?_
    · -- 16
      refine JO.val rfl rfl rfl (.yes rfl rfl rfl) (Ev.lB Tryd.underlying53 Tryd.sizeOf53) ?_
      exact JA.weak rfl (by kernel_rfl) (by exact Keeps.k) (by exact Sub.k) (hmid41 0 (by exact ⟨hA, hB⟩))
    refine JAll.cons rfl ?_ ?_
    · -- 20
      refine JO.new rfl rfl rfl (.yes rfl rfl rfl) (En.bsN (e := 34) rfl (fun _ => by kernel_rfl)) (fun b29 hb29 => ?_)
      obtain ⟨bs, rfl⟩ : ∃ b, b = b29 := ⟨_, rfl⟩
      exact JA.weak rfl (by kernel_rfl) (by exact Keeps.k) (by exact Sub.k) (hmid43 bs (by exact ⟨hA, hB⟩))
    refine JAll.cons rfl ?_ JAll.nil
    refine JO.val rfl rfl rfl (.yes rfl rfl rfl) (Ev.load1 rfl Tryd.underlying34 rfl (Rd.own memK rfl)) ?_
    exact JA.weak rfl (by kernel_rfl) (by exact Keeps.k) (by exact Sub.k) (hmid44 0 (by exact ⟨hA, hB⟩))
  refine JA.mid (X := Nat) (fun bs => memR g y = true ∧ memR g r = true) (fun bs => [(33, u64 s), (30, .slice oa t.length cap), (27, .pointer (some ⟨b7, 0 + 0, none⟩)), (26, u64 y), (23, .pointer (some ⟨b7, 0 + 0, none⟩)), (22, u64 y), (21, u64 g.g), (19, .agg g.cl.toArray), (18, .bool true), (4, .pointer (some ⟨b4, 0, none⟩)), (7, .pointer (some ⟨b7, 0, none⟩)), (1, u64 y), (2, .slice oa t.length cap)]) (fun bs => [(b7, Obj.cells #[u64 r, u64 s] 36 (0, 0)), (b4, Obj.cells g.cl.toArray 53 (0, 0))]) 8 #[true, true, true, true, true, true, true, true, true, true, true, true, true, true, true, false, false, true, true, false, false, true, false, true, true, false, false, false] ?_ (fun hmid67 => ?_)
  · -- state [0, 1, 2, 3, 4, 5, 6, 7, 8, 9, 10, 11, 12, 13, 14, 17, 18, 21, 23, 24]
    rintro bs ⟨hA, hB⟩
    refine JA.branch [15, 16, 19] (by kernel_rfl) rfl ?_
    refine JAll.cons rfl ?_ ?_
    · -- 15
      refine JO.val rfl rfl rfl (.yes rfl rfl rfl) (Ev.load1 rfl Tryd.underlying34 rfl (Rd.own memK rfl)) ?_
      exact JA.weak rfl (by kernel_rfl) (by exact Keeps.k) (by exact Sub.k) (hmid40 0 (by exact ⟨hA, hB⟩))
    refine JAll.cons rfl ?_ ?_
    · -- 16
      refine JO.val rfl rfl rfl (.yes rfl rfl rfl) (Ev.lB Tryd.underlying53 Tryd.sizeOf53) ?_
      exact JA.weak rfl (by kernel_rfl) (by exact Keeps.k) (by exact Sub.k) (hmid42 0 (by exact ⟨hA, hB⟩))
    refine JAll.cons rfl ?_ JAll.nil
    refine JO.val rfl rfl rfl (.yes rfl rfl rfl) (Ev.load1 rfl Tryd.underlying34 rfl (Rd.own memK rfl)) ?_
    exact JA.weak rfl (by kernel_rfl) (by exact Keeps.k) (by exact Sub.k) (hmid44 0 (by exact ⟨hA, hB⟩))
  refine JA.mid (X := Nat) (fun bs => memR g y = true ∧ memR g r = true) (fun bs => [(32, .pointer (some ⟨b7, 0 + 1, none⟩)), (30, .slice oa t.length cap), (27, .pointer (some ⟨b7, 0 + 0, none⟩)), (26, u64 y), (25, .agg g.cl.toArray), (24, u64 r), (22, u64 y), (20, .pointer (some ⟨b4, 0 + 2, none⟩)), (19, .agg g.cl.toArray), (18, .bool true), (4, .pointer (some ⟨b4, 0, none⟩)), (7, .pointer (some ⟨b7, 0, none⟩)), (1, u64 y), (2, .slice oa t.length cap)]) (fun bs => [(b7, Obj.cells #[u64 r, u64 s] 36 (0, 0)), (b4, Obj.cells g.cl.toArray 53 (0, 0))]) 8 #[true, true, true, true, true, true, true, true, true, true, true, true, false, true, true, true, true, true, true, false, false, true, false, true, false, false, false, false] ?_ (fun hmid68 => ?_)
  · -- state [0, 1, 2, 3, 4, 5, 6, 7, 8, 9, 10, 11, 13, 14, 15, 16, 17, 18, 21, 23]
    rintro bs ⟨hA, hB⟩
    refine JA.branch [12, 19, 24] (by kernel_rfl) rfl ?_
    refine JAll.cons rfl ?_ ?_
    · -- 12
      refine JO.val rfl rfl rfl (.yes rfl rfl rfl) (Ev.load1 rfl Tryd.underlying34 rfl (Rd.own memK rfl)) ?_
      exact JA.weak rfl (by kernel_rfl) (by exact Keeps.k) (by exact Sub.k) (hmid38 0 (by exact ⟨hA, hB⟩))
    refine JAll.cons rfl ?_ ?_
    · -- 19
      refine JO.val rfl rfl rfl (.yes rfl rfl rfl) (Ev.load1 rfl Tryd.underlying34 rfl (Rd.own memK rfl)) ?_
      exact JA.weak rfl (by kernel_rfl) (by exact Keeps.k) (by exact Sub.k) (hmid45 0 (by exact ⟨hA, hB⟩))
    refine JAll.cons rfl ?_ JAll.nil
    refine JO.val rfl rfl rfl (.yes rfl rfl rfl) (Ev.load1 rfl Tryd.underlying34 rfl (Rd.own memK rfl)) ?_
    exact JA.weak rfl (by kernel_rfl) (by exact Keeps.k) (by exact Sub.k) (hmid46 0 (by exact ⟨hA, hB⟩))
  refine JA.mid (X := Nat) (fun bs => memR g y = true ∧ memR g r = true) (fun bs => [(32, .pointer (some ⟨b7, 0 + 1, none⟩)), (30, .slice oa t.length cap), (28, u64 r), (26, u64 y), (24, u64 r), (22, u64 y), (20, .pointer (some ⟨b4, 0 + 2, none⟩)), (19, .agg g.cl.toArray), (18, .bool true), (4, .pointer (some ⟨b4, 0, none⟩)), (7, .pointer (some ⟨b7, 0, none⟩)), (1, u64 y), (2, .slice oa t.length cap)]) (fun bs => [(b7, Obj.cells #[u64 r, u64 s] 36 (0, 0)), (b4, Obj.cells g.cl.toArray 53 (0, 0))]) 8 #[true, true, true, true, true, true, true, true, true, true, true, true, false, true, true, true, false, true, true, true, false, true, false, true, false, false, false, false] ?_ (fun hmid69 => ?_)
  · -- state [0, 1, 2, 3, 4, 5, 6, 7, 8, 9, 10, 11, 13, 14, 15, 17, 18, 19, 21, 23]
    rintro bs ⟨hA, hB⟩
    refine JA.branch [12, 16, 20, 24] (by kernel_rfl) rfl ?_
    refine JAll.cons rfl ?_ ?_
    · -- 12
      refine JO.val rfl rfl rfl (.yes rfl rfl rfl) (Ev.load1 rfl Tryd.underlying34 rfl (Rd.own memK rfl)) ?_
      exact JA.weak rfl (by kernel_rfl) (by exact Keeps.k) (by exact Sub.k) (hmid39 0 (by exact ⟨hA, hB⟩))
    refine JAll.cons rfl ?_ ?_
    · -- 16
      refine JO.val rfl rfl rfl (.yes rfl rfl rfl) (Ev.lB Tryd.underlying53 Tryd.sizeOf53) ?_
      exact JA.weak rfl (by kernel_rfl) (by exact Keeps.k) (by exact Sub.k) (hmid45 0 (by exact ⟨hA, hB⟩))
    refine JAll.cons rfl ?_ ?_
    · -- 20
      refine JO.new rfl rfl rfl (.yes rfl rfl rfl) (En.bsN (e := 34) rfl (fun _ => by kernel_rfl)) (fun b29 hb29 => ?_)
      obtain ⟨bs, rfl⟩ : ∃ b, b = b29 := ⟨_, rfl⟩
      exact JA.weak rfl (by kernel_rfl) (by exact Keeps.k) (by exact Sub.k) (hmid47 bs (by exact ⟨hA, hB⟩))
    refine JAll.cons rfl ?_ JAll.nil
    refine JO.val rfl rfl rfl (.yes rfl rfl rfl) (Ev.load1 rfl Tryd.underlying34 rfl (Rd.own memK rfl)) ?_
    exact JA.weak rfl (by kernel_rfl) (by exact Keeps.k) (by exact Sub.k) (hmid48 0 (by exact ⟨hA, hB⟩))
  refine JA.mid (X := Nat) (fun bs => memR g y = true ∧ memR g r = true) (fun bs => [(33, u64 s), (30, .slice oa t.length cap), (27, .pointer (some ⟨b7, 0 + 0, none⟩)), (26, u64 y), (24, u64 r), (22, u64 y), (20, .pointer (some ⟨b4, 0 + 2, none⟩)), (19, .agg g.cl.toArray), (18, .bool true), (4, .pointer (some ⟨b4, 0, none⟩)), (7, .pointer (some ⟨b7, 0, none⟩)), (1, u64 y), (2, .slice oa t.length cap)]) (fun bs => [(b7, Obj.cells #[u64 r, u64 s] 36 (0, 0)), (b4, Obj.cells g.cl.toArray 53 (0, 0))]) 8 #[true, true, true, true, true, true, true, true, true, true, true, true, false, true, true, true, false, true, true, false, false, true, false, true, true, false, false, false] ?_ (fun hmid70 => ?_)
  · -- state [0, 1, 2, 3, 4, 5, 6, 7, 8, 9, 10, 11, 13, 14, 15, 17, 18, 21, 23, 24]
    rintro bs ⟨hA, hB⟩
    refine JA.branch [12, 16, 19] (by kernel_rfl) rfl ?_
    refine JAll.cons rfl ?_ ?_
    · -- 12
      refine JO.val rfl rfl rfl (.yes rfl rfl rfl) (Ev.load1 rfl Tryd.underlying34 rfl (Rd.own memK rfl)) ?_
      exact JA.weak rfl (by kernel_rfl) (by exact Keeps.k) (by exact Sub.k) (hmid40 0 (by exact ⟨hA, hB⟩))
    refine JAll.cons rfl ?_ ?_
    · -- 16
      refine JO.val rfl rfl rfl (.yes rfl rfl rfl) (Ev.lB Tryd.underlying53 Tryd.sizeOf53) ?_
      exact JA.weak rfl (by kernel_rfl) (by exact Keeps.k) (by exact Sub.k) (hmid46 0 (by exact ⟨hA, hB⟩))
    refine JAll.cons rfl ?_ JAll.nil
    refine JO.val rfl rfl rfl (.yes rfl rfl rfl) (Ev.load1 rfl Tryd.underlying34 rfl (Rd.own memK rfl)) ?_
    exact JA.weak rfl (by kernel_rfl) (by exact Keeps.k) (by exact Sub.k) (hmid48 0 (by exact ⟨hA, hB⟩))
  refine JA.mid (X := Nat) (fun bs => memR g y = true ∧ memR g r = true) (fun bs => [(32, .pointer (some ⟨b7, 0 + 1, none⟩)), (30, .slice oa t.length cap), (28, u64 r), (26, u64 y), (25, .agg g.cl.toArray), (23, .pointer (some ⟨b7, 0 + 0, none⟩)), (22, u64 y), (20, .pointer (some ⟨b4, 0 + 2, none⟩)), (19, .agg g.cl.toArray), (18, .bool true), (4, .pointer (some ⟨b4, 0, none⟩)), (7, .pointer (some ⟨b7, 0, none⟩)), (1, u64 y), (2, .slice oa t.length cap)]) (fun bs => [(b7, Obj.cells #[u64 r, u64 s] 36 (0, 0)), (b4, Obj.cells g.cl.toArray 53 (0, 0))]) 8 #[true, true, true, true, true, true, true, true, true, true, true, true, false, true, true, false, true, true, true, true, false, true, false, true, false, false, false, false] ?_ (fun hmid71 => ?_)
  · -- state [0, 1, 2, 3, 4, 5, 6, 7, 8, 9, 10, 11, 13, 14, 16, 17, 18, 19, 21, 23]
    rintro bs ⟨hA, hB⟩
    refine JA.branch [12, 15, 20, 24] (by kernel_rfl) rfl ?_
    refine JAll.cons rfl ?_ ?_
    · -- 12
      refine JO.val rfl rfl rfl (.yes rfl rfl rfl) (Ev.load1 rfl Tryd.underlying34 rfl (Rd.own memK rfl)) ?_
      exact JA.weak rfl (by kernel_rfl) (by exact Keeps.k) (by exact Sub.k) (hmid41 0 (by exact ⟨hA, hB⟩))
    refine JAll.cons rfl ?_ ?_
    · -- 15
      refine JO.val rfl rfl rfl (.yes rfl rfl rfl) (Ev.load1 rfl Tryd.underlying34 rfl (Rd.own memK rfl)) ?_
      exact JA.weak rfl (by kernel_rfl) (by exact Keeps.k) (by exact Sub.k) (hmid45 0 (by exact ⟨hA, hB⟩))
    refine JAll.cons rfl ?_ ?_
    · -- 20
      refine JO.new rfl rfl rfl (.yes rfl rfl rfl) (En.bsN (e := 34) rfl (fun _ => by kernel_rfl)) (fun b29 hb29 => ?_)
      obtain ⟨bs, rfl⟩ : ∃ b, b = b29 := ⟨_, rfl⟩
      exact JA.weak rfl (by kernel_rfl) (by exact Keeps.k) (by exact Sub.k) (hmid49 bs (by exact ⟨hA, hB⟩))
    refine JAll.cons rfl ?_ JAll.nil
    refine JO.val rfl rfl rfl (.yes rfl rfl rfl) (Ev.load1 rfl Tryd.underlying34 rfl (Rd.own memK rfl)) ?_
    exact JA.weak rfl (by kernel_rfl) (by exact Keeps.k) (by exact Sub.k) (hmid50 0 (by exact ⟨hA, hB⟩))
  refine JA.mid (X := Nat) (fun bs => memR g y = true ∧ memR g r = true) (fun bs => [(33, u64 s), (30, .slice oa t.length cap), (27, .pointer (some ⟨b7, 0 + 0, none⟩)), (26, u64 y), (25, .agg g.cl.toArray), (23, .pointer (some ⟨b7, 0 + 0, none⟩)), (22, u64 y), (20, .pointer (some ⟨b4, 0 + 2, none⟩)), (19, .agg g.cl.toArray), (18, .bool true), (4, .pointer (some ⟨b4, 0, none⟩)), (7, .pointer (some ⟨b7, 0, none⟩)), (1, u64 y), (2, .slice oa t.length cap)]) (fun bs => [(b7, Obj.cells #[u64 r, u64 s] 36 (0, 0)), (b4, Obj.cells g.cl.toArray 53 (0, 0))]) 8 #[true, true, true, true, true, true, true, true, true, true, true, true, false, true, true, false, true, true, true, false, false, true, false, true, true, false, false, false] ?_ (fun hmid72 => ?_)
  · -- state [0, 1, 2, 3, 4, 5, 6, 7, 8, 9, 10, 11, 13, 14, 16, 17, 18, 21, 23, 24]
    rintro bs ⟨hA, hB⟩
    refine JA.branch [12, 15, 19] (by kernel_rfl) rfl ?_
    refine JAll.cons rfl ?_ ?_
    · -- 12
      refine JO.val rfl rfl rfl (.yes rfl rfl rfl) (Ev.load1 rfl Tryd.underlying34 rfl (Rd.own memK rfl)) ?_
      exact JA.weak rfl (by kernel_rfl) (by exact Keeps.k) (by exact Sub.k) (hmid42 0 (by exact ⟨hA, hB⟩))
    refine JAll.cons rfl ?_ ?_
    · -- 15
      refine JO.val rfl rfl rfl (.yes rfl rfl rfl) (Ev.load1 rfl Tryd.underlying34 rfl (Rd.own memK rfl)) ?_
      exact JA.weak rfl (by kernel_rfl) (by exact Keeps.k) (by exact Sub.k) (hmid46 0 (by exact ⟨hA, hB⟩))
    refine JAll.cons rfl ?_ JAll.nil
    refine JO.val rfl rfl rfl (.yes rfl rfl rfl) (Ev.load1 rfl Tryd.underlying34 rfl (Rd.own memK rfl)) ?_
    exact JA.weak rfl (by kernel_rfl) (by exact Keeps.k) (by exact Sub.k) (hmid50 0 (by exact ⟨hA, hB⟩))
  refine JA.mid (X := Nat) (fun bs => memR g y = true ∧ memR g r = true) (fun bs => [(32, .pointer (some ⟨b7, 0 + 1, none⟩)), (30, .slice oa t.length cap), (29, .slice (some ⟨bs, 0, none⟩) 2 2), (23, .pointer (some ⟨b7, 0 + 0, none⟩)), (22, u64 y), (20, .pointer (some ⟨b4, 0 + 2, none⟩)), (19, .agg g.cl.toArray), (18, .bool true), (4, .pointer (some ⟨b4, 0, none⟩)), (7, .pointer (some ⟨b7, 0, none⟩)), (1, u64 y), (2, .slice oa t.length cap)]) (fun bs => [(bs, Obj.cells #[u64 y, u64 r] 34 (0, 0)), (b7, Obj.cells #[u64 r, u64 s] 36 (0, 0)), (b4, Obj.cells g.cl.toArray 53 (0, 0))]) 8 #[true, true, true, true, true, true, true, true, true, true, true, true, false, true, true, false, false, true, true, true, true, true, false, true, false, false, false, false] ?_ (fun hmid73 => ?_)
  · -- state [0, 1, 2, 3, 4, 5, 6, 7, 8, 9, 10, 11, 13, 14, 17, 18, 19, 20, 21, 23]
    rintro bs ⟨hA, hB⟩
    refine JA.branch [12, 15, 16, 24] (by kernel_rfl) rfl ?_
    refine JAll.cons rfl ?_ ?_
    · -- 12
      refine JO.val rfl rfl rfl (.yes rfl rfl rfl) (Ev.load1 rfl Tryd.underlying34 rfl (Rd.own memK rfl)) ?_
      exact JA.weak rfl (by kernel_rfl) (by exact Keeps.k) (by exact Sub.k) (hmid43 bs (by exact ⟨hA, hB⟩))
    refine JAll.cons rfl ?_ ?_
    · -- 15
      refine JO.val rfl rfl rfl (.yes rfl rfl rfl) (Ev.load1 rfl Tryd.underlying34 rfl (Rd.own memK rfl)) ?_
      exact JA.weak rfl (by kernel_rfl) (by exact Keeps.k) (by exact Sub.k) (hmid47 bs (by exact ⟨hA, hB⟩))
    refine JAll.cons rfl ?_ ?_
    · -- 16
      refine JO.val rfl rfl rfl (.yes rfl rfl rfl) (Ev.lB Tryd.underlying53 Tryd.sizeOf53) ?_
      exact JA.weak rfl (by kernel_rfl) (by exact Keeps.k) (by exact Sub.k) (hmid49 bs (by exact ⟨hA, hB⟩))
    refine JAll.cons rfl ?_ JAll.nil
    refine JO.val rfl rfl rfl (.yes rfl rfl rfl) (Ev.load1 rfl Tryd.underlying34 rfl (Rd.own memK rfl)) ?_
    exact JA.weak rfl (by kernel_rfl) (by exact Keeps.k) (by exact Sub.k) (hmid51 bs (by exact ⟨hA, hB⟩))
  refine JA.mid (X := Nat) (fun bs => memR g y = true ∧ memR g r = true) (fun bs => [(33, u64 s), (30, .slice oa t.length cap), (28, u64 r), (26, u64 y), (23, .pointer (some ⟨b7, 0 + 0, none⟩)), (22, u64 y), (20, .pointer (some ⟨b4, 0 + 2, none⟩)), (19, .agg g.cl.toArray), (18, .bool true), (4, .pointer (some ⟨b4, 0, none⟩)), (7, .pointer (some ⟨b7, 0, none⟩)), (1, u64 y), (2, .slice oa t.length cap)]) (fun bs => [(b7, Obj.cells #[u64 r, u64 s] 36 (0, 0)), (b4, Obj.cells g.cl.toArray 53 (0, 0))]) 8 #[true, true, true, true, true, true, true, true, true, true, true, true, false, true, true, false, false, true, true, true, false, true, false, true, true, false, false, false] ?_ (fun hmid74 => ?_)
  · -- state [0, 1, 2, 3, 4, 5, 6, 7, 8, 9, 10, 11, 13, 14, 17, 18, 19, 21, 23, 24]
    rintro bs ⟨hA, hB⟩
    refine JA.branch [12, 15, 16, 20] (by kernel_rfl) rfl ?_
    refine JAll.cons rfl ?_ ?_
    · -- 12
      refine JO.val rfl rfl rfl (.yes rfl rfl rfl) (Ev.load1 rfl Tryd.underlying34 rfl (Rd.own memK rfl)) ?_
      exact JA.weak rfl (by kernel_rfl) (by exact Keeps.k) (by exact Sub.k) (hmid44 0 (by exact ⟨hA, hB⟩))
    refine JAll.cons rfl ?_ ?_
    · -- 15
      refine JO.val rfl rfl rfl (.yes rfl rfl rfl) (Ev.load1 rfl Tryd.underlying34 rfl (Rd.own memK rfl)) ?_
      exact JA.weak rfl (by kernel_rfl) (by exact Keeps.k) (by exact Sub.k) (hmid48 0 (by exact ⟨hA, hB⟩))
    refine JAll.cons rfl ?_ ?_
    · -- 16
      refine JO.val rfl rfl rfl (.yes rfl rfl rfl) (Ev.lB Tryd.underlying53 Tryd.sizeOf53) ?_
      exact JA.weak rfl (by kernel_rfl) (by exact Keeps.k) (by exact Sub.k) (hmid50 0 (by exact ⟨hA, hB⟩))
    refine JAll.cons rfl ?_ JAll.nil
    refine JO.new rfl rfl rfl (.yes rfl rfl rfl) (En.bsN (e := 34) rfl (fun _ => by kernel_rfl)) (fun b29 hb29 => ?_)
    obtain ⟨bs, rfl⟩ : ∃ b, b = b29 := ⟨_, rfl⟩
    exact JA.weak rfl (by kernel_rfl) (by exact Keeps.k) (by exact Sub.k) (hmid51 bs (by exact ⟨hA, hB⟩))
  refine JA.mid (X := Nat) (fun bs => memR g y = true ∧ memR g r = true) (fun bs => [(32, .pointer (some ⟨b7, 0 + 1, none⟩)), (30, .slice oa t.length cap), (27, .pointer (some ⟨b7, 0 + 0, none⟩)), (26, u64 y), (25, .agg g.cl.toArray), (24, u64 r), (22, u64 y), (21, u64 g.g), (18, .bool true), (4, .pointer (some ⟨b4, 0, none⟩)), (7, .pointer (some ⟨b7, 0, none⟩)), (1, u64 y), (2, .slice oa t.length cap)]) (fun bs => [(b7, Obj.cells #[u64 r, u64 s] 36 (0, 0)), (b4, Obj.cells g.cl.toArray 53 (0, 0))]) 8 #[true, true, true, true, true, true, true, true, true, true, false, true, true, true, true, true, true, true, true, false, false, true, false, true, false, false, false, false] ?_ (fun hmid75 => ?_)
  · -- state [0, 1, 2, 3, 4, 5, 6, 7, 8, 9, 11, 12, 13, 14, 15, 16, 17, 18, 21, 23]
    rintro bs ⟨hA, hB⟩
    refine JA.branch [10, 19, 24] (by kernel_rfl) rfl ?_
    refine JAll.cons rfl ?_ ?_
    · -- 10
      refine JO.val rfl rfl rfl (.yes rfl rfl rfl) (Ev.lB Tryd.underlying53 Tryd.sizeOf53) ?_
      exact JA.weak rfl (by kernel_rfl) (by exact Keeps.k) (by exact Sub.k) (hmid38 0 (by exact ⟨hA, hB⟩))
    refine JAll.cons rfl ?_ ?_
    · -- 19
      refine JO.val rfl rfl rfl (.yes rfl rfl rfl) (Ev.load1 rfl Tryd.underlying34 rfl (Rd.own memK rfl)) ?_
      exact JA.weak rfl (by kernel_rfl) (by exact Keeps.k) (by exact Sub.k) (hmid52 0 (by exact ⟨hA, hB⟩))
    refine JAll.cons rfl ?_ JAll.nil
    refine JO.val rfl rfl rfl (.yes rfl rfl rfl) (Ev.load1 rfl Tryd.underlying34 rfl (Rd.own memK rfl)) ?_
    exact JA.weak rfl (by kernel_rfl) (by exact Keeps.k) (by exact Sub.k) (hmid53 0 (by exact ⟨hA, hB⟩))
  refine JA.mid (X := Nat) (fun bs => memR g y = true ∧ memR g r = true) (fun bs => [(32, .pointer (some ⟨b7, 0 + 1, none⟩)), (30, .slice oa t.length cap), (28, u64 r), (26, u64 y), (24, u64 r), (22, u64 y), (21, u64 g.g), (18, .bool true), (4, .pointer (some ⟨b4, 0, none⟩)), (7, .pointer (some ⟨b7, 0, none⟩)), (1, u64 y), (2, .slice oa t.length cap)]) (fun bs => [(b7, Obj.cells #[u64 r, u64 s] 36 (0, 0)), (b4, Obj.cells g.cl.toArray 53 (0, 0))]) 8 #[true, true, true, true, true, true, true, true, true, true, false, true, true, true, true, true, false, true, true, true, false, true, false, true, false, false, false, false] ?_ (fun hmid76 => ?_)
  · -- state [0, 1, 2, 3, 4, 5, 6, 7, 8, 9, 11, 12, 13, 14, 15, 17, 18, 19, 21, 23]
    rintro bs ⟨hA, hB⟩
    refine JA.branch [10, 16, 20, 24] (by kernel_rfl) rfl ?_
    refine JAll.cons rfl ?_ ?_
    · -- 10
      refine JO.val rfl rfl rfl (.yes rfl rfl rfl) (Ev.lB Tryd.underlying53 Tryd.sizeOf53) ?_
      exact JA.weak rfl (by kernel_rfl) (by exact Keeps.k) (by exact Sub.k) (hmid39 0 (by exact ⟨hA, hB⟩))
    refine JAll.cons rfl ?_ ?_
    · -- 16
      refine JO.val rfl rfl rfl (.yes rfl rfl rfl) (Ev.lB Tryd.underlying53 Tryd.sizeOf53) ?_
      exact JA.weak rfl (by kernel_rfl) (by exact Keeps.k) (by exact Sub.k) (hmid52 0 (by exact ⟨hA, hB⟩))
    refine JAll.cons rfl ?_ ?_
    · -- 20
      refine JO.new rfl rfl rfl (.yes rfl rfl rfl) (En.bsN (e := 34) rfl (fun _ => by kernel_rfl)) (fun b29 hb29 => ?_)
      obtain ⟨bs, rfl⟩ : ∃ b, b = b29 := ⟨_, rfl⟩
      exact JA.weak rfl (by kernel_rfl) (by exact Keeps.k) (by exact Sub.k) (hmid54 bs (by exact ⟨hA, hB⟩))
    refine JAll.cons rfl ?_ JAll.nil
    refine JO.val rfl rfl rfl (.yes rfl rfl rfl) (Ev.load1 rfl Tryd.underlying34 rfl (Rd.own memK rfl)) ?_
    exact JA.weak rfl (by kernel_rfl) (by exact Keeps.k) (by exact Sub.k) (hmid55 0 (by exact ⟨hA, hB⟩))
  refine JA.mid (X := Nat) (fun bs => memR g y = true ∧ memR g r = true) (fun bs => [(33, u64 s), (30, .slice oa t.length cap), (27, .pointer (some ⟨b7, 0 + 0, none⟩)), (26, u64 y), (24, u64 r), (22, u64 y), (21, u64 g.g), (18, .bool true), (4, .pointer (some ⟨b4, 0, none⟩)), (7, .pointer (some ⟨b7, 0, none⟩)), (1, u64 y), (2, .slice oa t.length cap)]) (fun bs => [(b7, Obj.cells #[u64 r, u64 s] 36 (0, 0)), (b4, Obj.cells g.cl.toArray 53 (0, 0))]) 8 #[true, true, true, true, true, true, true, true, true, true, false, true, true, true, true, true, false, true, true, false, false, true, false, true, true, false, false, false] ?_ (fun hmid77 => ?_)
  · -- state [0, 1, 2, 3, 4, 5, 6, 7, 8, 9, 11, 12, 13, 14, 15, 17, 18, 21, 23, 24]
    rintro bs ⟨hA, hB⟩
    refine JA.branch [10, 16, 19] (by kernel_rfl) rfl ?_
    refine JAll.cons rfl ?_ ?_
    · -- 10
      refine JO.val rfl rfl rfl (.yes rfl rfl rfl) (Ev.lB Tryd.underlying53 Tryd.sizeOf53) ?_
      exact JA.weak rfl (by kernel_rfl) (by exact Keeps.k) (by exact Sub.k) (hmid40 0 (by exact ⟨hA, hB⟩))
    refine JAll.cons rfl ?_ ?_
    · -- 16
      refine JO.val rfl rfl rfl (.yes rfl rfl rfl) (Ev.lB Tryd.underlying53 Tryd.sizeOf53) ?_
      exact JA.weak rfl (by kernel_rfl) (by exact Keeps.k) (by exact Sub.k) (hmid53 0 (by exact ⟨hA, hB⟩))
    refine JAll.cons rfl ?_ JAll.nil
    refine JO.val rfl rfl rfl (.yes rfl rfl rfl) (Ev.load1 rfl Tryd.underlying34 rfl (Rd.own memK rfl)) ?_
    exact JA.weak rfl (by kernel_rfl) (by exact Keeps.k) (by exact Sub.k) (hmid55 0 (by exact ⟨hA, hB⟩))
  refine JA.mid (X := Nat) (fun bs => memR g y = true ∧ memR g r = true) (fun bs => [(32, .pointer (some ⟨b7, 0 + 1, none⟩)), (30, .slice oa t.length cap), (28, u64 r), (26, u64 y), (25, .agg g.cl.toArray), (23, .pointer (some ⟨b7, 0 + 0, none⟩)), (22, u64 y), (21, u64 g.g), (18, .bool true), (4, .pointer (some ⟨b4, 0, none⟩)), (7, .pointer (some ⟨b7, 0, none⟩)), (1, u64 y), (2, .slice oa t.length cap)]) (fun bs => [(b7, Obj.cells #[u64 r, u64 s] 36 (0, 0)), (b4, Obj.cells g.cl.toArray 53 (0, 0))]) 8 #[true, true, true, true, true, true, true, true, true, true, false, true, true, true, true, false, true, true, true, true, false, true, false, true, false, false, false, false] ?_ (fun hmid78 => ?_)
  · -- state [0, 1, 2, 3, 4, 5, 6, 7, 8, 9, 11, 12, 13, 14, 16, 17, 18, 19, 21, 23]
    rintro bs ⟨hA, hB⟩
    refine JA.branch [10, 15, 20, 24] (by kernel_rfl) rfl ?_
    refine JAll.cons rfl ?_ ?_
    · -- 10
      refine JO.val rfl rfl rfl (.yes rfl rfl rfl) (Ev.lB Tryd.underlying53 Tryd.sizeOf53) ?_
      exact JA.weak rfl (by kernel_rfl) (by exact Keeps.k) (by exact Sub.k) (hmid41 0 (by exact ⟨hA, hB⟩))
    refine JAll.cons rfl ?_ ?_
    · -- 15
      refine JO.val rfl rfl rfl (.yes rfl rfl rfl) (Ev.load1 rfl Tryd.underlying34 rfl (Rd.own memK rfl)) ?_
      exact JA.weak rfl (by kernel_rfl) (by exact Keeps.k) (by exact Sub.k) (hmid52 0 (by exact ⟨hA, hB⟩))
    refine JAll.cons rfl ?_ ?_
    · -- 20
      refine JO.new rfl rfl rfl (.yes rfl rfl rfl) (En.bsN (e := 34) rfl (fun _ => by kernel_rfl)) (fun b29 hb29 => ?_)
      obtain ⟨bs, rfl⟩ : ∃ b, b = b29 := ⟨_, rfl⟩
      exact JA.weak rfl (by kernel_rfl) (by exact Keeps.k) (by exact Sub.k) (hmid56 bs (by exact ⟨hA, hB⟩))
    refine JAll.cons rfl ?_ JAll.nil
    refine JO.val rfl rfl rfl (.yes rfl rfl rfl) (Ev.load1 rfl Tryd.underlying34 rfl (Rd.own memK rfl)) ?_
    exact JA.weak rfl (by kernel_rfl) (by exact Keeps.k) (by exact Sub.k) (hmid57 0 (by exact ⟨hA, hB⟩))
  refine JA.mid (X := Nat) (fun bs => memR g y = true ∧ memR g r = true) (fun bs => [(33, u64 s), (30, .slice oa t.length cap), (27, .pointer (some ⟨b7, 0 + 0, none⟩)), (26, u64 y), (25, .agg g.cl.toArray), (23, .pointer (some ⟨b7, 0 + 0, none⟩)), (22, u64 y), (21, u64 g.g), (18, .bool true), (4, .pointer (some ⟨b4, 0, none⟩)), (7, .pointer (some ⟨b7, 0, none⟩)), (1, u64 y), (2, .slice oa t.length cap)]) (fun bs => [(b7, Obj.cells #[u64 r, u64 s] 36 (0, 0)), (b4, Obj.cells g.cl.toArray 53 (0, 0))]) 8 #[true, true, true, true, true, true, true, true, true, true, false, true, true, true, true, false, true, true, true, false, false, true, false, true, true, false, false, false] ?_ (fun hmid79 => ?_)
  · -- state [0, 1, 2, 3, 4, 5, 6, 7, 8, 9, 11, 12, 13, 14, 16, 17, 18, 21, 23, 24]
    rintro bs ⟨hA, hB⟩
    refine JA.branch [10, 15, 19] (by kernel_rfl) rfl ?_
    refine JAll.cons rfl ?_ ?_
    · -- 10
      refine JO.val rfl rfl rfl (.yes rfl rfl rfl) (Ev.lB Tryd.underlying53 Tryd.sizeOf53) ?_
      exact JA.weak rfl (by kernel_rfl) (by exact Keeps.k) (by exact Sub.k) (hmid42 0 (by exact ⟨hA, hB⟩))
    refine JAll.cons rfl ?_ ?_
    · -- 15
      refine JO.val rfl rfl rfl (.yes rfl rfl rfl) (Ev.load1 rfl Tryd.underlying34 rfl (Rd.own memK rfl)) ?_
      exact JA.weak rfl (by kernel_rfl) (by exact Keeps.k) (by exact Sub.k) (hmid53 0 (by exact ⟨hA, hB⟩))
    refine JAll.cons rfl ?_ JAll.nil
    refine JO.val rfl rfl rfl (.yes rfl rfl rfl) (Ev.load1 rfl Tryd.underlying34 rfl (Rd.own memK rfl)) ?_
    exact JA.weak rfl (by kernel_rfl) (by exact Keeps.k) (by exact Sub.k) (hmid57 0 (by exact ⟨hA, hB⟩))
  refine JA.mid (X := Nat) (fun bs => memR g y = true ∧ memR g r = true) (fun bs => [(32, .pointer (some ⟨b7, 0 + 1, none⟩)), (30, .slice oa t.length cap), (29, .slice (some ⟨bs, 0, none⟩) 2 2), (23, .pointer (some ⟨b7, 0 + 0, none⟩)), (22, u64 y), (21, u64 g.g), (18, .bool true), (4, .pointer (some ⟨b4, 0, none⟩)), (7, .pointer (some ⟨b7, 0, none⟩)), (1, u64 y), (2, .slice oa t.length cap)]) (fun bs => [(bs, Obj.cells #[u64 y, u64 r] 34 (0, 0)), (b7, Obj.cells #[u64 r, u64 s] 36 (0, 0)), (b4, Obj.cells g.cl.toArray 53 (0, 0))]) 8 #[true, true, true, true, true, true, true, true, true, true, false, true, true, true, true, false, false, true, true, true, true, true, false, true, false, false, false, false] ?_ (fun hmid80 => ?_)
  · -- state [0, 1, 2, 3, 4, 5, 6, 7, 8, 9, 11, 12, 13, 14, 17, 18, 19, 20, 21, 23]
    rintro bs ⟨hA, hB⟩
    refine JA.branch [10, 15, 16, 24] (by kernel_rfl) rfl ?_
    refine JAll.cons rfl ?_ ?_
    · -- 10
      refine JO.val rfl rfl rfl (.yes rfl rfl rfl) (Ev.lB Tryd.underlying53 Tryd.sizeOf53) ?_
      exact JA.weak rfl (by kernel_rfl) (by exact Keeps.k) (by exact Sub.k) (hmid43 bs (by exact ⟨hA, hB⟩))
    refine JAll.cons rfl ?_ ?_
    · -- 15
      refine JO.val rfl rfl rfl (.yes rfl rfl rfl) (Ev.load1 rfl Tryd.underlying34 rfl (Rd.own memK rfl)) ?_
      exact JA.weak rfl (by kernel_rfl) (by exact Keeps.k) (by exact Sub.k) (hmid54 bs (by exact ⟨hA, hB⟩))
    refine JAll.cons rfl ?_ ?_
    · -- 16
      refine JO.val rfl rfl rfl (.yes rfl rfl rfl) (Ev.lB Tryd.underlying53 Tryd.sizeOf53) ?_
      exact JA.weak rfl (by kernel_rfl) (by exact Keeps.k) (by exact Sub.k) (hmid56 bs (by exact ⟨hA, hB⟩))
    refine JAll.cons rfl ?_ JAll.nil
    refine JO.val rfl rfl rfl (.yes rfl rfl rfl) (Ev.load1 rfl Tryd.underlying34 rfl (Rd.own memK rfl)) ?_
    exact JA.weak rfl (by kernel_rfl) (by exact Keeps.k) (by exact Sub.k) (hmid58 bs (by exact ⟨hA, hB⟩))
  refine JA.mid (X := Nat) (fun bs => memR g y = true ∧ memR g r = true) (fun bs => [(33, u64 s), (30, .slice oa t.length cap), (28, u64 r), (26, u64 y), (23, .pointer (some ⟨b7, 0 + 0, none⟩)), (22, u64 y), (21, u64 g.g), (18, .bool true), (4, .pointer (some ⟨b4, 0, none⟩)), (7, .pointer (some ⟨b7, 0, none⟩)), (1, u64 y), (2, .slice oa t.length cap)]) (fun bs => [(b7, Obj.cells #[u64 r, u64 s] 36 (0, 0)), (b4, Obj.cells g.cl.toArray 53 (0, 0))]) 8 #[true, true, true, true, true, true, true, true, true, true, false, true, true, true, true, false, false, true, true, true, false, true, false, true, true, false, false, false] ?_ (fun hmid81 => ?_)
  · -- state [0, 1, 2, 3, 4, 5, 6, 7, 8, 9, 11, 12, 13, 14, 17, 18, 19, 21, 23, 24]
    rintro bs ⟨hA, hB⟩
    refine JA.branch [10, 15, 16, 20] (by kernel_rfl) rfl ?_
    refine JAll.cons rfl ?_ ?_
    · -- 10
      refine JO.val rfl rfl rfl (.yes rfl rfl rfl) (Ev.lB Tryd.underlying53 Tryd.sizeOf53) ?_
      exact JA.weak rfl (by kernel_rfl) (by exact Keeps.k) (by exact Sub.k) (hmid44 0 (by exact ⟨hA, hB⟩))
    refine JAll.cons rfl ?_ ?_
    · -- 15
      refine JO.val rfl rfl rfl (.yes rfl rfl rfl) (Ev.load1 rfl Tryd.underlying34 rfl (Rd.own memK rfl)) ?_
      exact JA.weak rfl (by kernel_rfl) (by exact Keeps.k) (by exact Sub.k) (hmid55 0 (by exact ⟨hA, hB⟩))
    refine JAll.cons rfl ?_ ?_
    · -- 16
      refine JO.val rfl rfl rfl (.yes rfl rfl rfl) (Ev.lB Tryd.underlying53 Tryd.sizeOf53) ?_
      exact JA.weak rfl (by kernel_rfl) (by exact Keeps.k) (by exact Sub.k) (hmid57 0 (by exact ⟨hA, hB⟩))
    refine JAll.cons rfl ?_ JAll.nil
    refine JO.new rfl rfl rfl (.yes rfl rfl rfl) (En.bsN (e := 34) rfl (fun _ => by kernel_rfl)) (fun b29 hb29 => ?_)
    obtain ⟨bs, rfl⟩ : ∃ b, b = b29 := ⟨_, rfl⟩
    exact JA.weak rfl (by kernel_rfl) (by exact Keeps.k) (by exact Sub.k) (hmid58 bs (by exact ⟨hA, hB⟩))
  refine JA.mid (X := Nat) (fun bs => memR g y = true ∧ memR g r = true) (fun bs => [(32, .pointer (some ⟨b7, 0 + 1, none⟩)), (30, .slice oa t.length cap), (28, u64 r), (26, u64 y), (25, .agg g.cl.toArray), (24, u64 r), (22, u64 y), (20, .pointer (some ⟨b4, 0 + 2, none⟩)), (18, .bool true), (4, .pointer (some ⟨b4, 0, none⟩)), (7, .pointer (some ⟨b7, 0, none⟩)), (1, u64 y), (2, .slice oa t.length cap)]) (fun bs => [(b7, Obj.cells #[u64 r, u64 s] 36 (0, 0)), (b4, Obj.cells g.cl.toArray 53 (0, 0))]) 8 #[true, true, true, true, true, true, true, true, true, true, false, true, false, true, true, true, true, true, true, true, false, true, false, true, false, false, false, false] ?_ (fun hmid82 => ?_)
  · -- state [0, 1, 2, 3, 4, 5, 6, 7, 8, 9, 11, 13, 14, 15, 16, 17, 18, 19, 21, 23]
    rintro bs ⟨hA, hB⟩
    refine JA.branch [10, 12, 20, 24] (by kernel_rfl) rfl ?_
    refine JAll.cons rfl ?_ ?_
    · -- 10
      refine JO.val rfl rfl rfl (.yes rfl rfl rfl) (Ev.lB Tryd.underlying53 Tryd.sizeOf53) ?_
      exact JA.weak rfl (by kernel_rfl) (by exact Keeps.k) (by exact Sub.k) (hmid45 0 (by exact ⟨hA, hB⟩))
    refine JAll.cons rfl ?_ ?_
    · -- 12
      refine JO.val rfl rfl rfl (.yes rfl rfl rfl) (Ev.load1 rfl Tryd.underlying34 rfl (Rd.own memK rfl)) ?_
      exact JA.weak rfl (by kernel_rfl) (by exact Keeps.k) (by exact Sub.k) (hmid52 0 (by exact ⟨hA, hB⟩))
    refine JAll.cons rfl ?_ ?_
    · -- 20
      refine JO.new rfl rfl rfl (.yes rfl rfl rfl) (En.bsN (e := 34) rfl (fun _ => by kernel_rfl)) (fun b29 hb29 => ?_)
      obtain ⟨bs, rfl⟩ : ∃ b, b = b29 := ⟨_, rfl⟩
      exact JA.weak rfl (by kernel_rfl) (by exact Keeps.k) (by exact Sub.k) (hmid59 bs (by exact ⟨hA, hB⟩))
    refine JAll.cons rfl ?_ JAll.nil
    refine JO.val rfl rfl rfl (.yes rfl rfl rfl) (Ev.load1 rfl Tryd.underlying34 rfl (Rd.own memK rfl)) ?_
    exact JA.weak rfl (by kernel_rfl) (by exact Keeps.k) (by exact Sub.k) (hmid60 0 (by exact ⟨hA, hB⟩))
  refine JA.mid (X := Nat) (fun bs => memR g y = true ∧ memR g r = true) (fun bs => [(33, u64 s), (30, .slice oa t.length cap), (27, .pointer (some ⟨b7, 0 + 0, none⟩)), (26, u64 y), (25, .agg g.cl.toArray), (24, u64 r), (22, u64 y), (20, .pointer (some ⟨b4, 0 + 2, none⟩)), (18, .bool true), (4, .pointer (some ⟨b4, 0, none⟩)), (7, .pointer (some ⟨b7, 0, none⟩)), (1, u64 y), (2, .slice oa t.length cap)]) (fun bs => [(b7, Obj.cells #[u64 r, u64 s] 36 (0, 0)), (b4, Obj.cells g.cl.toArray 53 (0, 0))]) 8 #[true, true, true, true, true, true, true, true, true, true, false, true, false, true, true, true, true, true, true, false, false, true, false, true, true, false, false, false] ?_ (fun hmid83 => ?_)
  · -- state [0, 1, 2, 3, 4, 5, 6, 7, 8, 9, 11, 13, 14, 15, 16, 17, 18, 21, 23, 24]
    rintro bs ⟨hA, hB⟩
    refine JA.branch [10, 12, 19] (by kernel_rfl) rfl ?_
    refine JAll.cons rfl ?_ ?_
    · -- 10
      refine JO.val rfl rfl rfl (.yes rfl rfl rfl) (Ev.lB Tryd.underlying53 Tryd.sizeOf53) ?_
      exact JA.weak rfl (by kernel_rfl) (by exact Keeps.k) (by exact Sub.k) (hmid46 0 (by exact ⟨hA, hB⟩))
    refine JAll.cons rfl ?_ ?_
    · -- 12
      refine JO.val rfl rfl rfl (.yes rfl rfl rfl) (Ev.load1 rfl Tryd.underlying34 rfl (Rd.own memK rfl)) ?_
      exact JA.weak rfl (by kernel_rfl) (by exact Keeps.k) (by exact Sub.k) (hmid53 0 (by exact ⟨hA, hB⟩))
    refine JAll.cons rfl ?_ JAll.nil
    refine JO.val rfl rfl rfl (.yes rfl rfl rfl) (Ev.load1 rfl Tryd.underlying34 rfl (Rd.own memK rfl)) ?_
    exact JA.weak rfl (by kernel_rfl) (by exact Keeps.k) (by exact Sub.k) (hmid60 0 (by exact ⟨hA, hB⟩))
  refine JA.mid (X := Nat) (fun bs => memR g y = true ∧ memR g r = true) (fun bs => [(32, .pointer (some ⟨b7, 0 + 1, none⟩)), (30, .slice oa t.length cap), (29, .slice (some ⟨bs, 0, none⟩) 2 2), (24, u64 r), (22, u64 y), (20, .pointer (some ⟨b4, 0 + 2, none⟩)), (18, .bool true), (4, .pointer (some ⟨b4, 0, none⟩)), (7, .pointer (some ⟨b7, 0, none⟩)), (1, u64 y), (2, .slice oa t.length cap)]) (fun bs => [(bs, Obj.cells #[u64 y, u64 r] 34 (0, 0)), (b7, Obj.cells #[u64 r, u64 s] 36 (0, 0)), (b4, Obj.cells g.cl.toArray 53 (0, 0))]) 8 #[true, true, true, true, true, true, true, true, true, true, false, true, false, true, true, true, false, true, true, true, true, true, false, true, false, false, false, false] ?_ (fun hmid84 => ?_)
  · -- state [0, 1, 2, 3, 4, 5, 6, 7, 8, 9, 11, 13, 14, 15, 17, 18, 19, 20, 21, 23]
    rintro bs ⟨hA, hB⟩
    refine JA.branch [10, 12, 16, 24] (by kernel_rfl) rfl ?_
    refine JAll.cons rfl ?_ ?_
    · -- 10
      refine JO.val rfl rfl rfl (.yes rfl rfl rfl) (Ev.lB Tryd.underlying53 Tryd.sizeOf53) ?_
      exact JA.weak rfl (by kernel_rfl) (by exact Keeps.k) (by exact Sub.k) (hmid47 bs (by exact ⟨hA, hB⟩))
    refine JAll.cons rfl ?_ ?_
    · -- 12
      refine JO.val rfl rfl rfl (.yes rfl rfl rfl) (Ev.load1 rfl Tryd.underlying34 rfl (Rd.own memK rfl)) ?_
      exact JA.weak rfl (by kernel_rfl) (by exact Keeps.k) (by exact Sub.k) (hmid54 bs (by exact ⟨hA, hB⟩))
    refine JAll.cons rfl ?_ ?_
    · -- 16
      refine JO.val rfl rfl rfl (.yes rfl rfl rfl) (Ev.lB Tryd.underlying53 Tryd.sizeOf53) ?_
      exact JA.weak rfl (by kernel_rfl) (by exact Keeps.k) (by exact Sub.k) (hmid59 bs (by exact ⟨hA, hB⟩))
    refine JAll.cons rfl ?_ JAll.nil
    refine JO.val rfl rfl rfl (.yes rfl rfl rfl) (Ev.load1 rfl Tryd.underlying34 rfl (Rd.own memK rfl)) ?_
    exact JA.weak rfl (by kernel_rfl) (by exact Keeps.k) (by exact Sub.k) (hmid61 bs (by exact ⟨hA, hB⟩))
  refine JA.mid (X := Nat) (fun bs => memR g y = true ∧ memR g r = true) (fun bs => [(33, u64 s), (30, .slice oa t.length cap), (28, u64 r), (26, u64 y), (24, u64 r), (22, u64 y), (20, .pointer (some ⟨b4, 0 + 2, none⟩)), (18, .bool true), (4, .pointer (some ⟨b4, 0, none⟩)), (7, .pointer (some ⟨b7, 0, none⟩)), (1, u64 y), (2, .slice oa t.length cap)]) (fun bs => [(b7, Obj.cells #[u64 r, u64 s] 36 (0, 0)), (b4, Obj.cells g.cl.toArray 53 (0, 0))]) 8 #[true, true, true, true, true, true, true, true, true, true, false, true, false, true, true, true, false, true, true, true, false, true, false, true, true, false, false, false] ?_ (fun hmid85 => ?_)
  · -- state [0, 1, 2, 3, 4, 5, 6, 7, 8, 9, 11, 13, 14, 15, 17, 18, 19, 21, 23, 24]
    rintro bs ⟨hA, hB⟩
    refine JA.branch [10, 12, 16, 20] (by kernel_rfl) rfl ?_
    refine JAll.cons rfl ?_ ?_
    · -- 10
      refine JO.val rfl rfl rfl (.yes rfl rfl rfl) (Ev.lB Tryd.underlying53 Tryd.sizeOf53) ?_
      exact JA.weak rfl (by kernel_rfl) (by exact Keeps.k) (by exact Sub.k) (hmid48 0 (by exact ⟨hA, hB⟩))
    refine JAll.cons rfl ?_ ?_
    · -- 12
      refine JO.val rfl rfl rfl (.yes rfl rfl rfl) (Ev.load1 rfl Tryd.underlying34 rfl (Rd.own memK rfl)) ?_
      exact JA.weak rfl (by kernel_rfl) (by exact Keeps.k) (by exact Sub.k) (hmid55 0 (by exact ⟨hA, hB⟩))
    refine JAll.cons rfl ?_ ?_
    · -- 16
      refine JO.val rfl rfl rfl (.yes rfl rfl rfl) (Ev.lB Tryd.underlying53 Tryd.sizeOf53) ?_
      exact JA.weak rfl (by kernel_rfl) (by exact Keeps.k) (by exact Sub.k) (hmid60 0 (by exact ⟨hA, hB⟩))
    refine JAll.cons rfl ?_ JAll.nil
    refine JO.new rfl rfl rfl (.yes rfl rfl rfl) (En.bsN (e := 34) rfl (fun _ => by kernel_rfl)) (fun b29 hb29 => ?_)
    obtain ⟨bs, rfl⟩ : ∃ b, b = b29 := ⟨_, rfl⟩
    exact JA.weak rfl (by kernel_rfl) (by exact Keeps.k) (by exact Sub.k) (hmid61 bs (by exact ⟨hA, hB⟩))
  refine JA.mid (X := Nat) (fun bs => memR g y = true ∧ memR g r = true) (fun bs => [(32, .pointer (some ⟨b7, 0 + 1, none⟩)), (30, .slice oa t.length cap), (29, .slice (some ⟨bs, 0, none⟩) 2 2), (25, .agg g.cl.toArray), (23, .pointer (some ⟨b7, 0 + 0, none⟩)), (22, u64 y), (20, .pointer (some ⟨b4, 0 + 2, none⟩)), (18, .bool true), (4, .pointer (some ⟨b4, 0, none⟩)), (7, .pointer (some ⟨b7, 0, none⟩)), (1, u64 y), (2, .slice oa t.length cap)]) (fun bs => [(bs, Obj.cells #[u64 y, u64 r] 34 (0, 0)), (b7, Obj.cells #[u64 r, u64 s] 36 (0, 0)), (b4, Obj.cells g.cl.toArray 53 (0, 0))]) 8 #[true, true, true, true, true, true, true, true, true, true, false, true, false, true, true, false, true, true, true, true, true, true, false, true, false, false, false, false] ?_ (fun hmid86 => ?_)
  · -- state [0, 1, 2, 3, 4, 5, 6, 7, 8, 9, 11, 13, 14, 16, 17, 18, 19, 20, 21, 23]
    rintro bs ⟨hA, hB⟩
    refine JA.branch [10, 12, 15, 22, 24] (by kernel_rfl) rfl ?_
    refine JAll.cons rfl ?_ ?_
    · -- 10
      refine JO.val rfl rfl rfl (.yes rfl rfl rfl) (Ev.lB Tryd.underlying53 Tryd.sizeOf53) ?_
      exact JA.weak rfl (by kernel_rfl) (by exact Keeps.k) (by exact Sub.k) (hmid49 bs (by exact ⟨hA, hB⟩))
    refine JAll.cons rfl ?_ ?_
    · -- 12
      refine JO.val rfl rfl rfl (.yes rfl rfl rfl) (Ev.load1 rfl Tryd.underlying34 rfl (Rd.own memK rfl)) ?_
      exact JA.weak rfl (by kernel_rfl) (by exact Keeps.k) (by exact Sub.k) (hmid56 bs (by exact ⟨hA, hB⟩))
    refine JAll.cons rfl ?_ ?_
    · -- 15
      refine JO.val rfl rfl rfl (.yes rfl rfl rfl) (Ev.load1 rfl Tryd.underlying34 rfl (Rd.own memK rfl)) ?_
      exact JA.weak rfl (by kernel_rfl) (by exact Keeps.k) (by exact Sub.k) (hmid59 bs (by exact ⟨hA, hB⟩))
    refine JAll.cons rfl ?_ ?_
    · -- 22
      refine JO.callV rfl (.yes rfl rfl rfl) rfl Tryd.call146 (fun w1 hw1 => rOf2_any g y r (some ⟨bs, 0, none⟩) oa 2 cap t hok w1 (cs_block (xs := u64s [y, r]) hw1 (by repeat (first | exact List.Mem.head _ | refine List.Mem.tail _ ?_ | refine List.mem_append_right _ ?_)) (show 2 ≤ 1000000 by decide)) (hb.old hw1) ht) ?_
      exact JA.weak rfl (by kernel_rfl) (by exact Keeps.k) (by exact Sub.k) (hmid62 0 (by exact ⟨hA, hB⟩))
    refine JAll.cons rfl ?_ JAll.nil
    refine JO.val rfl rfl rfl (.yes rfl rfl rfl) (Ev.load1 rfl Tryd.underlying34 rfl (Rd.own memK rfl)) ?_
    exact JA.weak rfl (by kernel_rfl) (by exact Keeps.k) (by exact Sub.k) (hmid63 bs (by exact ⟨hA, hB⟩))
  refine JA.mid (X := Nat) (fun bs => memR g y = true ∧ memR g r = true) (fun bs => [(33, u64 s), (30, .slice oa t.length cap), (28, u64 r), (26, u64 y), (25, .agg g.cl.toArray), (23, .pointer (some ⟨b7, 0 + 0, none⟩)), (22, u64 y), (20, .pointer (some ⟨b4, 0 + 2, none⟩)), (18, .bool true), (4, .pointer (some ⟨b4, 0, none⟩)), (7, .pointer (some ⟨b7, 0, none⟩)), (1, u64 y), (2, .slice oa t.length cap)]) (fun bs => [(b7, Obj.cells #[u64 r, u64 s] 36 (0, 0)), (b4, Obj.cells g.cl.toArray 53 (0, 0))]) 8 #[true, true, true, true, true, true, true, true, true, true, false, true, false, true, true, false, true, true, true, true, false, true, false, true, true, false, false, false] ?_ (fun hmid87 => ?_)
  · -- state [0, 1, 2, 3, 4, 5, 6, 7, 8, 9, 11, 13, 14, 16, 17, 18, 19, 21, 23, 24]
    rintro bs ⟨hA, hB⟩
    refine JA.branch [10, 12, 15, 20] (by kernel_rfl) rfl ?_
    refine JAll.cons rfl ?_ ?_
    · -- 10
      refine JO.val rfl rfl rfl (.yes rfl rfl rfl) (Ev.lB Tryd.underlying53 Tryd.sizeOf53) ?_
      exact JA.weak rfl (by kernel_rfl) (by exact Keeps.k) (by exact Sub.k) (hmid50 0 (by exact ⟨hA, hB⟩))
    refine JAll.cons rfl ?_ ?_
    · -- 12
      refine JO.val rfl rfl rfl (.yes rfl rfl rfl) (Ev.load1 rfl Tryd.underlying34 rfl (Rd.own memK rfl)) ?_
      exact JA.weak rfl (by kernel_rfl) (by exact Keeps.k) (by exact Sub.k) (hmid57 0 (by exact ⟨hA, hB⟩))
    refine JAll.cons rfl ?_ ?_
    · -- 15
      refine JO.val rfl rfl rfl (.yes rfl rfl rfl) (Ev.load1 rfl Tryd.underlying34 rfl (Rd.own memK rfl)) ?_
      exact JA.weak rfl (by kernel_rfl) (by exact Keeps.k) (by exact Sub.k) (hmid60 0 (by exact ⟨hA, hB⟩))
    refine JAll.cons rfl ?_ JAll.nil
    refine JO.new rfl rfl rfl (.yes rfl rfl rfl) (En.bsN (e := 34) rfl (fun _ => by kernel_rfl)) (fun b29 hb29 => ?_)
    obtain ⟨bs, rfl⟩ : ∃ b, b = b29 := ⟨_, rfl⟩
    exact JA.weak rfl (by kernel_rfl) (by exact Keeps.k) (by exact Sub.k) (hmid63 bs (by exact ⟨hA, hB⟩))
  refine JA.mid (X := Nat) (fun bs => memR g y = true ∧ memR g r = true) (fun bs => [(33, u64 s), (30, .slice oa t.length cap), (29, .slice (some ⟨bs, 0, none⟩) 2 2), (23, .pointer (some ⟨b7, 0 + 0, none⟩)), (22, u64 y), (20, .pointer (some ⟨b4, 0 + 2, none⟩)), (18, .bool true), (4, .pointer (some ⟨b4, 0, none⟩)), (7, .pointer (some ⟨b7, 0, none⟩)), (1, u64 y), (2, .slice oa t.length cap)]) (fun bs => [(bs, Obj.cells #[u64 y, u64 r] 34 (0, 0)), (b7, Obj.cells #[u64 r, u64 s] 36 (0, 0)), (b4, Obj.cells g.cl.toArray 53 (0, 0))]) 8 #[true, true, true, true, true, true, true, true, true, true, false, true, false, true, true, false, false, true, true, true, true, true, false, true, true, false, false, false] ?_ (fun hmid88 => ?_)
  · -- state [0, 1, 2, 3, 4, 5, 6, 7, 8, 9, 11, 13, 14, 17, 18, 19, 20, 21, 23, 24]
    rintro bs ⟨hA, hB⟩
    refine JA.branch [10, 12, 15, 16] (by kernel_rfl) rfl ?_
    refine JAll.cons rfl ?_ ?_
    · -- 10
      refine JO.val rfl rfl rfl (.yes rfl rfl rfl) (Ev.lB Tryd.underlying53 Tryd.sizeOf53) ?_
      exact JA.weak rfl (by kernel_rfl) (by exact Keeps.k) (by exact Sub.k) (hmid51 bs (by exact ⟨hA, hB⟩))
    refine JAll.cons rfl ?_ ?_
    · -- 12
      refine JO.val rfl rfl rfl (.yes rfl rfl rfl) (Ev.load1 rfl Tryd.underlying34 rfl (Rd.own memK rfl)) ?_
      exact JA.weak rfl (by kernel_rfl) (by exact Keeps.k) (by exact Sub.k) (hmid58 bs (by exact ⟨hA, hB⟩))
    refine JAll.cons rfl ?_ ?_
    · -- 15
      refine JO.val rfl rfl rfl (.yes rfl rfl rfl) (Ev.load1 rfl Tryd.underlying34 rfl (Rd.own memK rfl)) ?_
      exact JA.weak rfl (by kernel_rfl) (by exact Keeps.k) (by exact Sub.k) (hmid61 bs (by exact ⟨hA, hB⟩))
    refine JAll.cons rfl ?_ JAll.nil
    refine JO.val rfl rfl rfl (.yes rfl rfl rfl) (Ev.lB Tryd.underlying53 Tryd.sizeOf53) ?_
    exact JA.weak rfl (by kernel_rfl) (by exact Keeps.k) (by exact Sub.k) (hmid63 bs (by exact ⟨hA, hB⟩))
  refine JA.mid (X := Nat) (fun bs => memR g y = true ∧ memR g r = true) (fun bs => [(32, .pointer (some ⟨b7, 0 + 1, none⟩)), (30, .slice oa t.length cap), (27, .pointer (some ⟨b7, 0 + 0, none⟩)), (26, u64 y), (23, .pointer (some ⟨b7, 0 + 0, none⟩)), (22, u64 y), (21, u64 g.g), (19, .agg g.cl.toArray), (18, .bool true), (4, .pointer (some ⟨b4, 0, none⟩)), (7, .pointer (some ⟨b7, 0, none⟩)), (1, u64 y), (2, .slice oa t.length cap)]) (fun bs => [(b7, Obj.cells #[u64 r, u64 s] 36 (0, 0)), (b4, Obj.cells g.cl.toArray 53 (0, 0))]) 9 #[true, true, true, true, true, true, true, true, true, true, true, true, true, true, true, false, false, true, true, false, false, true, false, true, false, false, false, false] ?_ (fun hmid89 => ?_)
  · -- state [0, 1, 2, 3, 4, 5, 6, 7, 8, 9, 10, 11, 12, 13, 14, 17, 18, 21, 23]
    rintro bs ⟨hA, hB⟩
    refine JA.branch [15, 16, 19, 24] (by kernel_rfl) rfl ?_
    refine JAll.cons rfl ?_ ?_
    · -- 15
      refine JO.val rfl rfl rfl (.yes rfl rfl rfl) (Ev.load1 rfl Tryd.underlying34 rfl (Rd.own memK rfl)) ?_
      exact JA.weak rfl (by kernel_rfl) (by exact Keeps.k) (by exact Sub.k) (hmid64 0 (by exact ⟨hA, hB⟩))
    refine JAll.cons rfl ?_ ?_
    · -- 16
      refine JO.val rfl rfl rfl (.yes rfl rfl rfl) (Ev.lB Tryd.underlying53 Tryd.sizeOf53) ?_
      exact JA.weak rfl (by kernel_rfl) (by exact Keeps.k) (by exact Sub.k) (hmid65 0 (by exact ⟨hA, hB⟩))
    refine JAll.cons rfl ?_ ?_
    · -- 19
      refine JO.val rfl rfl rfl (.yes rfl rfl rfl) (Ev.load1 rfl Tryd.underlying34 rfl (Rd.own memK rfl)) ?_
      exact JA.weak rfl (by kernel_rfl) (by exact Keeps.k) (by exact Sub.k) (hmid66 0 (by exact ⟨hA, hB⟩))
    refine JAll.cons rfl ?_ JAll.nil
    refine JO.val rfl rfl rfl (.yes rfl rfl rfl) (Ev.load1 rfl Tryd.underlying34 rfl (Rd.own memK rfl)) ?_
    exact JA.weak rfl (by kernel_rfl) (by exact Keeps.k) (by exact Sub.k) (hmid67 0 (by exact ⟨hA, hB⟩))
  refine JA.mid (X := Nat) (fun bs => memR g y = true ∧ memR g r = true) (fun bs => [(32, .pointer (some ⟨b7, 0 + 1, none⟩)), (30, .slice oa t.length cap), (27, .pointer (some ⟨b7, 0 + 0, none⟩)), (26, u64 y), (24, u64 r), (22, u64 y), (20, .pointer (some ⟨b4, 0 + 2, none⟩)), (19, .agg g.cl.toArray), (18, .bool true), (4, .pointer (some ⟨b4, 0, none⟩)), (7, .pointer (some ⟨b7, 0, none⟩)), (1, u64 y), (2, .slice oa t.length cap)]) (fun bs => [(b7, Obj.cells #[u64 r, u64 s] 36 (0, 0)), (b4, Obj.cells g.cl.toArray 53 (0, 0))]) 9 #[true, true, true, true, true, true, true, true, true, true, true, true, false, true, true, true, false, true, true, false, false, true, false, true, false, false, false, false] ?_ (fun hmid90 => ?_)
  · -- state [0, 1, 2, 3, 4, 5, 6, 7, 8, 9, 10, 11, 13, 14, 15, 17, 18, 21, 23]
    rintro bs ⟨hA, hB⟩
    refine JA.branch [12, 16, 19, 24] (by kernel_rfl) rfl ?_
    refine JAll.cons rfl ?_ ?_
    · -- 12
      refine JO.val rfl rfl rfl (.yes rfl rfl rfl) (Ev.load1 rfl Tryd.underlying34 rfl (Rd.own memK rfl)) ?_
      exact JA.weak rfl (by kernel_rfl) (by exact Keeps.k) (by exact Sub.k) (hmid64 0 (by exact ⟨hA, hB⟩))
    refine JAll.cons rfl ?_ ?_
    · -- 16
      refine JO.val rfl rfl rfl (.yes rfl rfl rfl) (Ev.lB Tryd.underlying53 Tryd.sizeOf53) ?_
      exact JA.weak rfl (by kernel_rfl) (by exact Keeps.k) (by exact Sub.k) (hmid68 0 (by exact ⟨hA, hB⟩))
    refine JAll.cons rfl ?_ ?_
    · -- 19
      refine JO.val rfl rfl rfl (.yes rfl rfl rfl) (Ev.load1 rfl Tryd.underlying34 rfl (Rd.own memK rfl)) ?_
      exact JA.weak rfl (by kernel_rfl) (by exact Keeps.k) (by exact Sub.k) (hmid69 0 (by exact ⟨hA, hB⟩))
    refine JAll.cons rfl ?_ JAll.nil
    refine JO.val rfl rfl rfl (.yes rfl rfl rfl) (Ev.load1 rfl Tryd.underlying34 rfl (Rd.own memK rfl)) ?_
    exact JA.weak rfl (by kernel_rfl) (by exact Keeps.k) (by exact Sub.k) (hmid70 0 (by exact ⟨hA, hB⟩))
  refine JA.mid (X := Nat) (fun bs => memR g y = true ∧ memR g r = true) (fun bs => [(32, .pointer (some ⟨b7, 0 + 1, none⟩)), (30, .slice oa t.length cap), (27, .pointer (some ⟨b7, 0 + 0, none⟩)), (26, u64 y), (25, .agg g.cl.toArray), (23, .pointer (some ⟨b7, 0 + 0, none⟩)), (22, u64 y), (20, .pointer (some ⟨b4, 0 + 2, none⟩)), (19, .agg g.cl.toArray), (18, .bool true), (4, .pointer (some ⟨b4, 0, none⟩)), (7, .pointer (some ⟨b7, 0, none⟩)), (1, u64 y), (2, .slice oa t.length cap)]) (fun bs => [(b7, Obj.cells #[u64 r, u64 s] 36 (0, 0)), (b4, Obj.cells g.cl.toArray 53 (0, 0))]) 9 #[true, true, true, true, true, true, true, true, true, true, true, true, false, true, true, false, true, true, true, false, false, true, false, true, false, false, false, false] ?_ (fun hmid91 => ?_)
  · -- state [0, 1, 2, 3, 4, 5, 6, 7, 8, 9, 10, 11, 13, 14, 16, 17, 18, 21, 23]
    rintro bs ⟨hA, hB⟩
    refine JA.branch [12, 15, 19, 24] (by kernel_rfl) rfl ?_
    refine JAll.cons rfl ?_ ?_
    · -- 12
      refine JO.val rfl rfl rfl (.yes rfl rfl rfl) (Ev.load1 rfl Tryd.underlying34 rfl (Rd.own memK rfl)) ?_
      exact JA.weak rfl (by kernel_rfl) (by exact Keeps.k) (by exact Sub.k) (hmid65 0 (by exact ⟨hA, hB⟩))
    refine JAll.cons rfl ?_ ?_
    · -- 15
      refine JO.val rfl rfl rfl (.yes rfl rfl rfl) (Ev.load1 rfl Tryd.underlying34 rfl (Rd.own memK rfl)) ?_
      exact JA.weak rfl (by kernel_rfl) (by exact Keeps.k) (by exact Sub.k) (hmid68 0 (by exact ⟨hA, hB⟩))
    refine JAll.cons rfl ?_ ?_
    · -- 19
      refine JO.val rfl rfl rfl (.yes rfl rfl rfl) (Ev.load1 rfl Tryd.underlying34 rfl (Rd.own memK rfl)) ?_
      exact JA.weak rfl (by kernel_rfl) (by exact Keeps.k) (by exact Sub.k) (hmid71 0 (by exact ⟨hA, hB⟩))
    refine JAll.cons rfl ?_ JAll.nil
    refine JO.val rfl rfl rfl (.yes rfl rfl rfl) (Ev.load1 rfl Tryd.underlying34 rfl (Rd.own memK rfl)) ?_
    exact JA.weak rfl (by kernel_rfl) (by exact Keeps.k) (by exact Sub.k) (hmid72 0 (by exact ⟨hA, hB⟩))
  refine JA.mid (X := Nat) (fun bs => memR g y = true ∧ memR g r = true) (fun bs => [(32, .pointer (some ⟨b7, 0 + 1, none⟩)), (30, .slice oa t.length cap), (28, u64 r), (26, u64 y), (23, .pointer (some ⟨b7, 0 + 0, none⟩)), (22, u64 y), (20, .pointer (some ⟨b4, 0 + 2, none⟩)), (19, .agg g.cl.toArray), (18, .bool true), (4, .pointer (some ⟨b4, 0, none⟩)), (7, .pointer (some ⟨b7, 0, none⟩)), (1, u64 y), (2, .slice oa t.length cap)]) (fun bs => [(b7, Obj.cells #[u64 r, u64 s] 36 (0, 0)), (b4, Obj.cells g.cl.toArray 53 (0, 0))]) 9 #[true, true, true, true, true, true, true, true, true, true, true, true, false, true, true, false, false, true, true, true, false, true, false, true, false, false, false, false] ?_ (fun hmid92 => ?_)
  · -- state [0, 1, 2, 3, 4, 5, 6, 7, 8, 9, 10, 11, 13, 14, 17, 18, 19, 21, 23]
    rintro bs ⟨hA, hB⟩
    refine JA.branch [12, 15, 16, 20, 24] (by kernel_rfl) rfl ?_
    refine JAll.cons rfl ?_ ?_
    · -- 12
      refine JO.val rfl rfl rfl (.yes rfl rfl rfl) (Ev.load1 rfl Tryd.underlying34 rfl (Rd.own memK rfl)) ?_
      exact JA.weak rfl (by kernel_rfl) (by exact Keeps.k) (by exact Sub.k) (hmid66 0 (by exact ⟨hA, hB⟩))
    refine JAll.cons rfl ?_ ?_
    · -- 15
      refine JO.val rfl rfl rfl (.yes rfl rfl rfl) (Ev.load1 rfl Tryd.underlying34 rfl (Rd.own memK rfl)) ?_
      exact JA.weak rfl (by kernel_rfl) (by exact Keeps.k) (by exact Sub.k) (hmid69 0 (by exact ⟨hA, hB⟩))
    refine JAll.cons rfl ?_ ?_
    · -- 16
      refine JO.val rfl rfl rfl (.yes rfl rfl rfl) (Ev.lB Tryd.underlying53 Tryd.sizeOf53) ?_
      exact JA.weak rfl (by kernel_rfl) (by exact Keeps.k) (by exact Sub.k) (hmid71 0 (by exact ⟨hA, hB⟩))
    refine JAll.cons rfl ?_ ?_
    · -- 20
      refine JO.new rfl rfl rfl (.yes rfl rfl rfl) (En.bsN (e := 34) rfl (fun _ => by kernel_rfl)) (fun b29 hb29 => ?_)
      obtain ⟨bs, rfl⟩ : ∃ b, b = b29 := ⟨_, rfl⟩
      exact JA.weak rfl (by kernel_rfl) (by exact Keeps.k) (by exact Sub.k) (hmid73 bs (by exact ⟨hA, hB⟩))
    refine JAll.cons rfl ?_ JAll.nil
    refine JO.val rfl rfl rfl (.yes rfl rfl rfl) (Ev.load1 rfl Tryd.underlying34 rfl (Rd.own memK rfl)) ?_
    exact JA.weak rfl (by kernel_rfl) (by exact Keeps.k) (by exact Sub.k) (hmid74 0 (by exact ⟨hA, hB⟩))
  refine JA.mid (X := Nat) (fun bs => memR g y = true ∧ memR g r = true) (fun bs => [(33, u64 s), (30, .slice oa t.length cap), (27, .pointer (some ⟨b7, 0 + 0, none⟩)), (26, u64 y), (23, .pointer (some ⟨b7, 0 + 0, none⟩)), (22, u64 y), (20, .pointer (some ⟨b4, 0 + 2, none⟩)), (19, .agg g.cl.toArray), (18, .bool true), (4, .pointer (some ⟨b4, 0, none⟩)), (7, .pointer (some ⟨b7, 0, none⟩)), (1, u64 y), (2, .slice oa t.length cap)]) (fun bs => [(b7, Obj.cells #[u64 r, u64 s] 36 (0, 0)), (b4, Obj.cells g.cl.toArray 53 (0, 0))]) 9 #[true, true, true, true, true, true, true, true, true, true, true, true, false, true, true, false, false, true, true, false, false, true, false, true, true, false, false, false] ?_ (fun hmid93 => ?_)
  · -- state [0, 1, 2, 3, 4, 5, 6, 7, 8, 9, 10, 11, 13, 14, 17, 18, 21, 23, 24]
    rintro bs ⟨hA, hB⟩
    refine JA.branch [12, 15, 16, 19] (by kernel_rfl) rfl ?_
    refine JAll.cons rfl ?_ ?_
    · -- 12
      refine JO.val rfl rfl rfl (.yes rfl rfl rfl) (Ev.load1 rfl Tryd.underlying34 rfl (Rd.own memK rfl)) ?_
      exact JA.weak rfl (by kernel_rfl) (by exact Keeps.k) (by exact Sub.k) (hmid67 0 (by exact ⟨hA, hB⟩))
    refine JAll.cons rfl ?_ ?_
    · -- 15
      refine JO.val rfl rfl rfl (.yes rfl rfl rfl) (Ev.load1 rfl Tryd.underlying34 rfl (Rd.own memK rfl)) ?_
      exact JA.weak rfl (by kernel_rfl) (by exact Keeps.k) (by exact Sub.k) (hmid70 0 (by exact ⟨hA, hB⟩))
    refine JAll.cons rfl ?_ ?_
    · -- 16
      refine JO.val rfl rfl rfl (.yes rfl rfl rfl) (Ev.lB Tryd.underlying53 Tryd.sizeOf53) ?_
      exact JA.weak rfl (by kernel_rfl) (by exact Keeps.k) (by exact Sub.k) (hmid72 0 (by exact ⟨hA, hB⟩))
    refine JAll.cons rfl ?_ JAll.nil
    refine JO.val rfl rfl rfl (.yes rfl rfl rfl) (Ev.load1 rfl Tryd.underlying34 rfl (Rd.own memK rfl)) ?_
    exact JA.weak rfl (by kernel_rfl) (by exact Keeps.k) (by exact Sub.k) (hmid74 0 (by exact ⟨hA, hB⟩))
  refine JA.mid (X := Nat) (fun bs => memR g y = true ∧ memR g r = true) (fun bs => [(32, .pointer (some ⟨b7, 0 + 1, none⟩)), (30, .slice oa t.length cap), (27, .pointer (some ⟨b7, 0 + 0, none⟩)), (26, u64 y), (24, u64 r), (22, u64 y), (21, u64 g.g), (18, .bool true), (4, .pointer (some ⟨b4, 0, none⟩)), (7, .pointer (some ⟨b7, 0, none⟩)), (1, u64 y), (2, .slice oa t.length cap)]) (fun bs => [(b7, Obj.cells #[u64 r, u64 s] 36 (0, 0)), (b4, Obj.cells g.cl.toArray 53 (0, 0))]) 9 #[true, true, true, true, true, true, true, true, true, true, false, true, true, true, true, true, false, true, true, false, false, true, false, true, false, false, false, false] ?_ (fun hmid94 => ?_)
  · -- state [0, 1, 2, 3, 4, 5, 6, 7, 8, 9, 11, 12, 13, 14, 15, 17, 18, 21, 23]
    rintro bs ⟨hA, hB⟩
    refine JA.branch [10, 16, 19, 24] (by kernel_rfl) rfl ?_
    refine JAll.cons rfl ?_ ?_
    · -- 10
      refine JO.val rfl rfl rfl (.yes rfl rfl rfl) (Ev.lB Tryd.underlying53 Tryd.sizeOf53) ?_
      exact JA.weak rfl (by kernel_rfl) (by exact Keeps.k) (by exact Sub.k) (hmid64 0 (by exact ⟨hA, hB⟩))
    refine JAll.cons rfl ?_ ?_
    · -- 16
      refine JO.val rfl rfl rfl (.yes rfl rfl rfl) (Ev.lB Tryd.underlying53 Tryd.sizeOf53) ?_
      exact JA.weak rfl (by kernel_rfl) (by exact Keeps.k) (by exact Sub.k) (hmid75 0 (by exact ⟨hA, hB⟩))
    refine JAll.cons rfl ?_ ?_
    · -- 19
      refine JO.val rfl rfl rfl (.yes rfl rfl rfl) (Ev.load1 rfl Tryd.underlying34 rfl (Rd.own memK rfl)) ?_
      exact JA.weak rfl (by kernel_rfl) (by exact Keeps.k) (by exact Sub.k) (hmid76 0 (by exact ⟨hA, hB⟩))
    refine JAll.cons rfl ?_ JAll.nil
    refine JO.val rfl rfl rfl (.yes rfl rfl rfl) (Ev.load1 rfl Tryd.underlying34 rfl (Rd.own memK rfl)) ?_
    exact JA.weak rfl (by kernel_rfl) (by exact Keeps.k) (by exact Sub.k) (hmid77 0 (by exact ⟨hA, hB⟩))
  refine JA.mid (X := Nat) (fun bs => memR g y = true ∧ memR g r = true) (fun bs => [(32, .pointer (some ⟨b7, 0 + 1, none⟩)), (30, .slice oa t.length cap), (27, .pointer (some ⟨b7, 0 + 0, none⟩)), (26, u64 y), (25, .agg g.cl.toArray), (23, .pointer (some ⟨b7, 0 + 0, none⟩)), (22, u64 y), (21, u64 g.g), (18, .bool true), (4, .pointer (some ⟨b4, 0, none⟩)), (7, .pointer (some ⟨b7, 0, none⟩)), (1, u64 y), (2, .slice oa t.length cap)]) (fun bs => [(b7, Obj.cells #[u64 r, u64 s] 36 (0, 0)), (b4, Obj.cells g.cl.toArray 53 (0, 0))]) 9 #[true, true, true, true, true, true, true, true, true, true, false, true, true, true, true, false, true, true, true, false, false, true, false, true, false, false, false, false] ?_ (fun hmid95 => ?_)
  · -- state [0, 1, 2, 3, 4, 5, 6, 7, 8, 9, 11, 12, 13, 14, 16, 17, 18, 21, 23]
    rintro bs ⟨hA, hB⟩
    refine JA.branch [10, 15, 19, 24] (by kernel_rfl) rfl ?_
    refine JAll.cons rfl ?_ ?_
    · -- 10
      refine JO.val rfl rfl rfl (.yes rfl rfl rfl) (Ev.lB Tryd.underlying53 Tryd.sizeOf53) ?_
      exact JA.weak rfl (by kernel_rfl) (by exact Keeps.k) (by exact Sub.k) (hmid65 0 (by exact ⟨hA, hB⟩))
    refine JAll.cons rfl ?_ ?_
    · -- 15
      refine JO.val rfl rfl rfl (.yes rfl rfl rfl) (Ev.load1 rfl Tryd.underlying34 rfl (Rd.own memK rfl)) ?_
      exact JA.weak rfl (by kernel_rfl) (by exact Keeps.k) (by exact Sub.k) (hmid75 0 (by exact ⟨hA, hB⟩))
    refine JAll.cons rfl ?_ ?_
    · -- 19
      refine JO.val rfl rfl rfl (.yes rfl rfl rfl) (Ev.load1 rfl Tryd.underlying34 rfl (Rd.own memK rfl)) ?_
      exact JA.weak rfl (by kernel_rfl) (by exact Keeps.k) (by exact Sub.k) (hmid78 0 (by exact ⟨hA, hB⟩))
    refine JAll.cons rfl ?_ JAll.nil
    refine JO.val rfl rfl rfl (.yes rfl rfl rfl) (Ev.load1 rfl Tryd.underlying34 rfl (Rd.own memK rfl)) ?_
    exact JA.weak rfl (by kernel_rfl) (by exact Keeps.k) (by exact Sub.k) (hmid79 0 (by exact ⟨hA, hB⟩))
  refine JA.mid (X := Nat) (fun bs => memR g y = true ∧ memR g r = true) (fun bs => [(32, .pointer (some ⟨b7, 0 + 1, none⟩)), (30, .slice oa t.length cap), (28, u64 r), (26, u64 y), (23, .pointer (some ⟨b7, 0 + 0, none⟩)), (22, u64 y), (21, u64 g.g), (18, .bool true), (4, .pointer (some ⟨b4, 0, none⟩)), (7, .pointer (some ⟨b7, 0, none⟩)), (1, u64 y), (2, .slice oa t.length cap)]) (fun bs => [(b7, Obj.cells #[u64 r, u64 s] 36 (0, 0)), (b4, Obj.cells g.cl.toArray 53 (0, 0))]) 9 #[true, true, true, true, true, true, true, true, true, true, false, true, true, true, true, false, false, true, true, true, false, true, false, true, false, false, false, false] ?_ (fun hmid96 => ?_)
  · -- state [0, 1, 2, 3, 4, 5, 6, 7, 8, 9, 11, 12, 13, 14, 17, 18, 19, 21, 23]
    rintro bs ⟨hA, hB⟩
    refine JA.branch [10, 15, 16, 20, 24] (by kernel_rfl) rfl ?_
    refine JAll.cons rfl ?_ ?_
    · -- 10
      refine JO.val rfl rfl rfl (.yes rfl rfl rfl) (Ev.lB Tryd.underlying53 Tryd.sizeOf53) ?_
      exact JA.weak rfl (by kernel_rfl) (by exact Keeps.k) (by exact Sub.k) (hmid66 0 (by exact ⟨hA, hB⟩))
    refine JAll.cons rfl ?_ ?_
    · -- 15
      refine JO.val rfl rfl rfl (.yes rfl rfl rfl) (Ev.load1 rfl Tryd.underlying34 rfl (Rd.own memK rfl)) ?_
      exact JA.weak rfl (by kernel_rfl) (by exact Keeps.k) (by exact Sub.k) (hmid76 0 (by exact ⟨hA, hB⟩))
    refine JAll.cons rfl ?_ ?_
    · -- 16
      refine JO.val rfl rfl rfl (.yes rfl rfl rfl) (Ev.lB Tryd.underlying53 Tryd.sizeOf53) ?_
      exact JA.weak rfl (by kernel_rfl) (by exact Keeps.k) (by exact Sub.k) (hmid78 0 (by exact ⟨hA, hB⟩))
    refine JAll.cons rfl ?_ ?_
    · -- 20
      refine JO.new rfl rfl rfl (.yes rfl rfl rfl) (En.bsN (e := 34) rfl (fun _ => by kernel_rfl)) (fun b29 hb29 => ?_)
      obtain ⟨bs, rfl⟩ : ∃ b, b = b29 := ⟨_, rfl⟩
      exact JA.weak rfl (by kernel_rfl) (by exact Keeps.k) (by exact Sub.k) (hmid80 bs (by exact ⟨hA, hB⟩))
    refine JAll.cons rfl ?_ JAll.nil
    refine JO.val rfl rfl rfl (.yes rfl rfl rfl) (Ev.load1 rfl Tryd.underlying34 rfl (Rd.own memK rfl)) ?_
    exact JA.weak rfl (by kernel_rfl) (by exact Keeps.k) (by exact Sub.k) (hmid81 0 (by exact ⟨hA, hB⟩))
  refine JA.mid (X := Nat) (fun bs => memR g y = true ∧ memR g r = true) (fun bs => [(33, u64 s), (30, .slice oa t.length cap), (27, .pointer (some ⟨b7, 0 + 0, none⟩)), (26, u64 y), (23, .pointer (some ⟨b7, 0 + 0, none⟩)), (22, u64 y), (21, u64 g.g), (18, .bool true), (4, .pointer (some ⟨b4, 0, none⟩)), (7, .pointer (some ⟨b7, 0, none⟩)), (1, u64 y), (2, .slice oa t.length cap)]) (fun bs => [(b7, Obj.cells #[u64 r, u64 s] 36 (0, 0)), (b4, Obj.cells g.cl.toArray 53 (0, 0))]) 9 #[true, true, true, true, true, true, true, true, true, true, false, true, true, true, true, false, false, true, true, false, false, true, false, true, true, false, false, false] ?_ (fun hmid97 => ?_)
  · -- state [0, 1, 2, 3, 4, 5, 6, 7, 8, 9, 11, 12, 13, 14, 17, 18, 21, 23, 24]
    rintro bs ⟨hA, hB⟩
    refine JA.branch [10, 15, 16, 19] (by kernel_rfl) rfl ?_
    refine JAll.cons rfl ?_ ?_
    · -- 10
      refine JO.val rfl rfl rfl (.yes rfl rfl rfl) (Ev.lB Tryd.underlying53 Tryd.sizeOf53) ?_
      exact JA.weak rfl (by kernel_rfl) (by exact Keeps.k) (by exact Sub.k) (hmid67 0 (by exact ⟨hA, hB⟩))
    refine JAll.cons rfl ?_ ?_
    · -- 15
      refine JO.val rfl rfl rfl (.yes rfl rfl rfl) (Ev.load1 rfl Tryd.underlying34 rfl (Rd.own memK rfl)) ?_
      exact JA.weak rfl (by kernel_rfl) (by exact Keeps.k) (by exact Sub.k) (hmid77 0 (by exact ⟨hA, hB⟩))
    refine JAll.cons rfl ?_ ?_
    · -- 16
      refine JO.val rfl rfl rfl (.yes rfl rfl rfl) (Ev.lB Tryd.underlying53 Tryd.sizeOf53) ?_
      exact JA.weak rfl (by kernel_rfl) (by exact Keeps.k) (by exact Sub.k) (hmid79 0 (by exact ⟨hA, hB⟩))
    refine JAll.cons rfl ?_ JAll.nil
    refine JO.val rfl rfl rfl (.yes rfl rfl rfl) (Ev.load1 rfl Tryd.underlying34 rfl (Rd.own memK rfl)) ?_
    exact JA.weak rfl (by kernel_rfl) (by exact Keeps.k) (by exact Sub.k) (hmid81 0 (by exact ⟨hA, hB⟩))
  refine JA.mid (X := Nat) (fun bs => memR g y = true ∧ memR g r = true) (fun bs => [(32, .pointer (some ⟨b7, 0 + 1, none⟩)), (30, .slice oa t.length cap), (27, .pointer (some ⟨b7, 0 + 0, none⟩)), (26, u64 y), (25, .agg g.cl.toArray), (24, u64 r), (22, u64 y), (20, .pointer (some ⟨b4, 0 + 2, none⟩)), (18, .bool true), (4, .pointer (some ⟨b4, 0, none⟩)), (7, .pointer (some ⟨b7, 0, none⟩)), (1, u64 y), (2, .slice oa t.length cap)]) (fun bs => [(b7, Obj.cells #[u64 r, u64 s] 36 (0, 0)), (b4, Obj.cells g.cl.toArray 53 (0, 0))]) 9 #[true, true, true, true, true, true, true, true, true, true, false, true, false, true, true, true, true, true, true, false, false, true, false, true, false, false, false, false] ?_ (fun hmid98 => ?_)
  · -- state [0, 1, 2, 3, 4, 5, 6, 7, 8, 9, 11, 13, 14, 15, 16, 17, 18, 21, 23]
    rintro bs ⟨hA, hB⟩
    refine JA.branch [10, 12, 19, 24] (by kernel_rfl) rfl ?_
    refine JAll.cons rfl ?_ ?_
    · -- 10
      refine JO.val rfl rfl rfl (.yes rfl rfl rfl) (Ev.lB Tryd.underlying53 Tryd.sizeOf53) ?_
      exact JA.weak rfl (by kernel_rfl) (by exact Keeps.k) (by exact Sub.k) (hmid68 0 (by exact ⟨hA, hB⟩))
    refine JAll.cons rfl ?_ ?_
    · -- 12
      refine JO.val rfl rfl rfl (.yes rfl rfl rfl) (Ev.load1 rfl Tryd.underlying34 rfl (Rd.own memK rfl)) ?_
      exact JA.weak rfl (by kernel_rfl) (by exact Keeps.k) (by exact Sub.k) (hmid75 0 (by exact ⟨hA, hB⟩))
    refine JAll.cons rfl ?_ ?_
    · -- 19
      refine JO.val rfl rfl rfl (.yes rfl rfl rfl) (Ev.load1 rfl Tryd.underlying34 rfl (Rd.own memK rfl)) ?_
      exact JA.weak rfl (by kernel_rfl) (by exact Keeps.k) (by exact Sub.k) (hmid82 0 (by exact ⟨hA, hB⟩))
    refine JAll.cons rfl ?_ JAll.nil
    refine JO.val rfl rfl rfl (.yes rfl rfl rfl) (Ev.load1 rfl Tryd.underlying34 rfl (Rd.own memK rfl)) ?_
    exact JA.weak rfl (by kernel_rfl) (by exact Keeps.k) (by exact Sub.k) (hmid83 0 (by exact ⟨hA, hB⟩))
  refine JA.mid (X := Nat) (fun bs => memR g y = true ∧ memR g r = true) (fun bs => [(32, .pointer (some ⟨b7, 0 + 1, none⟩)), (30, .slice oa t.length cap), (28, u64 r), (26, u64 y), (24, u64 r), (22, u64 y), (20, .pointer (some ⟨b4, 0 + 2, none⟩)), (18, .bool true), (4, .pointer (some ⟨b4, 0, none⟩)), (7, .pointer (some ⟨b7, 0, none⟩)), (1, u64 y), (2, .slice oa t.length cap)]) (fun bs => [(b7, Obj.cells #[u64 r, u64 s] 36 (0, 0)), (b4, Obj.cells g.cl.toArray 53 (0, 0))]) 9 #[true, true, true, true, true, true, true, true, true, true, false, true, false, true, true, true, false, true, true, true, false, true, false, true, false, false, false, false] ?_ (fun hmid99 => ?_)
  · -- state [0, 1, 2, 3, 4, 5, 6, 7, 8, 9, 11, 13, 14, 15, 17, 18, 19, 21, 23]
    rintro bs ⟨hA, hB⟩
    refine JA.branch [10, 12, 16, 20, 24] (by kernel_rfl) rfl ?_
    refine JAll.cons rfl ?_ ?_
    · -- 10
      refine JO.val rfl rfl rfl (.yes rfl rfl rfl) (Ev.lB Tryd.underlying53 Tryd.sizeOf53) ?_
      exact JA.weak rfl (by kernel_rfl) (by exact Keeps.k) (by exact Sub.k) (hmid69 0 (by exact ⟨hA, hB⟩))
    refine JAll.cons rfl ?_ ?_
    · -- 12
      refine JO.val rfl rfl rfl (.yes rfl rfl rfl) (Ev.load1 rfl Tryd.underlying34 rfl (Rd.own memK rfl)) ?_
      exact JA.weak rfl (by kernel_rfl) (by exact Keeps.k) (by exact Sub.k) (hmid76 0 (by exact ⟨hA, hB⟩))
    refine JAll.cons rfl ?_ ?_
    · -- 16
      refine JO.val rfl rfl rfl (.yes rfl rfl rfl) (Ev.lB Tryd.underlying53 Tryd.sizeOf53) ?_
      exact JA.weak rfl (by kernel_rfl) (by exact Keeps.k) (by exact Sub.k) (hmid82 0 (by exact ⟨hA, hB⟩))
    refine JAll.cons rfl ?_ ?_
    · -- 20
      refine JO.new rfl rfl rfl (.yes rfl rfl rfl) (En.bsN (e := 34) rfl (fun _ => by kernel_rfl)) (fun b29 hb29 => ?_)
      obtain ⟨bs, rfl⟩ : ∃ b, b = b29 := ⟨_, rfl⟩
      exact JA.weak rfl (by kernel_rfl) (by exact Keeps.k) (by exact Sub.k) (hmid84 bs (by exact ⟨hA, hB⟩))
    refine JAll.cons rfl ?_ JAll.nil
    refine JO.val rfl rfl rfl (.yes rfl rfl rfl) (Ev.load1 rfl Tryd.underlying34 rfl (Rd.own memK rfl)) ?_
    exact JA.weak rfl (by kernel_rfl) (by exact Keeps.k) (by exact Sub.k) (hmid85 0 (by exact ⟨hA, hB⟩))
  refine JA.mid (X := Nat) (fun bs => memR g y = true ∧ memR g r = true) (fun bs => [(33, u64 s), (30, .slice oa t.length cap), (27, .pointer (some ⟨b7, 0 + 0, none⟩)), (26, u64 y), (24, u64 r), (22, u64 y), (20, .pointer (some ⟨b4, 0 + 2, none⟩)), (18, .bool true), (4, .pointer (some ⟨b4, 0, none⟩)), (7, .pointer (some ⟨b7, 0, none⟩)), (1, u64 y), (2, .slice oa t.length cap)]) (fun bs => [(b7, Obj.cells #[u64 r, u64 s] 36 (0, 0)), (b4, Obj.cells g.cl.toArray 53 (0, 0))]) 9 #[true, true, true, true, true, true, true, true, true, true, false, true, false, true, true, true, false, true, true, false, false, true, false, true, true, false, false, false] ?_ (fun hmid100 => ?_)
  · -- state [0, 1, 2, 3, 4, 5, 6, 7, 8, 9, 11, 13, 14, 15, 17, 18, 21, 23, 24]
    rintro bs ⟨hA, hB⟩
    refine JA.branch [10, 12, 16, 19] (by kernel_rfl) rfl ?_
    refine JAll.cons rfl ?_ ?_
    · -- 10
      refine JO.val rfl rfl rfl (.yes rfl rfl rfl) (Ev.lB Tryd.underlying53 Tryd.sizeOf53) ?_
      exact JA.weak rfl (by kernel_rfl) (by exact Keeps.k) (by exact Sub.k) (hmid70 0 (by exact ⟨hA, hB⟩))
    refine JAll.cons rfl ?_ ?_
    · -- 12
      refine JO.val rfl rfl rfl (.yes rfl rfl rfl) (Ev.load1 rfl Tryd.underlying34 rfl (Rd.own memK rfl)) ?_
      exact JA.weak rfl (by kernel_rfl) (by exact Keeps.k) (by exact Sub.k) (hmid77 0 (by exact ⟨hA, hB⟩))
    refine JAll.cons rfl ?_ ?_
    · -- 16
      refine JO.val rfl rfl rfl (.yes rfl rfl rfl) (Ev.lB Tryd.underlying53 Tryd.sizeOf53) ?_
      exact JA.weak rfl (by kernel_rfl) (by exact Keeps.k) (by exact Sub.k) (hmid83 0 (by exact ⟨hA, hB⟩))
    refine JAll.cons rfl ?_ JAll.nil
    refine JO.val rfl rfl rfl (.yes rfl rfl rfl) (Ev.load1 rfl Tryd.underlying34 rfl (Rd.own memK rfl)) ?_
    exact JA.weak rfl (by kernel_rfl) (by exact Keeps.k) (by exact Sub.k) (hmid85 0 (by exact ⟨hA, hB⟩))
  refine JA.mid (X := Nat) (fun bs => memR g y = true ∧ memR g r = true) (fun bs => [(32, .pointer (some ⟨b7, 0 + 1, none⟩)), (30, .slice oa t.length cap), (28, u64 r), (26, u64 y), (25, .agg g.cl.toArray), (23, .pointer (some ⟨b7, 0 + 0, none⟩)), (22, u64 y), (20, .pointer (some ⟨b4, 0 + 2, none⟩)), (18, .bool true), (4, .pointer (some ⟨b4, 0, none⟩)), (7, .pointer (some ⟨b7, 0, none⟩)), (1, u64 y), (2, .slice oa t.length cap)]) (fun bs => [(b7, Obj.cells #[u64 r, u64 s] 36 (0, 0)), (b4, Obj.cells g.cl.toArray 53 (0, 0))]) 9 #[true, true, true, true, true, true, true, true, true, true, false, true, false, true, true, false, true, true, true, true, false, true, false, true, false, false, false, false] ?_ (fun hmid101 => ?_)
  · -- state [0, 1, 2, 3, 4, 5, 6, 7, 8, 9, 11, 13, 14, 16, 17, 18, 19, 21, 23]
    rintro bs ⟨hA, hB⟩
    refine JA.branch [10, 12, 15, 20, 24] (by kernel_rfl) rfl ?_
    refine JAll.cons rfl ?_ ?_
    · -- 10
      refine JO.val rfl rfl rfl (.yes rfl rfl rfl) (Ev.lB Tryd.underlying53 Tryd.sizeOf53) ?_
      exact JA.weak rfl (by kernel_rfl) (by exact Keeps.k) (by exact Sub.k) (hmid71 0 (by exact ⟨hA, hB⟩))
    refine JAll.cons rfl ?_ ?_
    · -- 12
      refine JO.val rfl rfl rfl (.yes rfl rfl rfl) (Ev.load1 rfl Tryd.underlying34 rfl (Rd.own memK rfl)) ?_
      exact JA.weak rfl (by kernel_rfl) (by exact Keeps.k) (by exact Sub.k) (hmid78 0 (by exact ⟨hA, hB⟩))
    refine JAll.cons rfl ?_ ?_
    · -- 15
      refine JO.val rfl rfl rfl (.yes rfl rfl rfl) (Ev.load1 rfl Tryd.underlying34 rfl (Rd.own memK rfl)) ?_
      exact JA.weak rfl (by kernel_rfl) (by exact Keeps.k) (by exact Sub.k) (hmid82 0 (by exact ⟨hA, hB⟩))
    refine JAll.cons rfl ?_ ?_
    · -- 20
      refine JO.new rfl rfl rfl (.yes rfl rfl rfl) (En.bsN (e := 34) rfl (fun _ => by kernel_rfl)) (fun b29 hb29 => ?_)
      obtain ⟨bs, rfl⟩ : ∃ b, b = b29 := ⟨_, rfl⟩
      exact JA.weak rfl (by kernel_rfl) (by exact Keeps.k) (by exact Sub.k) (hmid86 bs (by exact ⟨hA, hB⟩))
    refine JAll.cons rfl ?_ JAll.nil
    refine JO.val rfl rfl rfl (.yes rfl rfl rfl) (Ev.load1 rfl Tryd.underlying34 rfl (Rd.own memK rfl)) ?_
    exact JA.weak rfl (by kernel_rfl) (by exact Keeps.k) (by exact Sub.k) (hmid87 0 (by exact ⟨hA, hB⟩))
  refine JA.mid (X := Nat) (fun bs => memR g y = true ∧ memR g r = true) (fun bs => [(33, u64 s), (30, .slice oa t.length cap), (27, .pointer (some ⟨b7, 0 + 0, none⟩)), (26, u64 y), (25, .agg g.cl.toArray), (23, .pointer (some ⟨b7, 0 + 0, none⟩)), (22, u64 y), (20, .pointer (some ⟨b4, 0 + 2, none⟩)), (18, .bool true), (4, .pointer (some ⟨b4, 0, none⟩)), (7, .pointer (some ⟨b7, 0, none⟩)), (1, u64 y), (2, .slice oa t.length cap)]) (fun bs => [(b7, Obj.cells #[u64 r, u64 s] 36 (0, 0)), (b4, Obj.cells g.cl.toArray 53 (0, 0))]) 9 #[true, true, true, true, true, true, true, true, true, true, false, true, false, true, true, false, true, true, true, false, false, true, false, true, true, false, false, false] ?_ (fun hmid102 => ?_)
  · -- state [0, 1, 2, 3, 4, 5, 6, 7, 8, 9, 11, 13, 14, 16, 17, 18, 21, 23, 24]
    rintro bs ⟨hA, hB⟩
    refine JA.branch [10, 12, 15, 19] (by kernel_rfl) rfl ?_
    refine JAll.cons rfl ?_ ?_
    · -- 10
      refine JO.val rfl rfl rfl (.yes rfl rfl rfl) (Ev.lB Tryd.underlying53 Tryd.sizeOf53) ?_
      exact JA.weak rfl (by kernel_rfl) (by exact Keeps.k) (by exact Sub.k) (hmid72 0 (by exact ⟨hA, hB⟩))
    refine JAll.cons rfl ?_ ?_
    · -- 12
      refine JO.val rfl rfl rfl (.yes rfl rfl rfl) (Ev.load1 rfl Tryd.underlying34 rfl (Rd.own memK rfl)) ?_
      exact JA.weak rfl (by kernel_rfl) (by exact Keeps.k) (by exact Sub.k) (hmid79 0 (by exact ⟨hA, hB⟩))
    refine JAll.cons rfl ?_ ?_
    · -- 15
      refine JO.val rfl rfl rfl (.yes rfl rfl rfl) (Ev.load1 rfl Tryd.underlying34 rfl (Rd.own memK rfl)) ?_
      exact JA.weak rfl (by kernel_rfl) (by exact Keeps.k) (by exact Sub.k) (hmid83 0 (by exact ⟨hA, hB⟩))
    refine JAll.cons rfl ?_ JAll.nil
    refine JO.val rfl rfl rfl (.yes rfl rfl rfl) (Ev.load1 rfl Tryd.underlying34 rfl (Rd.own memK rfl)) ?_
    exact JA.weak rfl (by kernel_rfl) (by exact Keeps.k) (by exact Sub.k) (hmid87 0 (by exact ⟨hA, hB⟩))
  refine JA.mid (X := Nat) (fun bs => memR g y = true ∧ memR g r = true) (fun bs => [(32, .pointer (some ⟨b7, 0 + 1, none⟩)), (30, .slice oa t.length cap), (29, .slice (some ⟨bs, 0, none⟩) 2 2), (23, .pointer (some ⟨b7, 0 + 0, none⟩)), (22, u64 y), (20, .pointer (some ⟨b4, 0 + 2, none⟩)), (18, .bool true), (4, .pointer (some ⟨b4, 0, none⟩)), (7, .pointer (some ⟨b7, 0, none⟩)), (1, u64 y), (2, .slice oa t.length cap)]) (fun bs => [(bs, Obj.cells #[u64 y, u64 r] 34 (0, 0)), (b7, Obj.cells #[u64 r, u64 s] 36 (0, 0)), (b4, Obj.cells g.cl.toArray 53 (0, 0))]) 9 #[true, true, true, true, true, true, true, true, true, true, false, true, false, true, true, false, false, true, true, true, true, true, false, true, false, false, false, false] ?_ (fun hmid103 => ?_)
  · -- state [0, 1, 2, 3, 4, 5, 6, 7, 8, 9, 11, 13, 14, 17, 18, 19, 20, 21, 23]
    rintro bs ⟨hA, hB⟩
    refine JA.branch [10, 12, 15, 16, 24] (by kernel_rfl) rfl ?_
    refine JAll.cons rfl ?_ ?_
    · -- 10
      refine JO.val rfl rfl rfl (.yes rfl rfl rfl) (Ev.lB Tryd.underlying53 Tryd.sizeOf53) ?_
      exact JA.weak rfl (by kernel_rfl) (by exact Keeps.k) (by exact Sub.k) (hmid73 bs (by exact ⟨hA, hB⟩))
    refine JAll.cons rfl ?_ ?_
    · -- 12
      refine JO.val rfl rfl rfl (.yes rfl rfl rfl) (Ev.load1 rfl Tryd.underlying34 rfl (Rd.own memK rfl)) ?_
      exact JA.weak rfl (by kernel_rfl) (by exact Keeps.k) (by exact Sub.k) (hmid80 bs (by exact ⟨hA, hB⟩))
    refine JAll.cons rfl ?_ ?_
    · -- 15
      refine JO.val rfl rfl rfl (.yes rfl rfl rfl) (Ev.load1 rfl Tryd.underlying34 rfl (Rd.own memK rfl)) ?_
      exact JA.weak rfl (by kernel_rfl) (by exact Keeps.k) (by exact Sub.k) (hmid84 bs (by exact ⟨hA, hB⟩))
    refine JAll.cons rfl ?_ ?_
    · -- 16
      refine JO.val rfl rfl rfl (.yes rfl rfl rfl) (Ev.lB Tryd.underlying53 Tryd.sizeOf53) ?_
      exact JA.weak rfl (by kernel_rfl) (by exact Keeps.k) (by exact Sub.k) (hmid86 bs (by exact ⟨hA, hB⟩))
    refine JAll.cons rfl ?_ JAll.nil
    refine JO.val rfl rfl rfl (.yes rfl rfl rfl) (Ev.load1 rfl Tryd.underlying34 rfl (Rd.own memK rfl)) ?_
    exact JA.weak rfl (by kernel_rfl) (by exact Keeps.k) (by exact Sub.k) (hmid88 bs (by exact ⟨hA, hB⟩))
  refine JA.mid (X := Nat) (fun bs => memR g y = true ∧ memR g r = true) (fun bs => [(33, u64 s), (30, .slice oa t.length cap), (28, u64 r), (26, u64 y), (23, .pointer (some ⟨b7, 0 + 0, none⟩)), (22, u64 y), (20, .pointer (some ⟨b4, 0 + 2, none⟩)), (18, .bool true), (4, .pointer (some ⟨b4, 0, none⟩)), (7, .pointer (some ⟨b7, 0, none⟩)), (1, u64 y), (2, .slice oa t.length cap)]) (fun bs => [(b7, Obj.cells #[u64 r, u64 s] 36 (0, 0)), (b4, Obj.cells g.cl.toArray 53 (0, 0))]) 9 #[true, true, true, true, true, true, true, true, true, true, false, true, false, true, true, false, false, true, true, true, false, true, false, true, true, false, false, false] ?_ (fun hmid104 => ?_)
  · -- state [0, 1, 2, 3, 4, 5, 6, 7, 8, 9, 11, 13, 14, 17, 18, 19, 21, 23, 24]
    rintro bs ⟨hA, hB⟩
    refine JA.branch [10, 12, 15, 16, 20] (by kernel_rfl) rfl ?_
    refine JAll.cons rfl ?_ ?_
    · -- 10
      refine JO.val rfl rfl rfl (.yes rfl rfl rfl) (Ev.lB Tryd.underlying53 Tryd.sizeOf53) ?_
      exact JA.weak rfl (by kernel_rfl) (by exact Keeps.k) (by exact Sub.k) (hmid74 0 (by exact ⟨hA, hB⟩))
    refine JAll.cons rfl ?_ ?_
    · -- 12
      refine JO.val rfl rfl rfl (.yes rfl rfl rfl) (Ev.load1 rfl Tryd.underlying34 rfl (Rd.own memK rfl)) ?_
      exact JA.weak rfl (by kernel_rfl) (by exact Keeps.k) (by exact Sub.k) (hmid81 0 (by exact ⟨hA, hB⟩))
    refine JAll.cons rfl ?_ ?_
    · -- 15
      refine JO.val rfl rfl rfl (.yes rfl rfl rfl) (Ev.load1 rfl Tryd.underlying34 rfl (Rd.own memK rfl)) ?_
      exact JA.weak rfl (by kernel_rfl) (by exact Keeps.k) (by exact Sub.k) (hmid85 0 (by exact ⟨hA, hB⟩))
    refine JAll.cons rfl ?_ ?_
    · -- 16
      refine JO.val rfl rfl rfl (.yes rfl rfl rfl) (Ev.lB Tryd.underlying53 Tryd.sizeOf53) ?_
      exact JA.weak rfl (by kernel_rfl) (by exact Keeps.k) (by exact Sub.k) (hmid87 0 (by exact ⟨hA, hB⟩))
    refine JAll.cons rfl ?_ JAll.nil
    refine JO.new rfl rfl rfl (.yes rfl rfl rfl) (En.bsN (e := 34) rfl (fun _ => by kernel_rfl)) (fun b29 hb29 => ?_)
    obtain ⟨bs, rfl⟩ : ∃ b, b = b29 := ⟨_, rfl⟩
    exact JA.weak rfl (by kernel_rfl) (by exact Keeps.k) (by exact Sub.k) (hmid88 bs (by exact ⟨hA, hB⟩))
  refine JA.mid (X := Nat) (fun bs => memR g y = true ∧ memR g r = true) (fun bs => [(32, .pointer (some ⟨b7, 0 + 1, none⟩)), (30, .slice oa t.length cap), (27, .pointer (some ⟨b7, 0 + 0, none⟩)), (26, u64 y), (23, .pointer (some ⟨b7, 0 + 0, none⟩)), (22, u64 y), (20, .pointer (some ⟨b4, 0 + 2, none⟩)), (19, .agg g.cl.toArray), (18, .bool true), (4, .pointer (some ⟨b4, 0, none⟩)), (7, .pointer (some ⟨b7, 0, none⟩)), (1, u64 y), (2, .slice oa t.length cap)]) (fun bs => [(b7, Obj.cells #[u64 r, u64 s] 36 (0, 0)), (b4, Obj.cells g.cl.toArray 53 (0, 0))]) 10 #[true, true, true, true, true, true, true, true, true, true, true, true, false, true, true, false, false, true, true, false, false, true, false, true, false, false, false, false] ?_ (fun hmid105 => ?_)
  · -- state [0, 1, 2, 3, 4, 5, 6, 7, 8, 9, 10, 11, 13, 14, 17, 18, 21, 23]
    rintro bs ⟨hA, hB⟩
    refine JA.branch [12, 15, 16, 19, 24] (by kernel_rfl) rfl ?_
    refine JAll.cons rfl ?_ ?_
    · -- 12
      refine JO.val rfl rfl rfl (.yes rfl rfl rfl) (Ev.load1 rfl Tryd.underlying34 rfl (Rd.own memK rfl)) ?_
      exact JA.weak rfl (by kernel_rfl) (by exact Keeps.k) (by exact Sub.k) (hmid89 0 (by exact ⟨hA, hB⟩))
    refine JAll.cons rfl ?_ ?_
    · -- 15
      refine JO.val rfl rfl rfl (.yes rfl rfl rfl) (Ev.load1 rfl Tryd.underlying34 rfl (Rd.own memK rfl)) ?_
      exact JA.weak rfl (by kernel_rfl) (by exact Keeps.k) (by exact Sub.k) (hmid90 0 (by exact ⟨hA, hB⟩))
    refine JAll.cons rfl ?_ ?_
    · -- 16
      refine JO.val rfl rfl rfl (.yes rfl rfl rfl) (Ev.lB Tryd.underlying53 Tryd.sizeOf53) ?_
      exact JA.weak rfl (by kernel_rfl) (by exact Keeps.k) (by exact Sub.k) (hmid91 0 (by exact ⟨hA, hB⟩))
    refine JAll.cons rfl ?_ ?_
    · -- 19
      refine JO.val rfl rfl rfl (.yes rfl rfl rfl) (Ev.load1 rfl Tryd.underlying34 rfl (Rd.own memK rfl)) ?_
      exact JA.weak rfl (by kernel_rfl) (by exact Keeps.k) (by exact Sub.k) (hmid92 0 (by exact ⟨hA, hB⟩))
    refine JAll.cons rfl ?_ JAll.nil
    refine JO.val rfl rfl rfl (.yes rfl rfl rfl) (Ev.load1 rfl Tryd.underlying34 rfl (Rd.own memK rfl)) ?_
    exact JA.weak rfl (by kernel_rfl) (by exact Keeps.k) (by exact Sub.k) (hmid93 0 (by exact ⟨hA, hB⟩))
  refine JA.mid (X := Nat) (fun bs => memR g y = true ∧ memR g r = true) (fun bs => [(32, .pointer (some ⟨b7, 0 + 1, none⟩)), (30, .slice oa t.length cap), (27, .pointer (some ⟨b7, 0 + 0, none⟩)), (26, u64 y), (23, .pointer (some ⟨b7, 0 + 0, none⟩)), (22, u64 y), (21, u64 g.g), (18, .bool true), (4, .pointer (some ⟨b4, 0, none⟩)), (7, .pointer (some ⟨b7, 0, none⟩)), (1, u64 y), (2, .slice oa t.length cap)]) (fun bs => [(b7, Obj.cells #[u64 r, u64 s] 36 (0, 0)), (b4, Obj.cells g.cl.toArray 53 (0, 0))]) 10 #[true, true, true, true, true, true, true, true, true, true, false, true, true, true, true, false, false, true, true, false, false, true, false, true, false, false, false, false] ?_ (fun hmid106 => ?_)
  · -- state [0, 1, 2, 3, 4, 5, 6, 7, 8, 9, 11, 12, 13, 14, 17, 18, 21, 23]
    rintro bs ⟨hA, hB⟩
    refine JA.branch [10, 15, 16, 19, 24] (by kernel_rfl) rfl ?_
    refine JAll.cons rfl ?_ ?_
    · -- 10
      refine JO.val rfl rfl rfl (.yes rfl rfl rfl) (Ev.lB Tryd.underlying53 Tryd.sizeOf53) ?_
      exact JA.weak rfl (by kernel_rfl) (by exact Keeps.k) (by exact Sub.k) (hmid89 0 (by exact ⟨hA, hB⟩))
    refine JAll.cons rfl ?_ ?_
    · -- 15
      refine JO.val rfl rfl rfl (.yes rfl rfl rfl) (Ev.load1 rfl Tryd.underlying34 rfl (Rd.own memK rfl)) ?_
      exact JA.weak rfl (by kernel_rfl) (by exact Keeps.k) (by exact Sub.k) (hmid94 0 (by exact ⟨hA, hB⟩))
    refine JAll.cons rfl ?_ ?_
    · -- 16
      refine JO.val rfl rfl rfl (.yes rfl rfl rfl) (Ev.lB Tryd.underlying53 Tryd.sizeOf53) ?_
      exact JA.weak rfl (by kernel_rfl) (by exact Keeps.k) (by exact Sub.k) (hmid95 0 (by exact ⟨hA, hB⟩))
    refine JAll.cons rfl ?_ ?_
    · -- 19
      refine JO.val rfl rfl rfl (.yes rfl rfl rfl) (Ev.load1 rfl Tryd.underlying34 rfl (Rd.own memK rfl)) ?_
      exact JA.weak rfl (by kernel_rfl) (by exact Keeps.k) (by exact Sub.k) (hmid96 0 (by exact ⟨hA, hB⟩))
    refine JAll.cons rfl ?_ JAll.nil
    refine JO.val rfl rfl rfl (.yes rfl rfl rfl) (Ev.load1 rfl Tryd.underlying34 rfl (Rd.own memK rfl)) ?_
    exact JA.weak rfl (by kernel_rfl) (by exact Keeps.k) (by exact Sub.k) (hmid97 0 (by exact ⟨hA, hB⟩))
  refine JA.mid (X := Nat) (fun bs => memR g y = true ∧ memR g r = true) (fun bs => [(32, .pointer (some ⟨b7, 0 + 1, none⟩)), (30, .slice oa t.length cap), (27, .pointer (some ⟨b7, 0 + 0, none⟩)), (26, u64 y), (24, u64 r), (22, u64 y), (20, .pointer (some ⟨b4, 0 + 2, none⟩)), (18, .bool true), (4, .pointer (some ⟨b4, 0, none⟩)), (7, .pointer (some ⟨b7, 0, none⟩)), (1, u64 y), (2, .slice oa t.length cap)]) (fun bs => [(b7, Obj.cells #[u64 r, u64 s] 36 (0, 0)), (b4, Obj.cells g.cl.toArray 53 (0, 0))]) 10 #[true, true, true, true, true, true, true, true, true, true, false, true, false, true, true, true, false, true, true, false, false, true, false, true, false, false, false, false] ?_ (fun hmid107 => ?_)
  · -- state [0, 1, 2, 3, 4, 5, 6, 7, 8, 9, 11, 13, 14, 15, 17, 18, 21, 23]
    rintro bs ⟨hA, hB⟩
    refine JA.branch [10, 12, 16, 19, 24] (by kernel_rfl) rfl ?_
    refine JAll.cons rfl ?_ ?_
    · -- 10
      refine JO.val rfl rfl rfl (.yes rfl rfl rfl) (Ev.lB Tryd.underlying53 Tryd.sizeOf53) ?_
      exact JA.weak rfl (by kernel_rfl) (by exact Keeps.k) (by exact Sub.k) (hmid90 0 (by exact ⟨hA, hB⟩))
    refine JAll.cons rfl ?_ ?_
    · -- 12
      refine JO.val rfl rfl rfl (.yes rfl rfl rfl) (Ev.load1 rfl Tryd.underlying34 rfl (Rd.own memK rfl)) ?_
      exact JA.weak rfl (by kernel_rfl) (by exact Keeps.k) (by exact Sub.k) (hmid94 0 (by exact ⟨hA, hB⟩))
    refine JAll.cons rfl ?_ ?_
    · -- 16
      refine JO.val rfl rfl rfl (.yes rfl rfl rfl) (Ev.lB Tryd.underlying53 Tryd.sizeOf53) ?_
      exact JA.weak rfl (by kernel_rfl) (by exact Keeps.k) (by exact Sub.k) (hmid98 0 (by exact ⟨hA, hB⟩))
    refine JAll.cons rfl ?_ ?_
    · -- 19
      refine JO.val rfl rfl rfl (.yes rfl rfl rfl) (Ev.load1 rfl Tryd.underlying34 rfl (Rd.own memK rfl)) ?_
      exact JA.weak rfl (by kernel_rfl) (by exact Keeps.k) (by exact Sub.k) (hmid99 0 (by exact ⟨hA, hB⟩))
    refine JAll.cons rfl ?_ JAll.nil
    refine JO.val rfl rfl rfl (.yes rfl rfl rfl) (Ev.load1 rfl Tryd.underlying34 rfl (Rd.own memK rfl)) ?_
    exact JA.weak rfl (by kernel_rfl) (by exact Keeps.k) (by exact Sub.k) (hmid100 0 (by exact ⟨hA, hB⟩))
  refine JA.mid (X := Nat) (fun bs => memR g y = true ∧ memR g r = true) (fun bs => [(32, .pointer (some ⟨b7, 0 + 1, none⟩)), (30, .slice oa t.length cap), (27, .pointer (some ⟨b7, 0 + 0, none⟩)), (26, u64 y), (25, .agg g.cl.toArray), (23, .pointer (some ⟨b7, 0 + 0, none⟩)), (22, u64 y), (20, .pointer (some ⟨b4, 0 + 2, none⟩)), (18, .bool true), (4, .pointer (some ⟨b4, 0, none⟩)), (7, .pointer (some ⟨b7, 0, none⟩)), (1, u64 y), (2, .slice oa t.length cap)]) (fun bs => [(b7, Obj.cells #[u64 r, u64 s] 36 (0, 0)), (b4, Obj.cells g.cl.toArray 53 (0, 0))]) 10 #[true, true, true, true, true, true, true, true, true, true, false, true, false, true, true, false, true, true, true, false, false, true, false, true, false, false, false, false] ?_ (fun hmid108 => ?_)
  · -- state [0, 1, 2, 3, 4, 5, 6, 7, 8, 9, 11, 13, 14, 16, 17, 18, 21, 23]
    rintro bs ⟨hA, hB⟩
    refine JA.branch [10, 12, 15, 19, 24] (by kernel_rfl) rfl ?_
    refine JAll.cons rfl ?_ ?_
    · -- 10
      refine JO.val rfl rfl rfl (.yes rfl rfl rfl) (Ev.lB Tryd.underlying53 Tryd.sizeOf53) ?_
      exact JA.weak rfl (by kernel_rfl) (by exact Keeps.k) (by exact Sub.k) (hmid91 0 (by exact ⟨hA, hB⟩))
    refine JAll.cons rfl ?_ ?_
    · -- 12
      refine JO.val rfl rfl rfl (.yes rfl rfl rfl) (Ev.load1 rfl Tryd.underlying34 rfl (Rd.own memK rfl)) ?_
      exact JA.weak rfl (by kernel_rfl) (by exact Keeps.k) (by exact Sub.k) (hmid95 0 (by exact ⟨hA, hB⟩))
    refine JAll.cons rfl ?_ ?_
    · -- 15
      refine JO.val rfl rfl rfl (.yes rfl rfl rfl) (Ev.load1 rfl Tryd.underlying34 rfl (Rd.own memK rfl)) ?_
      exact JA.weak rfl (by kernel_rfl) (by exact Keeps.k) (by exact Sub.k) (hmid98 0 (by exact ⟨hA, hB⟩))
    refine JAll.cons rfl ?_ ?_
    · -- 19
      refine JO.val rfl rfl rfl (.yes rfl rfl rfl) (Ev.load1 rfl Tryd.underlying34 rfl (Rd.own memK rfl)) ?_
      exact JA.weak rfl (by kernel_rfl) (by exact Keeps.k) (by exact Sub.k) (hmid101 0 (by exact ⟨hA, hB⟩))
    refine JAll.cons rfl ?_ JAll.nil
    refine JO.val rfl rfl rfl (.yes rfl rfl rfl) (Ev.load1 rfl Tryd.underlying34 rfl (Rd.own memK rfl)) ?_
    exact JA.weak rfl (by kernel_rfl) (by exact Keeps.k) (by exact Sub.k) (hmid102 0 (by exact ⟨hA, hB⟩))
  refine JA.mid (X := Nat) (fun bs => memR g y = true ∧ memR g r = true) (fun bs => [(32, .pointer (some ⟨b7, 0 + 1, none⟩)), (30, .slice oa t.length cap), (28, u64 r), (26, u64 y), (23, .pointer (some ⟨b7, 0 + 0, none⟩)), (22, u64 y), (20, .pointer (some ⟨b4, 0 + 2, none⟩)), (18, .bool true), (4, .pointer (some ⟨b4, 0, none⟩)), (7, .pointer (some ⟨b7, 0, none⟩)), (1, u64 y), (2, .slice oa t.length cap)]) (fun bs => [(b7, Obj.cells #[u64 r, u64 s] 36 (0, 0)), (b4, Obj.cells g.cl.toArray 53 (0, 0))]) 10 #[true, true, true, true, true, true, true, true, true, true, false, true, false, true, true, false, false, true, true, true, false, true, false, true, false, false, false, false] ?_ (fun hmid109 => ?_)
  · -- state [0, 1, 2, 3, 4, 5, 6, 7, 8, 9, 11, 13, 14, 17, 18, 19, 21, 23]
    rintro bs ⟨hA, hB⟩
    refine JA.branch [10, 12, 15, 16, 20, 24] (by kernel_rfl) rfl ?_
    refine JAll.cons rfl ?_ ?_
    · -- 10
      refine JO.val rfl rfl rfl (.yes rfl rfl rfl) (Ev.lB Tryd.underlying53 Tryd.sizeOf53) ?_
      exact JA.weak rfl (by kernel_rfl) (by exact Keeps.k) (by exact Sub.k) (hmid92 0 (by exact ⟨hA, hB⟩))
    refine JAll.cons rfl ?_ ?_
    · -- 12
      refine JO.val rfl rfl rfl (.yes rfl rfl rfl) (Ev.load1 rfl Tryd.underlying34 rfl (Rd.own memK rfl)) ?_
      exact JA.weak rfl (by kernel_rfl) (by exact Keeps.k) (by exact Sub.k) (hmid96 0 (by exact ⟨hA, hB⟩))
    refine JAll.cons rfl ?_ ?_
    · -- 15
      refine JO.val rfl rfl rfl (.yes rfl rfl rfl) (Ev.load1 rfl Tryd.underlying34 rfl (Rd.own memK rfl)) ?_
      exact JA.weak rfl (by kernel_rfl) (by exact Keeps.k) (by exact Sub.k) (hmid99 0 (by exact ⟨hA, hB⟩))
    refine JAll.cons rfl ?_ ?_
    · -- 16
      refine JO.val rfl rfl rfl (.yes rfl rfl rfl) (Ev.lB Tryd.underlying53 Tryd.sizeOf53) ?_
      exact JA.weak rfl (by kernel_rfl) (by exact Keeps.k) (by exact Sub.k) (hmid101 0 (by exact ⟨hA, hB⟩))
    refine JAll.cons rfl ?_ ?_
    · -- 20
      refine JO.new rfl rfl rfl (.yes rfl rfl rfl) (En.bsN (e := 34) rfl (fun _ => by kernel_rfl)) (fun b29 hb29 => ?_)
      obtain ⟨bs, rfl⟩ : ∃ b, b = b29 := ⟨_, rfl⟩
      exact JA.weak rfl (by kernel_rfl) (by exact Keeps.k) (by exact Sub.k) (hmid103 bs (by exact ⟨hA, hB⟩))
    refine JAll.cons rfl ?_ JAll.nil
    refine JO.val rfl rfl rfl (.yes rfl rfl rfl) (Ev.load1 rfl Tryd.underlying34 rfl (Rd.own memK rfl)) ?_
    exact JA.weak rfl (by kernel_rfl) (by exact Keeps.k) (by exact Sub.k) (hmid104 0 (by exact ⟨hA, hB⟩))
  refine JA.mid (X := Nat) (fun bs => memR g y = true ∧ memR g r = true) (fun bs => [(33, u64 s), (30, .slice oa t.length cap), (27, .pointer (some ⟨b7, 0 + 0, none⟩)), (26, u64 y), (23, .pointer (some ⟨b7, 0 + 0, none⟩)), (22, u64 y), (20, .pointer (some ⟨b4, 0 + 2, none⟩)), (18, .bool true), (4, .pointer (some ⟨b4, 0, none⟩)), (7, .pointer (some ⟨b7, 0, none⟩)), (1, u64 y), (2, .slice oa t.length cap)]) (fun bs => [(b7, Obj.cells #[u64 r, u64 s] 36 (0, 0)), (b4, Obj.cells g.cl.toArray 53 (0, 0))]) 10 #[true, true, true, true, true, true, true, true, true, true, false, true, false, true, true, false, false, true, true, false, false, true, false, true, true, false, false, false] ?_ (fun hmid110 => ?_)
  · -- state [0, 1, 2, 3, 4, 5, 6, 7, 8, 9, 11, 13, 14, 17, 18, 21, 23, 24]
    rintro bs ⟨hA, hB⟩
    refine JA.branch [10, 12, 15, 16, 19] (by kernel_rfl) rfl ?_
    refine JAll.cons rfl ?_ ?_
    · -- 10
      refine JO.val rfl rfl rfl (.yes rfl rfl rfl) (Ev.lB Tryd.underlying53 Tryd.sizeOf53) ?_
      exact JA.weak rfl (by kernel_rfl) (by exact Keeps.k) (by exact Sub.k) (hmid93 0 (by exact ⟨hA, hB⟩))
    refine JAll.cons rfl ?_ ?_
    · -- 12
      refine JO.val rfl rfl rfl (.yes rfl rfl rfl) (Ev.load1 rfl Tryd.underlying34 rfl (Rd.own memK rfl)) ?_
      exact JA.weak rfl (by kernel_rfl) (by exact Keeps.k) (by exact Sub.k) (hmid97 0 (by exact ⟨hA, hB⟩))
    refine JAll.cons rfl ?_ ?_
    · -- 15
      refine JO.val rfl rfl rfl (.yes rfl rfl rfl) (Ev.load1 rfl Tryd.underlying34 rfl (Rd.own memK rfl)) ?_
      exact JA.weak rfl (by kernel_rfl) (by exact Keeps.k) (by exact Sub.k) (hmid100 0 (by exact ⟨hA, hB⟩))
    refine JAll.cons rfl ?_ ?_
    · -- 16
      refine JO.val rfl rfl rfl (.yes rfl rfl rfl) (Ev.lB Tryd.underlying53 Tryd.sizeOf53) ?_
      exact JA.weak rfl (by kernel_rfl) (by exact Keeps.k) (by exact Sub.k) (hmid102 0 (by exact ⟨hA, hB⟩))
    refine JAll.cons rfl ?_ JAll.nil
    refine JO.val rfl rfl rfl (.yes rfl rfl rfl) (Ev.load1 rfl Tryd.underlying34 rfl (Rd.own memK rfl)) ?_
    exact JA.weak rfl (by kernel_rfl) (by exact Keeps.k) (by exact Sub.k) (hmid104 0 (by exact ⟨hA, hB⟩))
  refine JA.mid (X := Nat) (fun bs => memR g y = true ∧ memR g r = true) (fun bs => [(32, .pointer (some ⟨b7, 0 + 1, none⟩)), (30, .slice oa t.length cap), (27, .pointer (some ⟨b7, 0 + 0, none⟩)), (26, u64 y), (23, .pointer (some ⟨b7, 0 + 0, none⟩)), (22, u64 y), (20, .pointer (some ⟨b4, 0 + 2, none⟩)), (18, .bool true), (4, .pointer (some ⟨b4, 0, none⟩)), (7, .pointer (some ⟨b7, 0, none⟩)), (1, u64 y), (2, .slice oa t.length cap)]) (fun bs => [(b7, Obj.cells #[u64 r, u64 s] 36 (0, 0)), (b4, Obj.cells g.cl.toArray 53 (0, 0))]) 11 #[true, true, true, true, true, true, true, true, true, true, false, true, false, true, true, false, false, true, true, false, false, true, false, true, false, false, false, false] ?_ (fun hmid111 => ?_)
  · -- state [0, 1, 2, 3, 4, 5, 6, 7, 8, 9, 11, 13, 14, 17, 18, 21, 23]
    rintro bs ⟨hA, hB⟩
    refine JA.branch [10, 12, 15, 16, 19, 24] (by kernel_rfl) rfl ?_
    refine JAll.cons rfl ?_ ?_
    · -- 10
      refine JO.val rfl rfl rfl (.yes rfl rfl rfl) (Ev.lB Tryd.underlying53 Tryd.sizeOf53) ?_
      exact JA.weak rfl (by kernel_rfl) (by exact Keeps.k) (by exact Sub.k) (hmid105 0 (by exact ⟨hA, hB⟩))
    refine JAll.cons rfl ?_ ?_
    · -- 12
      refine JO.val rfl rfl rfl (.yes rfl rfl rfl) (Ev.load1 rfl Tryd.underlying34 rfl (Rd.own memK rfl)) ?_
      exact JA.weak rfl (by kernel_rfl) (by exact Keeps.k) (by exact Sub.k) (hmid106 0 (by exact ⟨hA, hB⟩))
    refine JAll.cons rfl ?_ ?_
    · -- 15
      refine JO.val rfl rfl rfl (.yes rfl rfl rfl) (Ev.load1 rfl Tryd.underlying34 rfl (Rd.own memK rfl)) ?_
      exact JA.weak rfl (by kernel_rfl) (by exact Keeps.k) (by exact Sub.k) (hmid107 0 (by exact ⟨hA, hB⟩))
    refine JAll.cons rfl ?_ ?_
    · -- 16
      refine JO.val rfl rfl rfl (.yes rfl rfl rfl) (Ev.lB Tryd.underlying53 Tryd.sizeOf53) ?_
      exact JA.weak rfl (by kernel_rfl) (by exact Keeps.k) (by exact Sub.k) (hmid108 0 (by exact ⟨hA, hB⟩))
    refine JAll.cons rfl ?_ ?_
    · -- 19
      refine JO.val rfl rfl rfl (.yes rfl rfl rfl) (Ev.load1 rfl Tryd.underlying34 rfl (Rd.own memK rfl)) ?_
      exact JA.weak rfl (by kernel_rfl) (by exact Keeps.k) (by exact Sub.k) (hmid109 0 (by exact ⟨hA, hB⟩))
    refine JAll.cons rfl ?_ JAll.nil
    refine JO.val rfl rfl rfl (.yes rfl rfl rfl) (Ev.load1 rfl Tryd.underlying34 rfl (Rd.own memK rfl)) ?_
    exact JA.weak rfl (by kernel_rfl) (by exact Keeps.k) (by exact Sub.k) (hmid110 0 (by exact ⟨hA, hB⟩))
  refine JA.mid (X := Nat) (fun bs => memR g y = true) (fun bs => [(15, u64 r), (13, .agg g.cl.toArray), (12, .bool true), (4, .pointer (some ⟨b4, 0, none⟩)), (7, .pointer (some ⟨b7, 0, none⟩)), (1, u64 y), (2, .slice oa t.length cap)]) (fun bs => [(b7, Obj.cells #[u64 r, u64 s] 36 (0, 0)), (b4, Obj.cells g.cl.toArray 53 (0, 0))]) 21 #[true, true, true, true, true, true, true, false, false, false, false, false, false, false, false, false, false, false, false, false, false, false, false, false, false, false, false, false] ?_ (fun hmid112 => ?_)
  · -- state [0, 1, 2, 3, 4, 5, 6]
    rintro bs hA
    refine JA.one 7 ?_
    refine JO.callV rfl (.yes rfl rfl rfl) rfl Tryd.call149 (fun w1 hw1 => rIn_any g r hok hr w1) ?_
    refine JA.tk 8 rfl (.none rfl) (fun _ => (Ev.pickT rfl rfl)) ?_
    refine JA.tk 9 rfl (.none rfl) (fun _ => (Ev.move rfl)) ?_
    refine JA.split (d := 18) rfl (fun hB => ?_) (fun hB => ?_)
    · -- guard 18 true
      refine JA.tk 11 rfl (.yes rfl rfl rfl) (fun _ => (Ev.fld 2 rfl (fun _ _ => by kernel_rfl))) ?_
      refine JA.tk 13 rfl (.yes rfl rfl rfl) (fun _ => (Ev.move rfl)) ?_
      refine JA.tk 14 rfl (.yes rfl rfl rfl) (fun _ => (Ev.fld 0 rfl (fun _ _ => by kernel_rfl))) ?_
      refine JA.tk 17 rfl (.yes rfl rfl rfl) (fun _ => (Ev.move rfl)) ?_
      refine JA.tk 18 rfl (.yes rfl rfl rfl) (fun _ => (Ev.fld 0 rfl (fun _ _ => by kernel_rfl))) ?_
      refine JA.tk 21 rfl (.yes rfl rfl rfl) (fun _ => (Ev.move rfl)) ?_
      refine JA.tk 23 rfl (.yes rfl rfl rfl) (fun _ => (Ev.fld 1 rfl (fun _ _ => by kernel_rfl))) ?_
      exact JA.weak rfl (by kernel_rfl) (by exact Keeps.k) (by exact Sub.k) (hmid111 0 (by exact ⟨hA, hB⟩))
    · -- guard 18 false
      refine JA.skipR 10 (by kernel_rfl) rfl rfl rfl (by kernel_rfl) (by kernel_rfl) (by kernel_rfl) (fun _ _ _ h => h) (fun _ _ => rfl) (.noT rfl rfl rfl) ?_
      refine JA.skipR 11 (by kernel_rfl) rfl rfl rfl (by kernel_rfl) (by kernel_rfl) (by kernel_rfl) (fun _ _ _ h => h) (fun _ _ => rfl) (.noT rfl rfl rfl) ?_
      refine JA.skipR 12 (by kernel_rfl) rfl rfl rfl (by kernel_rfl) (by kernel_rfl) (by kernel_rfl) (fun _ _ _ h => h) (fun _ _ => rfl) (.noT rfl rfl rfl) ?_
      refine JA.skipR 13 (by kernel_rfl) rfl rfl rfl (by kernel_rfl) (by kernel_rfl) (by kernel_rfl) (fun _ _ _ h => h) (fun _ _ => rfl) (.noT rfl rfl rfl) ?_
      refine JA.skipR 14 (by kernel_rfl) rfl rfl rfl (by kernel_rfl) (by kernel_rfl) (by kernel_rfl) (fun _ _ _ h => h) (fun _ _ => rfl) (.noT rfl rfl rfl) ?_
      refine JA.skipR 15 (by kernel_rfl) rfl rfl rfl (by kernel_rfl) (by kernel_rfl) (by kernel_rfl) (fun _ _ _ h => h) (fun _ _ => rfl) (.noT rfl rfl rfl) ?_
      refine JA.skipR 16 (by kernel_rfl) rfl rfl rfl (by kernel_rfl) (by kernel_rfl) (by kernel_rfl) (fun _ _ _ h => h) (fun _ _ => rfl) (.noT rfl rfl rfl) ?_
      refine JA.skipR 17 (by kernel_rfl) rfl rfl rfl (by kernel_rfl) (by kernel_rfl) (by kernel_rfl) (fun _ _ _ h => h) (fun _ _ => rfl) (.noT rfl rfl rfl) ?_
      refine JA.skipR 18 (by kernel_rfl) rfl rfl rfl (by kernel_rfl) (by kernel_rfl) (by kernel_rfl) (fun _ _ _ h => h) (fun _ _ => rfl) (.noT rfl rfl rfl) ?_
      refine JA.skipR 19 (by kernel_rfl) rfl rfl rfl (by kernel_rfl) (by kernel_rfl) (by kernel_rfl) (fun _ _ _ h => h) (fun _ _ => rfl) (.noT rfl rfl rfl) ?_
      refine JA.skipR 20 (by kernel_rfl) rfl rfl rfl (by kernel_rfl) (by kernel_rfl) (by kernel_rfl) (fun _ _ _ h => h) (fun _ _ => rfl) (.noT rfl rfl rfl) ?_
      refine JA.skipR 21 (by kernel_rfl) rfl rfl rfl (by kernel_rfl) (by kernel_rfl) (by kernel_rfl) (fun _ _ _ h => h) (fun _ _ => rfl) (.noT rfl rfl rfl) ?_
      refine JA.skipR 23 (by kernel_rfl) rfl rfl rfl (by kernel_rfl) (by kernel_rfl) (by kernel_rfl) (fun _ _ _ h => h) (fun _ _ => rfl) (.noT rfl rfl rfl) ?_
      refine JA.skipR 24 (by kernel_rfl) rfl rfl rfl (by kernel_rfl) (by kernel_rfl) (by kernel_rfl) (fun _ _ _ h => h) (fun _ _ => rfl) (.noT rfl rfl rfl) ?_
      refine JA.one 22 ?_
      refine JO.skip rfl rfl (.noT rfl rfl rfl) ?_
      refine JA.one 25 ?_
      refine JO.skip rfl rfl (.noT rfl rfl rfl) ?_
      refine JA.tk 26 rfl (.none rfl) (fun _ => (Ev.pickF rfl rfl)) ?_
      refine JA.tk 27 rfl (.none rfl) (fun _ => (Ev.assign rfl)) ?_
      refine JA.done (by kernel_rfl) ?_
      refine JQ.thenN ?_
      refine JC.ret ?_
      refine JQ.end1 (H' := []) (.inl rfl) rfl (.tmp rfl) ?_ ?_
      · exact Sub.k
      · first | (rw [hA]; rfl) | (rw [hA, hB]; rfl) | (rw [hA, hB, evenR]; rfl)
  refine JA.mid (X := Nat) (fun bs => memR g y = true) (fun bs => [(14, .pointer (some ⟨b7, 0 + 0, none⟩)), (13, .agg g.cl.toArray), (12, .bool true), (4, .pointer (some ⟨b4, 0, none⟩)), (7, .pointer (some ⟨b7, 0, none⟩)), (1, u64 y), (2, .slice oa t.length cap)]) (fun bs => [(b7, Obj.cells #[u64 r, u64 s] 36 (0, 0)), (b4, Obj.cells g.cl.toArray 53 (0, 0))]) 22 #[true, true, true, true, true, true, false, false, false, false, false, false, false, false, false, false, false, false, false, false, false, false, false, false, false, false, false, false] ?_ (fun hmid113 => ?_)
  · -- state [0, 1, 2, 3, 4, 5]
    rintro bs hA
    refine JA.one 6 ?_
    refine JO.val rfl rfl rfl (.yes rfl rfl rfl) (Ev.load1 rfl Tryd.underlying34 rfl (Rd.own memK rfl)) ?_
    exact JA.weak rfl (by kernel_rfl) (by exact Keeps.k) (by exact Sub.k) (hmid112 0 (by exact hA))
  refine JA.mid (X := Nat) (fun bs => memR g y = true) (fun bs => [(15, u64 r), (12, .bool true), (4, .pointer (some ⟨b4, 0, none⟩)), (7, .pointer (some ⟨b7, 0, none⟩)), (1, u64 y), (2, .slice oa t.length cap)]) (fun bs => [(b7, Obj.cells #[u64 r, u64 s] 36 (0, 0)), (b4, Obj.cells g.cl.toArray 53 (0, 0))]) 22 #[true, true, true, true, false, true, true, false, false, false, false, false, false, false, false, false, false, false, false, false, false, false, false, false, false, false, false, false] ?_ (fun hmid114 => ?_)
  · -- state [0, 1, 2, 3, 5, 6]
    rintro bs hA
    refine JA.one 4 ?_
    refine JO.val rfl rfl rfl (.yes rfl rfl rfl) (Ev.lB Tryd.underlying53 Tryd.sizeOf53) ?_
    exact JA.weak rfl (by kernel_rfl) (by exact Keeps.k) (by exact Sub.k) (hmid112 0 (by exact hA))
  refine JA.mid (X := Nat) (fun bs => memR g y = true) (fun bs => [(14, .pointer (some ⟨b7, 0 + 0, none⟩)), (12, .bool true), (4, .pointer (some ⟨b4, 0, none⟩)), (7, .pointer (some ⟨b7, 0, none⟩)), (1, u64 y), (2, .slice oa t.length cap)]) (fun bs => [(b7, Obj.cells #[u64 r, u64 s] 36 (0, 0)), (b4, Obj.cells g.cl.toArray 53 (0, 0))]) 23 #[true, true, true, true, false, true, false, false, false, false, false, false, false, false, false, false, false, false, false, false, false, false, false, false, false, false, false, false] ?_ (fun hmid115 => ?_)
  · -- state [0, 1, 2, 3, 5]
    rintro bs hA
    refine JA.branch [4, 6] (by kernel_rfl) rfl ?_
    refine JAll.cons rfl ?_ ?_
    · -- 4
      refine JO.val rfl rfl rfl (.yes rfl rfl rfl) (Ev.lB Tryd.underlying53 Tryd.sizeOf53) ?_
      exact JA.weak rfl (by kernel_rfl) (by exact Keeps.k) (by exact Sub.k) (hmid113 0 (by exact hA))
    refine JAll.cons rfl ?_ JAll.nil
    refine JO.val rfl rfl rfl (.yes rfl rfl rfl) (Ev.load1 rfl Tryd.underlying34 rfl (Rd.own memK rfl)) ?_
    exact JA.weak rfl (by kernel_rfl) (by exact Keeps.k) (by exact Sub.k) (hmid114 0 (by exact hA))
  refine JA.mid (X := Nat) (fun bs => True) (fun bs => [(10, u64 y), (9, .agg g.cl.toArray), (4, .pointer (some ⟨b4, 0, none⟩)), (7, .pointer (some ⟨b7, 0, none⟩)), (1, u64 y), (2, .slice oa t.length cap)]) (fun bs => [(b7, Obj.cells #[u64 r, u64 s] 36 (0, 0)), (b4, Obj.cells g.cl.toArray 53 (0, 0))]) 26 #[true, true, false, false, false, false, false, false, false, false, false, false, false, false, false, false, false, false, false, false, false, false, false, false, false, false, false, false] ?_ (fun hmid116 => ?_)
  · -- state [0, 1]
    rintro bs _
    refine JA.one 2 ?_
    refine JO.callV rfl (.none rfl) rfl Tryd.call149 (fun w1 hw1 => rIn_any g y hok hy w1) ?_
    refine JA.tk 3 rfl (.none rfl) (fun _ => (Ev.move rfl)) ?_
    refine JA.split (d := 12) rfl (fun hA => ?_) (fun hA => ?_)
    · -- guard 12 true
      refine JA.tk 5 rfl (.yes rfl rfl rfl) (fun _ => (Ev.fld 0 rfl (fun _ _ => by kernel_rfl))) ?_
      exact JA.weak rfl (by kernel_rfl) (by exact Keeps.k) (by exact Sub.k) (hmid115 0 (by exact hA))
    · -- guard 12 false
      refine JA.skipR 4 (by kernel_rfl) rfl rfl rfl (by kernel_rfl) (by kernel_rfl) (by kernel_rfl) (fun _ _ _ h => h) (fun _ _ => rfl) (.noT rfl rfl rfl) ?_
      refine JA.skipR 5 (by kernel_rfl) rfl rfl rfl (by kernel_rfl) (by kernel_rfl) (by kernel_rfl) (fun _ _ _ h => h) (fun _ _ => rfl) (.noT rfl rfl rfl) ?_
      refine JA.skipR 6 (by kernel_rfl) rfl rfl rfl (by kernel_rfl) (by kernel_rfl) (by kernel_rfl) (fun _ _ _ h => h) (fun _ _ => rfl) (.noT rfl rfl rfl) ?_
      refine JA.one 7 ?_
      refine JO.skip rfl rfl (.noT rfl rfl rfl) ?_
      refine JA.tk 8 rfl (.none rfl) (fun _ => (Ev.pickF rfl rfl)) ?_
      refine JA.tk 9 rfl (.none rfl) (fun _ => (Ev.move rfl)) ?_
      refine JA.skipR 10 (by kernel_rfl) rfl rfl rfl (by kernel_rfl) (by kernel_rfl) (by kernel_rfl) (fun _ _ _ h => h) (fun _ _ => rfl) (.noT rfl rfl rfl) ?_
      refine JA.skipR 11 (by kernel_rfl) rfl rfl rfl (by kernel_rfl) (by kernel_rfl) (by kernel_rfl) (fun _ _ _ h => h) (fun _ _ => rfl) (.noT rfl rfl rfl) ?_
      refine JA.skipR 12 (by kernel_rfl) rfl rfl rfl (by kernel_rfl) (by kernel_rfl) (by kernel_rfl) (fun _ _ _ h => h) (fun _ _ => rfl) (.noT rfl rfl rfl) ?_
      refine JA.skipR 13 (by kernel_rfl) rfl rfl rfl (by kernel_rfl) (by kernel_rfl) (by kernel_rfl) (fun _ _ _ h => h) (fun _ _ => rfl) (.noT rfl rfl rfl) ?_
      refine JA.skipR 14 (by kernel_rfl) rfl rfl rfl (by kernel_rfl) (by kernel_rfl) (by kernel_rfl) (fun _ _ _ h => h) (fun _ _ => rfl) (.noT rfl rfl rfl) ?_
      refine JA.skipR 15 (by kernel_rfl) rfl rfl rfl (by kernel_rfl) (by kernel_rfl) (by kernel_rfl) (fun _ _ _ h => h) (fun _ _ => rfl) (.noT rfl rfl rfl) ?_
      refine JA.skipR 16 (by kernel_rfl) rfl rfl rfl (by kernel_rfl) (by kernel_rfl) (by kernel_rfl) (fun _ _ _ h => h) (fun _ _ => rfl) (.noT rfl rfl rfl) ?_
      refine JA.skipR 17 (by kernel_rfl) rfl rfl rfl (by kernel_rfl) (by kernel_rfl) (by kernel_rfl) (fun _ _ _ h => h) (fun _ _ => rfl) (.noT rfl rfl rfl) ?_
      refine JA.skipR 18 (by kernel_rfl) rfl rfl rfl (by kernel_rfl) (by kernel_rfl) (by kernel_rfl) (fun _ _ _ h => h) (fun _ _ => rfl) (.noT rfl rfl rfl) ?_
      refine JA.skipR 19 (by kernel_rfl) rfl rfl rfl (by kernel_rfl) (by kernel_rfl) (by kernel_rfl) (fun _ _ _ h => h) (fun _ _ => rfl) (.noT rfl rfl rfl) ?_
      refine JA.skipR 20 (by kernel_rfl) rfl rfl rfl (by kernel_rfl) (by kernel_rfl) (by kernel_rfl) (fun _ _ _ h => h) (fun _ _ => rfl) (.noT rfl rfl rfl) ?_
      refine JA.skipR 21 (by kernel_rfl) rfl rfl rfl (by kernel_rfl) (by kernel_rfl) (by kernel_rfl) (fun _ _ _ h => h) (fun _ _ => rfl) (.noT rfl rfl rfl) ?_
      refine JA.skipR 23 (by kernel_rfl) rfl rfl rfl (by kernel_rfl) (by kernel_rfl) (by kernel_rfl) (fun _ _ _ h => h) (fun _ _ => rfl) (.noT rfl rfl rfl) ?_
      refine JA.skipR 24 (by kernel_rfl) rfl rfl rfl (by kernel_rfl) (by kernel_rfl) (by kernel_rfl) (fun _ _ _ h => h) (fun _ _ => rfl) (.noT rfl rfl rfl) ?_
      refine JA.one 22 ?_
      refine JO.skip rfl rfl (.noT rfl rfl rfl) ?_
      refine JA.one 25 ?_
      refine JO.skip rfl rfl (.noT rfl rfl rfl) ?_
      refine JA.tk 26 rfl (.none rfl) (fun _ => (Ev.pickF rfl rfl)) ?_
      refine JA.tk 27 rfl (.none rfl) (fun _ => (Ev.assign rfl)) ?_
      refine JA.done (by kernel_rfl) ?_
      refine JQ.thenN ?_
      refine JC.ret ?_
      refine JQ.end1 (H' := []) (.inl rfl) rfl (.tmp rfl) ?_ ?_
      · exact Sub.k
      · first | (rw [hA]; rfl) | (rw [hA, hB]; rfl) | (rw [hA, hB, evenR]; rfl)
  refine JA.tk 1 rfl (.none rfl) (fun _ => (Ev.move rfl)) ?_
  refine JA.one 0 ?_
  refine JO.val rfl rfl rfl (.none rfl) (Ev.lB Tryd.underlying53 Tryd.sizeOf53) ?_
  exact JA.wk (hmid116 0 trivial)

theorem rVerify_any (g : Gp) (y : UInt64) (oa : Option Addr) (cap : Nat) (t : List UInt8) (r s : UInt64) (w : World) (hb : Bs w oa cap t) (ht : t.length ≤ 8000) :
    Calls Tryd.prog 83 #[.agg g.cl.toArray, u64 y, .slice oa t.length cap, .agg #[u64 (r), u64 (s)]] w (Ret w (fun v _ => v = .tuple #[.bool (vfR g y t r s), .int .i64 (scE g [s] [y, r])])) := by
  refine enter (vs := [.agg g.cl.toArray, u64 y, .slice oa t.length cap, .agg #[u64 (r), u64 (s)]]) Tryd.func83 rfl Tryd.ntmps83 rfl ?_
  refine JC.seq ?_
  refine JC.region ?_
  refine JL.new rfl rfl rfl (.none rfl) (En.boxA rfl) (fun b4 hb4 => ?_)
  refine JL.new rfl rfl rfl (.none rfl) (En.boxA rfl) (fun b7 hb7 => ?_)
  refine JL.asg ?_
  refine JL.asg ?_
  refine JL.nil ?_
  refine JQ.thenN ?_
  refine JC.seq ?_
  refine JC.region ?_
  refine JL.val rfl rfl rfl (.none rfl) (Ev.lB Tryd.underlying53 Tryd.sizeOf53) ?_
  refine JL.val rfl rfl rfl (.none rfl) (Ev.fld 1 rfl (fun _ _ => by kernel_rfl)) ?_
  refine JL.val rfl rfl rfl (.none rfl) (Ev.load1 rfl Tryd.underlying34 rfl (Rd.own memK rfl)) ?_
  refine JL.new rfl rfl rfl (.none rfl) (En.bsN (e := 34) rfl (fun _ => by kernel_rfl)) (fun b14 hb14 => ?_)
  refine JL.mv ?_
  refine JL.val rfl rfl rfl (.none rfl) (Ev.fld 0 rfl (fun _ _ => by kernel_rfl)) ?_
  refine JL.val rfl rfl rfl (.none rfl) (Ev.load1 rfl Tryd.underlying34 rfl (Rd.own memK rfl)) ?_
  refine JL.new rfl rfl rfl (.none rfl) (En.bsN (e := 34) rfl (fun _ => by kernel_rfl)) (fun b18 hb18 => ?_)
  refine JL.callV rfl (.none rfl) rfl Tryd.call119 (fun w1 hw1 => rAsked_any g (some ⟨b14, 0, none⟩) (some ⟨b18, 0, none⟩) 1 2 [s] [y, r] w1 (cs_block (xs := u64s [s]) hw1 (by repeat (first | exact List.Mem.head _ | refine List.Mem.tail _ ?_ | refine List.mem_append_right _ ?_)) (show 1 ≤ 1000000 by decide)) (cs_block (xs := u64s [y, r]) hw1 (by repeat (first | exact List.Mem.head _ | refine List.Mem.tail _ ?_ | refine List.mem_append_right _ ?_)) (show 2 ≤ 1000000 by decide)) (show 1 ≤ 1000 by decide) (show 2 ≤ 1000 by decide)) ?_
  refine JL.asg ?_
  refine JL.nil ?_
  refine JQ.thenN ?_
  refine JC.seq ?_
  refine JC.seq ?_
  refine JC.region ?_
  refine JL.mv ?_
  refine JL.val rfl rfl rfl (.none rfl) (Ev.bin rfl rfl eql_int) ?_
  refine JL.mv ?_
  refine JL.split (d := 22) rfl (fun hA => ?_) (fun hA => ?_)
  · -- guard 22 true
    refine JL.val rfl rfl rfl (.yes rfl rfl rfl) (Ev.move rfl) ?_
    refine JL.val rfl rfl rfl (.yes rfl rfl rfl) (Ev.lenS rfl Tryd.underlying28) ?_
    refine JL.val rfl rfl rfl (.yes rfl rfl rfl) (Ev.bin rfl rfl gtr_int) ?_
    refine JL.val rfl rfl rfl (.none rfl) (Ev.pickT rfl rfl) ?_
    refine JL.nil ?_
    refine JQ.thenN ?_
    refine JC.knowF rfl ?_ ?_
    · exact decide_eq_false (by omega)
    refine JC.skip ?_
    refine JQ.thenN ?_
    refine JC.seq ?_
    refine JC.seq ?_
    refine JC.region ?_
    refine JL.mv ?_
    refine JL.val rfl rfl rfl (.none rfl) (Ev.bin rfl rfl neq_int) ?_
    refine JL.nil ?_
    refine JQ.thenN ?_
    refine JC.cond rfl (fun hc => ?_) (fun hc => ?_)
    · -- t28 True
      replace hc := of_decide_eq_true hc
      have hne : ¬ scE g [s] [y, r] = 0 := by omega
      refine JC.seq ?_
      refine JC.region ?_
      refine JL.mv ?_
      refine JL.asg ?_
      refine JL.asg ?_
      refine JL.nil ?_
      refine JQ.thenN ?_
      refine JC.ret ?_
      refine JQ.thenR ?_
      refine JQ.end2 (H' := []) (.inl rfl) rfl (.tmp rfl) (.tmp rfl) ?_ ?_
      · exact Sub.k
      · first | (rw [vfR_bad hne]; done) | (rw [vfR, if_pos hz, hz]; done)
    · -- t28 False
      replace hc := of_decide_eq_false hc
      have hz : scE g [s] [y, r] = 0 := by omega
      obtain ⟨hok, hls, hlp⟩ := scE_zero hz
      refine JC.skip ?_
      refine JQ.thenN ?_
      refine JC.seq ?_
      refine JC.region ?_
      refine JL.val rfl rfl rfl (.none rfl) (Ev.lB Tryd.underlying53 Tryd.sizeOf53) ?_
      refine JL.mv ?_
      refine JL.mv ?_
      refine JL.val rfl rfl rfl (.none rfl) (Ev.loadB rfl memK Tryd.underlying36 rfl Tryd.sizeOf36 rfl) ?_
      refine JL.callV rfl (.none rfl) rfl Tryd.call120 (fun w1 hw1 => rRight_any g y oa cap t r s hok (hlp y (by simp)) (hlp r (by simp)) w1 (hb.old hw1) ht) ?_
      refine JL.asg ?_
      refine JL.asg ?_
      refine JL.nil ?_
      refine JQ.thenN ?_
      refine JC.ret ?_
      refine JQ.end2 (H' := []) (.inl rfl) rfl (.tmp rfl) (.tmp rfl) ?_ ?_
      · exact Sub.k
      · first | (rw [vfR_bad hne]; done) | (rw [vfR, if_pos hz, hz]; done)
  · -- guard 22 false
    refine JL.skip rfl rfl (.noT rfl rfl rfl) ?_
    refine JL.skip rfl rfl (.noT rfl rfl rfl) ?_
    refine JL.skip rfl rfl (.noT rfl rfl rfl) ?_
    refine JL.val rfl rfl rfl (.none rfl) (Ev.pickF rfl rfl) ?_
    refine JL.nil ?_
    refine JQ.thenN ?_
    refine JC.condF rfl ?_
    refine JC.skip ?_
    refine JQ.thenN ?_
    refine JC.seq ?_
    refine JC.seq ?_
    refine JC.region ?_
    refine JL.mv ?_
    refine JL.val rfl rfl rfl (.none rfl) (Ev.bin rfl rfl neq_int) ?_
    refine JL.nil ?_
    refine JQ.thenN ?_
    refine JC.cond rfl (fun hc => ?_) (fun hc => ?_)
    · -- t28 True
      replace hc := of_decide_eq_true hc
      have hne : ¬ scE g [s] [y, r] = 0 := by omega
      refine JC.seq ?_
      refine JC.region ?_
      refine JL.mv ?_
      refine JL.asg ?_
      refine JL.asg ?_
      refine JL.nil ?_
      refine JQ.thenN ?_
      refine JC.ret ?_
      refine JQ.thenR ?_
      refine JQ.end2 (H' := []) (.inl rfl) rfl (.tmp rfl) (.tmp rfl) ?_ ?_
      · exact Sub.k
      · first | (rw [vfR_bad hne]; done) | (rw [vfR, if_pos hz, hz]; done)
    · -- t28 False
      replace hc := of_decide_eq_false hc
      have hz : scE g [s] [y, r] = 0 := by omega
      obtain ⟨hok, hls, hlp⟩ := scE_zero hz
      refine JC.skip ?_
      refine JQ.thenN ?_
      refine JC.seq ?_
      refine JC.region ?_
      refine JL.val rfl rfl rfl (.none rfl) (Ev.lB Tryd.underlying53 Tryd.sizeOf53) ?_
      refine JL.mv ?_
      refine JL.mv ?_
      refine JL.val rfl rfl rfl (.none rfl) (Ev.loadB rfl memK Tryd.underlying36 rfl Tryd.sizeOf36 rfl) ?_
      refine JL.callV rfl (.none rfl) rfl Tryd.call120 (fun w1 hw1 => rRight_any g y oa cap t r s hok (hlp y (by simp)) (hlp r (by simp)) w1 (hb.old hw1) ht) ?_
      refine JL.asg ?_
      refine JL.asg ?_
      refine JL.nil ?_
      refine JQ.thenN ?_
      refine JC.ret ?_
      refine JQ.end2 (H' := []) (.inl rfl) rfl (.tmp rfl) (.tmp rfl) ?_ ?_
      · exact Sub.k
      · first | (rw [vfR_bad hne]; done) | (rw [vfR, if_pos hz, hz]; done)

theorem rText_any (h : Hd) (w : World) :
    Calls Tryd.prog 48 #[.agg h.cl.toArray] w (Ret w (fun v H => ∃ r : Option Row, v = Row.v (txt h).length r ∧ H = Row.b 5 r ∧ Row.ok 1 (txt h).length ((txt h).map u8) r)) := by
  refine enter (vs := [.agg h.cl.toArray]) Tryd.func48 rfl Tryd.ntmps48 rfl ?_
  refine JC.seq ?_
  refine JC.region ?_
  refine JL.new rfl rfl rfl (.none rfl) (En.boxA rfl) (fun b1 hb1 => ?_)
  refine JL.asg ?_
  refine JL.nil ?_
  refine JQ.thenN ?_
  refine JC.seq ?_
  refine JC.region ?_
  refine JL.val rfl rfl rfl (.none rfl) (Ev.fld 0 rfl (fun _ _ => by kernel_rfl)) ?_
  refine JL.val rfl rfl rfl (.none rfl) (Ev.load1 rfl Tryd.underlying3 rfl (Rd.own memK (Hd.get0 h))) ?_
  refine JL.val rfl rfl rfl (.none rfl) (Ev.conv rfl (convw Tryd.underlying3 Tryd.underlying102)) ?_
  refine JL.asg ?_
  refine JL.nil ?_
  refine JQ.thenN ?_
  refine JC.seq ?_
  refine JC.region ?_
  refine JL.mv ?_
  refine JL.val rfl rfl rfl (.none rfl) (Ev.bin rfl rfl (shr_u32 (n := 24) (by decide))) ?_
  refine JL.val rfl rfl rfl (.none rfl) (Ev.conv rfl (conv_u32_u8 Tryd.underlying102 Tryd.underlying5)) ?_
  refine JL.mv ?_
  refine JL.val rfl rfl rfl (.none rfl) (Ev.bin rfl rfl (shr_u32 (n := 16) (by decide))) ?_
  refine JL.val rfl rfl rfl (.none rfl) (Ev.conv rfl (conv_u32_u8 Tryd.underlying102 Tryd.underlying5)) ?_
  refine JL.mv ?_
  refine JL.val rfl rfl rfl (.none rfl) (Ev.bin rfl rfl (shr_u32 (n := 8) (by decide))) ?_
  refine JL.val rfl rfl rfl (.none rfl) (Ev.conv rfl (conv_u32_u8 Tryd.underlying102 Tryd.underlying5)) ?_
  refine JL.mv ?_
  refine JL.val rfl rfl rfl (.none rfl) (Ev.conv rfl (conv_u32_u8 Tryd.underlying102 Tryd.underlying5)) ?_
  refine JL.new rfl rfl rfl (.none rfl) (En.bsN (e := 5) rfl (fun _ => by kernel_rfl)) (fun b19 hb19 => ?_)
  refine JL.asg ?_
  refine JL.nil ?_
  refine JQ.thenN ?_
  refine JC.seq ?_
  refine JC.region ?_
  refine JL.mv ?_
  refine JL.val rfl rfl rfl (.none rfl) (Ev.fld 1 rfl (fun _ _ => by kernel_rfl)) ?_
  refine JL.val rfl rfl rfl (.none rfl) (Ev.sliceA rfl Tryd.underlying33 Tryd.sizeOf5) ?_
  refine JL.gen rfl rfl rfl (.none rfl) (Eg.append (r := (some ⟨b19, 4, #[u8 (sz h.n >>> UInt32.ofNat 24).toUInt8, u8 (sz h.n >>> UInt32.ofNat 16).toUInt8, u8 (sz h.n >>> UInt32.ofNat 8).toUInt8, u8 (sz h.n).toUInt8]⟩)) (n := 4) (m := 32) (xs := [u8 (sz h.n >>> UInt32.ofNat 24).toUInt8, u8 (sz h.n >>> UInt32.ofNat 16).toUInt8, u8 (sz h.n >>> UInt32.ofNat 8).toUInt8, u8 (sz h.n).toUInt8]) (news := h.root.1.map u8) (z := (.int .u8 0)) (s := 1) (bytes := 1) rfl rfl rfl Cut.k Tryd.underlying28 (by kernel_rfl) rfl (by decide) (by decide) ⟨rfl, by simp, by simp [maxLen], rfl, rfl⟩ (by rw [List.length_map, h.root.2]) (fun a ha => by cases ha; exact Hd.rds memK) (fun hh => by cases hh) (u8s_one _) (by decide)) ?_
  rintro _ _ ⟨r, rfl, rfl, hr, _⟩
  refine JL.asg ?_
  refine JL.nil ?_
  refine JQ.thenN ?_
  refine JC.ret ?_
  refine JQ.end1 (H' := (Row.b 5 r)) (.inl rfl) rfl (.tmp rfl) ?_ ?_
  · exact Sub.k
  · exact ⟨r, by rw [txt_length], rfl, txt_ok hr⟩

end Go.Proofs.YtopaednfjjjnbaaDoor
