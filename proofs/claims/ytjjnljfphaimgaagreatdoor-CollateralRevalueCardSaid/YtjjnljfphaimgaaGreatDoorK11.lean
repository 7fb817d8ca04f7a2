/- Contracts and plain laws, without conditions beyond each theorem's own: girolaw34.do: a pledge, a release, a required amount. -/
import Derived.Test.YtjjnljfphaimgaaGreatDoorK10
set_option linter.all false
/- girolaw34.do: a pledge, a release, a required amount. -/
namespace Go.Proofs.YtjjnljfphaimgaaGreatDoor.C
open Go Go.RowKit Go.Shelf Go.Proofs

structure DSt (w0 w W : World) (p m : Nat) (V : VS) (S : PS) (sl : Value) (o : OpS) : Prop where
  pair : Pair w0 W p m V S sl
  x : boxAt W w.heap.size V S sl
  o : W.heap[w.heap.size + 1]? = some (.cells o.cells 47 (0, 0))
  y : W.heap[w.heap.size + 2]? = some (.cells zeroP 38 (0, 0))
  b : Below w.heap.size w W
theorem DSt.step {w0 w W W' : World} {p m : Nat} {V : VS} {S : PS} {sl : Value} {o : OpS} (h : DSt w0 w W p m V S sl o) (hb : Below W.heap.size W W') : DSt w0 w W' p m V S sl o :=
  ⟨h.pair.below hb, blk_keep hb h.x (Nat.le_refl _), blk_keep hb h.o (Nat.le_refl _), blk_keep hb h.y (Nat.le_refl _), bstep h.b hb h.b.size⟩
theorem DSt.new {w0 w : World} {p m : Nat} {V : VS} {S : PS} {sl : Value} (h : Pair w0 w p m V S sl) (o : OpS) : DSt w0 w (((w.alloc (pBox V S sl)).alloc o.box).alloc (.cells zeroP 38)) p m V S sl o := by
  have hb : Below w.heap.size w (((w.alloc (pBox V S sl)).alloc o.box).alloc (.cells zeroP 38)) := (((Below.refl _ _).alloc (Nat.le_refl _) _).alloc (by simp) _).alloc (by simp; omega) _
  refine ⟨h.below hb, blk_alloc (blk_alloc (blk_new w (pBox V S sl)) _) _, ?_, ?_, hb⟩
  · have := blk_alloc (blk_new (w.alloc (pBox V S sl)) o.box) (.cells zeroP 38)
    rw [show (w.alloc (pBox V S sl)).heap.size = w.heap.size + 1 from by simp] at this
    exact this
  · have := blk_new ((w.alloc (pBox V S sl)).alloc o.box) (.cells zeroP 38)
    rw [show ((w.alloc (pBox V S sl)).alloc o.box).heap.size = w.heap.size + 2 from by simp] at this
    exact this
theorem ocells {W : World} {b : Nat} {o : OpS} (h : W.heap[b]? = some (.cells o.cells 47 (0, 0))) :
    W.cell? ⟨b, 0, none⟩ = some (.int .u8 o.kd) ∧ W.cell? ⟨b, 1, none⟩ = some (.string o.ak) ∧ W.cell? ⟨b, 2, none⟩ = some (.int .i64 o.aq) ∧ W.cell? ⟨b, 3, none⟩ = some (.string o.bk) ∧ W.cell? ⟨b, 4, none⟩ = some (.int .i64 o.bq) ∧
    W.cell? ⟨b, 5, none⟩ = some (.int .i64 o.n) ∧ W.cell? ⟨b, 6, none⟩ = some (.slice o.V.a0 o.V.l0.length o.V.c0) ∧ W.cell? ⟨b, 7, none⟩ = some (.slice o.V.a1 o.V.l1.length o.V.c1) ∧ W.cell? ⟨b, 8, none⟩ = some (.slice o.V.a2 o.V.l2.length o.V.c2) :=
  ⟨(blk_cell h 0).trans rfl, (blk_cell h 1).trans rfl, (blk_cell h 2).trans rfl, (blk_cell h 3).trans rfl, (blk_cell h 4).trans rfl, (blk_cell h 5).trans rfl, (blk_cell h 6).trans rfl, (blk_cell h 7).trans rfl, (blk_cell h 8).trans rfl⟩
/-- The state in a region that calls the pool: the reference's answer lies in block b8. -/
structure D2 (w0 w W : World) (p m : Nat) (o : OpS) (b8 : Nat) (V' : VS) (S' : PS) (sl' : Value) : Prop where
  x : boxAt W b8 V' S' sl'
  o : W.heap[w.heap.size + 1]? = some (.cells o.cells 47 (0, 0))
  fr : Fr p m w W
  up : Below w0.heap.size w0 W
  row : RowAt W w0.heap.size sl' S'.L
theorem D2.drew {w0 w W : World} {p m : Nat} {o : OpS} {b8 : Nat} {V' : VS} {S' : PS} {sl' : Value} (h : D2 w0 w W p m o b8 V' S' sl') : D2 w0 w W.drew p m o b8 V' S' sl' :=
  ⟨h.x, h.o, h.fr.bstep (Below.refl _ _).drew, h.up.drew, ownsRow_below h.row (Below.refl _ _).drew (Nat.le_refl _)⟩
theorem D2.go {w0 w W W' : World} {p m : Nat} {o : OpS} {b8 : Nat} {V' : VS} {S' : PS} {sl' : Value} {S : PS} (h : D2 w0 w W p m o b8 V' S' sl') (hF : Fr p m W W') (hP : PoolAt W p m S) (hp : w0.heap.size ≤ p) (hm : w0.heap.size ≤ m) (h1 : p < w.heap.size) (h2 : m < w.heap.size) (h8 : w.heap.size ≤ b8) : D2 w0 w W' p m o b8 V' S' sl' :=
  ⟨(hF.block b8 (blk_lt h.x) (by omega) (by omega)).trans h.x, (hF.block _ (blk_lt h.o) (by omega) (by omega)).trans h.o, h.fr.trans hF, hF.up h.up hp hm, row_fr h.row hP hF⟩
theorem D2.set {w0 w W : World} {p m : Nat} {o : OpS} {b8 : Nat} {V' : VS} {S' : PS} {sl' : Value} (h : D2 w0 w W p m o b8 V' S' sl') (hy : W.heap[w.heap.size + 1 + 1]? = some (.cells zeroP 38 (0, 0))) (h8 : w.heap.size + 2 < b8) (h0 : w0.heap.size ≤ w.heap.size) (v0 v1 v2 v3 v4 v5 : Value) : D2 w0 w (set6 W (w.heap.size + 1 + 1) v0 v1 v2 v3 v4 v5) p m o b8 V' S' sl' :=
  ⟨set6_keep h.x (by omega) _ _ _ _ _ _, set6_keep h.o (by omega) _ _ _ _ _ _, (((((h.fr.setn (by omega) 0 v0).setn (by omega) 1 v1).setn (by omega) 2 v2).setn (by omega) 3 v3).setn (by omega) 4 v4).setn (by omega) 5 v5, set6_below h.up (by omega) _ _ _ _ _ _, set6_row hy h.row _ _ _ _ _ _⟩
theorem set6_pool {W : World} {b q n : Nat} {S : PS} (h : PoolAt W q n S) (h1 : q ≠ b) (h2 : n ≠ b) (v0 v1 v2 v3 v4 v5 : Value) : PoolAt (set6 W b v0 v1 v2 v3 v4 v5) q n S :=
  (((((h.other (a := ⟨b, 0, none⟩) h1 h2 v0).other (a := ⟨b, 1, none⟩) h1 h2 v1).other (a := ⟨b, 2, none⟩) h1 h2 v2).other (a := ⟨b, 3, none⟩) h1 h2 v3).other (a := ⟨b, 4, none⟩) h1 h2 v4).other (a := ⟨b, 5, none⟩) h1 h2 v5
abbrev D2c (w0 w W : World) (p m : Nat) (o : OpS) (b8 : Nat) (V' : VS) (S' : PS) (sl' : Value) : Prop :=
  W.cell? ⟨b8, 0, none⟩ = some (.string S'.owner) ∧ W.cell? ⟨b8, 1, none⟩ = some (.slice V'.a0 V'.l0.length V'.c0) ∧ W.cell? ⟨b8, 2, none⟩ = some (.slice V'.a1 V'.l1.length V'.c1) ∧ W.cell? ⟨b8, 3, none⟩ = some (.slice V'.a2 V'.l2.length V'.c2) ∧ W.cell? ⟨b8, 4, none⟩ = some sl' ∧ W.cell? ⟨b8, 5, none⟩ = some (.int .i64 S'.req) ∧
  W.cell? ⟨w.heap.size + 1, 1, none⟩ = some (.string o.ak) ∧ W.cell? ⟨w.heap.size + 1, 2, none⟩ = some (.int .i64 o.aq) ∧ W.cell? ⟨w.heap.size + 1, 3, none⟩ = some (.string o.bk) ∧ W.cell? ⟨w.heap.size + 1, 4, none⟩ = some (.int .i64 o.bq) ∧ W.cell? ⟨w.heap.size + 1, 5, none⟩ = some (.int .i64 o.n) ∧
  W.cell? ⟨w.heap.size + 1, 6, none⟩ = some (.slice o.V.a0 o.V.l0.length o.V.c0) ∧ W.cell? ⟨w.heap.size + 1, 7, none⟩ = some (.slice o.V.a1 o.V.l1.length o.V.c1) ∧ W.cell? ⟨w.heap.size + 1, 8, none⟩ = some (.slice o.V.a2 o.V.l2.length o.V.c2) ∧ D2 w0 w W p m o b8 V' S' sl'
theorem D2.cells {w0 w W : World} {p m : Nat} {o : OpS} {b8 : Nat} {V' : VS} {S' : PS} {sl' : Value} (h : D2 w0 w W p m o b8 V' S' sl') : D2c w0 w W p m o b8 V' S' sl' := by
  obtain ⟨x0, x1, x2, x3, x4, x5⟩ := six h.x
  obtain ⟨y0, y1, y2, y3, y4, y5, y6, y7, y8⟩ := ocells h.o
  exact ⟨x0, x1, x2, x3, x4, x5, y1, y2, y3, y4, y5, y6, y7, y8, h⟩

set_option maxRecDepth 100000 in
set_option maxHeartbeats 8000000 in
theorem do_pledge (w0 w : World) (p m : Nat) (V : VS) (S : PS) (sl : Value) (o : OpS) (h : Pair w0 w p m V S sl) (ho : o.Ok) (hk : o.kd % 5 = 0) :
    Calls Tryz.prog 15 #[.pointer (some ⟨p, 0, none⟩), rP V S sl, o.val] w (DoPost w0 w p m (doF o V S)) := by
  obtain ⟨ao, cap, hsl, -⟩ := row_open h.row
  subst hsl
  have HD := Lib.hid (DSt.new h o)
  have HP := Lib.hid h
  have hpl := h.pool.lt
  have hml := h.pool.2.lt
  have hB := h.base.size
  have k0 := ho.k0
  have k1 := ho.k1
  have HO := Lib.hid ho
  have HF : Hid (doF o V S = (V, (pledgeF (fV V) S o.ak o.aq).2)) := Lib.hid (by unfold doF; rw [if_pos hk])
  clear h ho
  unfold rP OpS.val
  unfold pBox zeroP OpS.box OpS.cells at HD
  unfold VS.x0 VS.x1 VS.x2 at *
  go_enter Tryz.func15, Tryz.ntmps15
  go_wp2_with fail
  generalize ((w.alloc (.cells #[.string S.owner, .slice V.a0 V.l0.length V.c0, .slice V.a1 V.l1.length V.c1, .slice V.a2 V.l2.length V.c2, .slice ao S.L.length cap, .int .i64 S.req] 38)).alloc
    (.cells #[.int .u8 o.kd, .string o.ak, .int .i64 o.aq, .string o.bk, .int .i64 o.bq, .int .i64 o.n, .slice o.V.a0 o.V.l0.length o.V.c0, .slice o.V.a1 o.V.l1.length o.V.c1, .slice o.V.a2 o.V.l2.length o.V.c2] 47)).alloc (.cells #[.string ⟨#[]⟩, .slice none 0 0, .slice none 0 0, .slice none 0 0, .slice none 0 0, .int .i64 0] 38) = W1 at HD ⊢
  refine (refPledge_calls _ w0.heap.size V S (.slice ao S.L.length cap) o.ak o.aq HD.out.pair.row HD.out.pair.v HD.out.pair.base.size HD.out.pair.lok HO.out.ka HO.out.a0 HO.out.a1).mono ?_
  rintro e W2 ⟨sl', rfl, hr2, hb⟩
  have HD2 := Lib.hid (HD.out.step hb)
  rw [pledge_sim HP.out.sim] at hr2
  rw [pledge_sim HP.out.sim]
  unfold rP VS.x0 VS.x1 VS.x2
  have HR2 := Lib.hid hr2
  clear hb HD hr2
  generalize hX : pledgeF (fV V) S o.ak o.aq = X at HR2 HF ⊢
  have HX := Lib.hid hX
  clear hX
  obtain ⟨cd, S'⟩ := X
  simp only at HR2 HF HX ⊢
  obtain ⟨ao2, cap2, hsl2, -⟩ := row_open HR2.out
  subst hsl2
  have HD3 : Hid (D2 w0 w (W2.alloc (.cells #[.string S'.owner, .slice V.a0 V.l0.length V.c0, .slice V.a1 V.l1.length V.c1, .slice V.a2 V.l2.length V.c2, .slice ao2 S'.L.length cap2, .int .i64 S'.req] 38)) p m o W2.heap.size V S' (.slice ao2 S'.L.length cap2)) := Lib.hid
    ⟨blk_new _ _, blk_alloc HD2.out.o _, Fr.of_below (HD2.out.b.alloc HD2.out.b.size _) (Nat.le_refl _), HD2.out.pair.base.alloc HD2.out.pair.base.size _, ownsRow_below HR2.out ((Below.refl _ _).alloc (Nat.le_refl _) _) (Nat.le_refl _)⟩
  have HP3 := Lib.hid (HD2.out.pair.pool.alloc (.cells #[.string S'.owner, .slice V.a0 V.l0.length V.c0, .slice V.a1 V.l1.length V.c1, .slice V.a2 V.l2.length V.c2, .slice ao2 S'.L.length cap2, .int .i64 S'.req] 38))
  have HY3 : Hid (_ = _) := Lib.hid (blk_alloc HD2.out.y (.cells #[.string S'.owner, .slice V.a0 V.l0.length V.c0, .slice V.a1 V.l1.length V.c1, .slice V.a2 V.l2.length V.c2, .slice ao2 S'.L.length cap2, .int .i64 S'.req] 38))
  have hw2 : w.heap.size + 2 < W2.heap.size := blk_lt HD2.out.y
  go_wp2_with fail
  generalize W2.alloc (.cells #[.string S'.owner, .slice V.a0 V.l0.length V.c0, .slice V.a1 V.l1.length V.c1, .slice V.a2 V.l2.length V.c2, .slice ao2 S'.L.length cap2, .int .i64 S'.req] 38) = W3 at HD3 HP3 HY3 ⊢
  have HD : D2c w0 w W3.drew p m o W2.heap.size V S' (.slice ao2 S'.L.length cap2) := HD3.out.drew.cells
  unfold D2c at HD
  go_region_held3 (fun W => W.cell? ⟨W2.heap.size, 0, none⟩ = some (.string S'.owner) ∧ W.cell? ⟨W2.heap.size, 1, none⟩ = some (.slice V.a0 V.l0.length V.c0) ∧ W.cell? ⟨W2.heap.size, 2, none⟩ = some (.slice V.a1 V.l1.length V.c1) ∧ W.cell? ⟨W2.heap.size, 3, none⟩ = some (.slice V.a2 V.l2.length V.c2) ∧ W.cell? ⟨W2.heap.size, 4, none⟩ = some (.slice ao2 S'.L.length cap2) ∧ W.cell? ⟨W2.heap.size, 5, none⟩ = some (.int .i64 S'.req) ∧
      W.cell? ⟨w.heap.size + 1, 1, none⟩ = some (.string o.ak) ∧ W.cell? ⟨w.heap.size + 1, 2, none⟩ = some (.int .i64 o.aq) ∧ W.cell? ⟨w.heap.size + 1, 3, none⟩ = some (.string o.bk) ∧ W.cell? ⟨w.heap.size + 1, 4, none⟩ = some (.int .i64 o.bq) ∧ W.cell? ⟨w.heap.size + 1, 5, none⟩ = some (.int .i64 o.n) ∧
      W.cell? ⟨w.heap.size + 1, 6, none⟩ = some (.slice o.V.a0 o.V.l0.length o.V.c0) ∧ W.cell? ⟨w.heap.size + 1, 7, none⟩ = some (.slice o.V.a1 o.V.l1.length o.V.c1) ∧ W.cell? ⟨w.heap.size + 1, 8, none⟩ = some (.slice o.V.a2 o.V.l2.length o.V.c2) ∧ D2 w0 w W p m o W2.heap.size V S' (.slice ao2 S'.L.length cap2))
    (first | with_reducible exact HD | with_reducible exact HH5 | with_reducible exact HH4 | with_reducible trivial)
    (first
      | (go_at_call 27
         refine (pledge_calls _ p m S o.ak HO.out.ka o.aq 35 (aggV V) w0.heap.size w0 (fV V) 135 (aggV V) HP3.out.drew HP.out.sim.ok (isValuer_prices HP.out.v0) HP.out.vl HD3.out.up.drew HD3.out.up.drew.size HO.out.ka (fV_range' V)).mono ?_
         rw [HX.out]
         rintro e W4 ⟨rfl, hP4, hF4⟩
         have HP4 := Lib.hid hP4
         have HD4 := Lib.hid (HD3.out.drew.go hF4 HP3.out.drew HP.out.hp HP.out.hm hpl hml (by omega))
         have HH4 := HD4.out.cells
         unfold D2c at HH4
         have HY4 : Hid (W4.heap[w.heap.size + 1 + 1]? = some (.cells zeroP 38 (0, 0))) := Lib.hid ((hF4.block _ (blk_lt HY3.out) (by omega) (by omega)).trans HY3.out)
         obtain ⟨⟨d0, d1, d2, d3, d4, d5⟩, g0, g1, g2, g3, g4, g5⟩ := zcells HY4.out
         have HD5 := Lib.hid (HD4.out.set HY4.out hw2 hB (.string S'.owner) (.slice V.a0 V.l0.length V.c0) (.slice V.a1 V.l1.length V.c1) (.slice V.a2 V.l2.length V.c2) (.slice ao2 S'.L.length cap2) (.int .i64 S'.req))
         have HH5 := HD5.out.cells
         unfold D2c set6 at HH5
         clear hP4 hF4))
  all_goals
    have z6 := six (set6_blk HY4.out (.string S'.owner) (.slice V.a0 V.l0.length V.c0) (.slice V.a1 V.l1.length V.c1) (.slice V.a2 V.l2.length V.c2) (.slice ao2 S'.L.length cap2) (.int .i64 S'.req))
    have HP5 := Lib.hid (set6_pool HP4.out (b := w.heap.size + 1 + 1) (by omega) (by omega) (.string S'.owner) (.slice V.a0 V.l0.length V.c0) (.slice V.a1 V.l1.length V.c1) (.slice V.a2 V.l2.length V.c2) (.slice ao2 S'.L.length cap2) (.int .i64 S'.req))
    have HD6 := HD5
    unfold set6 at z6 HD6 HP5
    rename_i hHeld
    clear hHeld HD HH4 HH5 HD5 d0 d1 d2 d3 d4 d5 g0 g1 g2 g3 g4 g5
    generalize (((((W4.setCell _ _).setCell _ _).setCell _ _).setCell _ _).setCell _ _).setCell _ _ = WF at z6 HD6 HP5 ⊢
    obtain ⟨z0, z1, z2, z3, z4, z5⟩ := z6
    go_wp2_with fail
    have hvl := (pledge_vl (fV V) S o.ak o.aq).1
    have hsm := pledge_keep (fV_ok V).nn HP.out.sim o.ak o.aq
    rw [HX.out] at hvl hsm
    refine bodyPost_ret (v := .tuple #[.agg #[.string S'.owner, .slice V.a0 V.l0.length V.c0, .slice V.a1 V.l1.length V.c1, .slice V.a2 V.l2.length V.c2, .slice ao2 S'.L.length cap2, .int .i64 S'.req], .bool true]) ?_ rfl
      ⟨m, .slice ao2 S'.L.length cap2, by rw [HF.out]; rfl, by rw [HF.out]; exact ⟨HP5.out, hvl.trans HP.out.vl, HD6.out.row, HP.out.v0, hsm, HD6.out.up, HP.out.hp, HP.out.hm⟩, HD6.out.fr, Or.inl rfl⟩
    simp [results, Tryz.results15, go_sem, z0, z1, z2, z3, z4, z5]
end Go.Proofs.YtjjnljfphaimgaaGreatDoor.C
