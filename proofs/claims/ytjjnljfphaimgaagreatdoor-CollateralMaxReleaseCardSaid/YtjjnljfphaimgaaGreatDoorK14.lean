/- Contracts and plain laws, without conditions beyond each theorem's own: girolaw34.do: a revaluation, and do itself. The two literals of the laws. girolaw34.build. girolaw34.known: the example of the chapter. -/
import Derived.Deep.Slices
import Derived.Test.YtjjnljfphaimgaaGreatDoorK05
import Derived.Test.YtjjnljfphaimgaaGreatDoorK10
import Derived.Test.YtjjnljfphaimgaaGreatDoorK13
set_option linter.all false
/- girolaw34.do: a revaluation, and do itself. -/
namespace Go.Proofs.YtjjnljfphaimgaaGreatDoor.C
open Go Go.RowKit Go.Shelf Go.Proofs

/-- A valuer's slices, of any lengths. -/
structure VRd (w : World) (B : Nat) (V : VS) : Prop where
  r0 : ∀ i (h : i < V.l0.length), ∃ a, V.a0 = some a ∧ a.block < B ∧ w.cell? (a.add i) = some (.string V.l0[i])
  r1 : ∀ i (h : i < V.l1.length), ∃ a, V.a1 = some a ∧ a.block < B ∧ w.cell? (a.add i) = some (.int .i64 V.l1[i])
  r2 : ∀ i (h : i < V.l2.length), ∃ a, V.a2 = some a ∧ a.block < B ∧ w.cell? (a.add i) = some (.int .i64 V.l2[i])
  z1 : ∀ x ∈ V.l1, -9223372036854775808 ≤ x ∧ x ≤ 9223372036854775807
  z2 : ∀ x ∈ V.l2, -9223372036854775808 ≤ x ∧ x ≤ 9223372036854775807
theorem VRd.few {w : World} {B : Nat} {V : VS} (h : VRd w B V) (hf : fewB V = true) : VAt w B V := by
  unfold fewB at hf
  simp only [Bool.and_eq_true, decide_eq_true_eq] at hf
  exact ⟨h.r0, h.r1, h.r2, h.z1, h.z2, hf.1.1, hf.1.2, hf.2⟩
theorem row_reval {w : World} {B : Nat} {sl : Value} {L : List Hold} (h : RowAt w B sl L) (f : ByteArray → Int → Int × Int) : RowAt w B sl (L.map (reval f)) := by
  unfold RowAt
  rw [posRow_reval, List.length_map]
  exact h
def RevOk (V V2 : VS) (B : Nat) (w : World) (r : Int × PS) (e : Ending) (w' : World) : Prop :=
  ∃ sl', e = .returned (.tuple #[rP (if r.1 = 0 then V2 else V) r.2 sl', .int .i64 r.1]) ∧ RowAt w' B sl' r.2.L ∧ Below w.heap.size w w'
theorem revalue_ref {V V2 : VS} {B : Nat} {w w' : World} {e : Ending} {f g : ByteArray → Int → Int × Int} {S : PS} {vl : Value} (hf : ∀ k q, 0 ≤ q → 0 ≤ (f k q).1 ∧ (f k q).1 ≤ 1000000000000000) (hs : Sim g S)
    (h : RevPost V V2 B w (refRevalue f S) e w') : RevOk V V2 B w (revalueF f S vl) e w' := by
  obtain ⟨sl', he, hr, hb⟩ := h
  have hc := revalue_sim (f := f) S vl
  refine ⟨sl', ?_, ?_, hb⟩
  · rw [he, hc]
    by_cases h0 : (revalueF f S vl).1 = 0
    · obtain ⟨-, -, ho, hq, -⟩ := revalue_good hf hs h0
      have : (refRevalue f S).2.owner = S.owner ∧ (refRevalue f S).2.req = S.req := by unfold refRevalue; split <;> exact ⟨rfl, rfl⟩
      unfold rP
      rw [ho, hq, this.1, this.2]
    · rw [revalue_bad h0]
      have : (refRevalue f S).2.owner = S.owner ∧ (refRevalue f S).2.req = S.req := by unfold refRevalue; split <;> exact ⟨rfl, rfl⟩
      unfold rP
      rw [this.1, this.2]
  · have hL : (refRevalue f S).2.L = S.L := by unfold refRevalue; split <;> rfl
    rw [hL] at hr
    by_cases h0 : (revalueF f S vl).1 = 0
    · obtain ⟨-, hm, -⟩ := revalue_good hf hs h0
      rw [hm]; exact row_reval hr f
    · rw [revalue_bad h0]; exact hr
/-- What a revaluation leaves of a pair. -/
theorem revalue_pair {w0 : World} {V V2 : VS} {S : PS} (hs : Sim (fV V) S) (hvl : S.vl = vlOf V) (hv : VAt w0 w0.heap.size V) (hv2 : VAt w0 w0.heap.size V2) {X : Int × PS} (hX : revalueF (fV V2) S (vlOf V2) = X) {V' : VS} (hV : (if X.1 = 0 then V2 else V) = V') :
    X.2.vl = vlOf V' ∧ VAt w0 w0.heap.size V' ∧ Sim (fV V') X.2 := by
  subst hX hV
  by_cases h0 : (revalueF (fV V2) S (vlOf V2)).1 = 0
  · obtain ⟨h1, -, -, -, h5⟩ := revalue_good (fV_ok V2).nn hs h0
    rw [if_pos h0]; exact ⟨h5, hv2, h1⟩
  · rw [if_neg h0, revalue_bad h0]; exact ⟨hvl, hv, hs⟩

set_option maxRecDepth 100000 in
set_option maxHeartbeats 8000000 in
theorem do_revalue (w0 w : World) (p m : Nat) (V : VS) (S : PS) (sl : Value) (o : OpS) (h : Pair w0 w p m V S sl) (ho : o.Ok) (hvo : VRd w0 w0.heap.size o.V) (hk : o.kd % 5 = 4) :
    Calls Tryz.prog 15 #[.pointer (some ⟨p, 0, none⟩), rP V S sl, o.val] w (DoPost w0 w p m (doF o V S)) := by
  obtain ⟨ao, cap, hsl, -⟩ := row_open h.row
  subst hsl
  have HD := Lib.hid (DSt.new h o)
  have HP := Lib.hid h
  have hpl := h.pool.lt
  have hml := h.pool.2.lt
  have hB := h.base.size
  have k0 := ho.k0
  have k1 := ho.k1
  have HO := Lib.hid ho
  have HVO := Lib.hid hvo
  have HF0 : Hid (doF o V S = if fewB o.V = true then (if (revalueF (fV o.V) S (vlOf o.V)).1 = 0 then o.V else V, (revalueF (fV o.V) S (vlOf o.V)).2) else (V, S)) := Lib.hid (by unfold doF; rw [if_neg (by omega), if_neg (by omega), if_neg (by omega), if_neg (by omega)])
  clear h ho hvo
  unfold rP OpS.val
  unfold pBox zeroP OpS.box OpS.cells at HD
  unfold VS.x0 VS.x1 VS.x2 at *
  go_enter Tryz.func15, Tryz.ntmps15
  go_wp2_with fail
  generalize ((w.alloc (.cells #[.string S.owner, .slice V.a0 V.l0.length V.c0, .slice V.a1 V.l1.length V.c1, .slice V.a2 V.l2.length V.c2, .slice ao S.L.length cap, .int .i64 S.req] 38)).alloc
    (.cells #[.int .u8 o.kd, .string o.ak, .int .i64 o.aq, .string o.bk, .int .i64 o.bq, .int .i64 o.n, .slice o.V.a0 o.V.l0.length o.V.c0, .slice o.V.a1 o.V.l1.length o.V.c1, .slice o.V.a2 o.V.l2.length o.V.c2] 47)).alloc (.cells #[.string ⟨#[]⟩, .slice none 0 0, .slice none 0 0, .slice none 0 0, .slice none 0 0, .int .i64 0] 38) = W1 at HD ⊢
  refine (few_calls _ o.V HO.out.l0 HO.out.l1 HO.out.l2).mono ?_
  rintro e W2 ⟨rfl, hb⟩
  have HD2 := Lib.hid (HD.out.step hb)
  clear hb HD
  obtain ⟨c0, c1, c2, c3, c4, c5⟩ := six HD2.out.x
  unfold VS.x0 at c1
  unfold VS.x1 at c2
  unfold VS.x2 at c3
  obtain ⟨y0, y1, y2, y3, y4, y5, y6, y7, y8⟩ := ocells HD2.out.o
  cases hfw : fewB o.V
  · have HF : Hid (doF o V S = (V, S)) := Lib.hid (by rw [HF0.out, hfw]; rfl)
    clear hfw
    have HY2 : Hid (W2.heap[w.heap.size + 1 + 1]? = some (.cells zeroP 38 (0, 0))) := Lib.hid HD2.out.y
    obtain ⟨⟨d0, d1, d2, d3, d4, d5⟩, g0, g1, g2, g3, g4, g5⟩ := zcells HY2.out
    go_wp2_with fail
    have z6 := six (set6_blk HY2.out (.string S.owner) (.slice V.a0 V.l0.length V.c0) (.slice V.a1 V.l1.length V.c1) (.slice V.a2 V.l2.length V.c2) (.slice ao S.L.length cap) (.int .i64 S.req))
    have HB6 := Lib.hid (set6_below HD2.out.b (B := w.heap.size) (b := w.heap.size + 1 + 1) (by omega) (.string S.owner) (.slice V.a0 V.l0.length V.c0) (.slice V.a1 V.l1.length V.c1) (.slice V.a2 V.l2.length V.c2) (.slice ao S.L.length cap) (.int .i64 S.req))
    unfold set6 at z6 HB6
    clear c0 c1 c2 c3 c4 c5 y0 y1 y2 y3 y4 y5 y6 y7 y8 d0 d1 d2 d3 d4 d5 g0 g1 g2 g3 g4 g5
    generalize (((((W2.setCell _ _).setCell _ _).setCell _ _).setCell _ _).setCell _ _).setCell _ _ = WF at z6 HB6 ⊢
    obtain ⟨z0, z1, z2, z3, z4, z5⟩ := z6
    refine bodyPost_ret (v := .tuple #[.agg #[.string S.owner, .slice V.a0 V.l0.length V.c0, .slice V.a1 V.l1.length V.c1, .slice V.a2 V.l2.length V.c2, .slice ao S.L.length cap, .int .i64 S.req], .bool true]) ?_ rfl
      ⟨m, .slice ao S.L.length cap, by rw [HF.out]; rfl, by rw [HF.out]; exact HP.out.below HB6.out, Fr.of_below HB6.out (Nat.le_refl _), Or.inl rfl⟩
    simp [results, Tryz.results15, go_sem, z0, z1, z2, z3, z4, z5]
  · have HV2 := Lib.hid (HVO.out.few hfw)
    obtain ⟨X, hX⟩ : ∃ X, revalueF (fV o.V) S (vlOf o.V) = X := ⟨_, rfl⟩
    obtain ⟨V', hV'⟩ : ∃ V', (if X.1 = 0 then o.V else V) = V' := ⟨_, rfl⟩
    have HF : Hid (doF o V S = (V', X.2)) := Lib.hid (by rw [HF0.out, hfw, if_pos rfl, hX, hV'])
    have HQ := Lib.hid (revalue_pair HP.out.sim HP.out.vl HP.out.v0 HV2.out hX hV')
    have HX := Lib.hid hX
    have HVV := Lib.hid hV'
    clear hfw hX hV'
    obtain ⟨cd, S'⟩ := X
    simp only at HF HQ HVV
    go_wp2_with fail
    refine (refRevalue_calls _ w0.heap.size V o.V S (.slice ao S.L.length cap) HD2.out.pair.row HD2.out.pair.v (HV2.out.below HD2.out.pair.base) HD2.out.pair.base.size HD2.out.pair.lok).mono ?_
    intro e W3 hr0
    obtain ⟨sl', rfl, hr2, hb⟩ := revalue_ref (vl := vlOf o.V) (fV_ok o.V).nn HP.out.sim hr0
    rw [HX.out] at hr2
    rw [HX.out]
    simp only at hr2 ⊢
    rw [HVV.out]
    unfold rP VS.x0 VS.x1 VS.x2
    have HD3 := Lib.hid (HD2.out.step hb)
    have HR2 := Lib.hid hr2
    clear hb hr2 hr0 HD2 c0 c1 c2 c3 c4 c5 y0 y1 y2 y3 y4 y5 y6 y7 y8
    obtain ⟨ao2, cap2, hsl2, -⟩ := row_open HR2.out
    subst hsl2
    have HD4 : Hid (D2 w0 w (W3.alloc (.cells #[.string S'.owner, .slice V'.a0 V'.l0.length V'.c0, .slice V'.a1 V'.l1.length V'.c1, .slice V'.a2 V'.l2.length V'.c2, .slice ao2 S'.L.length cap2, .int .i64 S'.req] 38)) p m o W3.heap.size V' S' (.slice ao2 S'.L.length cap2)) := Lib.hid
      ⟨blk_new _ _, blk_alloc HD3.out.o _, Fr.of_below (HD3.out.b.alloc HD3.out.b.size _) (Nat.le_refl _), HD3.out.pair.base.alloc HD3.out.pair.base.size _, ownsRow_below HR2.out ((Below.refl _ _).alloc (Nat.le_refl _) _) (Nat.le_refl _)⟩
    have HP3 := Lib.hid (HD3.out.pair.pool.alloc (.cells #[.string S'.owner, .slice V'.a0 V'.l0.length V'.c0, .slice V'.a1 V'.l1.length V'.c1, .slice V'.a2 V'.l2.length V'.c2, .slice ao2 S'.L.length cap2, .int .i64 S'.req] 38))
    have HY3 : Hid (_ = _) := Lib.hid (blk_alloc HD3.out.y (.cells #[.string S'.owner, .slice V'.a0 V'.l0.length V'.c0, .slice V'.a1 V'.l1.length V'.c1, .slice V'.a2 V'.l2.length V'.c2, .slice ao2 S'.L.length cap2, .int .i64 S'.req] 38))
    have hw2 : w.heap.size + 2 < W3.heap.size := blk_lt HD3.out.y
    go_wp2_with fail
    have hsz4 : W3.heap.size ≤ (W3.alloc (.cells #[.string S'.owner, .slice V'.a0 V'.l0.length V'.c0, .slice V'.a1 V'.l1.length V'.c1, .slice V'.a2 V'.l2.length V'.c2, .slice ao2 S'.L.length cap2, .int .i64 S'.req] 38)).heap.size := by simp
    generalize W3.alloc (.cells #[.string S'.owner, .slice V'.a0 V'.l0.length V'.c0, .slice V'.a1 V'.l1.length V'.c1, .slice V'.a2 V'.l2.length V'.c2, .slice ao2 S'.L.length cap2, .int .i64 S'.req] 38) = W4 at HD4 HP3 HY3 hsz4 ⊢
    have HD : D2c w0 w W4.drew p m o W3.heap.size V' S' (.slice ao2 S'.L.length cap2) := HD4.out.drew.cells
    unfold D2c at HD
    go_region_held3 (fun W => W.cell? ⟨W3.heap.size, 0, none⟩ = some (.string S'.owner) ∧ W.cell? ⟨W3.heap.size, 1, none⟩ = some (.slice V'.a0 V'.l0.length V'.c0) ∧ W.cell? ⟨W3.heap.size, 2, none⟩ = some (.slice V'.a1 V'.l1.length V'.c1) ∧ W.cell? ⟨W3.heap.size, 3, none⟩ = some (.slice V'.a2 V'.l2.length V'.c2) ∧ W.cell? ⟨W3.heap.size, 4, none⟩ = some (.slice ao2 S'.L.length cap2) ∧ W.cell? ⟨W3.heap.size, 5, none⟩ = some (.int .i64 S'.req) ∧
        W.cell? ⟨w.heap.size + 1, 1, none⟩ = some (.string o.ak) ∧ W.cell? ⟨w.heap.size + 1, 2, none⟩ = some (.int .i64 o.aq) ∧ W.cell? ⟨w.heap.size + 1, 3, none⟩ = some (.string o.bk) ∧ W.cell? ⟨w.heap.size + 1, 4, none⟩ = some (.int .i64 o.bq) ∧ W.cell? ⟨w.heap.size + 1, 5, none⟩ = some (.int .i64 o.n) ∧
        W.cell? ⟨w.heap.size + 1, 6, none⟩ = some (.slice o.V.a0 o.V.l0.length o.V.c0) ∧ W.cell? ⟨w.heap.size + 1, 7, none⟩ = some (.slice o.V.a1 o.V.l1.length o.V.c1) ∧ W.cell? ⟨w.heap.size + 1, 8, none⟩ = some (.slice o.V.a2 o.V.l2.length o.V.c2) ∧ D2 w0 w W p m o W3.heap.size V' S' (.slice ao2 S'.L.length cap2))
      (first | with_reducible exact HD | with_reducible exact HH6 | with_reducible exact HH5 | with_reducible trivial)
      (first
        | (go_at_call 31
           refine (revalue_calls _ p m S 35 (aggV o.V) w0.heap.size w0 (fV o.V) 135 (aggV o.V) HP3.out.drew HP.out.sim.ok (isValuer_prices HV2.out) HD4.out.up.drew HD4.out.up.drew.size (fV_range' o.V)).mono ?_
           intro e W5 hr0
           have hr1 : MutPost' p m W4.drew (revalueF (fV o.V) S (vlOf o.V)) e W5 := hr0
           rw [HX.out] at hr1
           obtain ⟨m', rfl, hP5, hF5, hm5⟩ := hr1
           have HP5 := Lib.hid hP5
           have HD5 := Lib.hid (HD4.out.drew.go hF5 HP3.out.drew HP.out.hp HP.out.hm hpl hml (by omega))
           have HH5 := HD5.out.cells
           unfold D2c at HH5
           have HM5 : Hid (m' = m ∨ W4.heap.size ≤ m') := Lib.hid hm5
           have HY5 : Hid (W5.heap[w.heap.size + 1 + 1]? = some (.cells zeroP 38 (0, 0))) := Lib.hid ((hF5.block _ (blk_lt HY3.out) (by omega) (by omega)).trans HY3.out)
           obtain ⟨⟨d0, d1, d2, d3, d4, d5⟩, g0, g1, g2, g3, g4, g5⟩ := zcells HY5.out
           have HD6 := Lib.hid (HD5.out.set HY5.out hw2 hB (.string S'.owner) (.slice V'.a0 V'.l0.length V'.c0) (.slice V'.a1 V'.l1.length V'.c1) (.slice V'.a2 V'.l2.length V'.c2) (.slice ao2 S'.L.length cap2) (.int .i64 S'.req))
           have HH6 := HD6.out.cells
           unfold D2c set6 at HH6
           clear hP5 hF5 hm5 hr0))
    all_goals
      have hm5 := HM5.out
      have z6 := six (set6_blk HY5.out (.string S'.owner) (.slice V'.a0 V'.l0.length V'.c0) (.slice V'.a1 V'.l1.length V'.c1) (.slice V'.a2 V'.l2.length V'.c2) (.slice ao2 S'.L.length cap2) (.int .i64 S'.req))
      have HP6 := Lib.hid (set6_pool HP5.out (b := w.heap.size + 1 + 1) (by omega) (by omega) (.string S'.owner) (.slice V'.a0 V'.l0.length V'.c0) (.slice V'.a1 V'.l1.length V'.c1) (.slice V'.a2 V'.l2.length V'.c2) (.slice ao2 S'.L.length cap2) (.int .i64 S'.req))
      have HD7 := HD6
      unfold set6 at z6 HD7 HP6
      rename_i hHeld
      clear hHeld HD HH5 HH6 HD6 d0 d1 d2 d3 d4 d5 g0 g1 g2 g3 g4 g5 hm5
      generalize (((((W5.setCell _ _).setCell _ _).setCell _ _).setCell _ _).setCell _ _).setCell _ _ = WF at z6 HD7 HP6 ⊢
      obtain ⟨z0, z1, z2, z3, z4, z5⟩ := z6
      go_wp2_with fail
      have hm5 := HM5.out
      have hhm := HP.out.hm
      refine bodyPost_ret (v := .tuple #[.agg #[.string S'.owner, .slice V'.a0 V'.l0.length V'.c0, .slice V'.a1 V'.l1.length V'.c1, .slice V'.a2 V'.l2.length V'.c2, .slice ao2 S'.L.length cap2, .int .i64 S'.req], .bool true]) ?_ rfl
        ⟨m', .slice ao2 S'.L.length cap2, by rw [HF.out]; rfl, by rw [HF.out]; exact ⟨HP6.out, HQ.out.1, HD7.out.row, HQ.out.2.1, HQ.out.2.2, HD7.out.up, HP.out.hp, by omega⟩, HD7.out.fr, by omega⟩
      simp [results, Tryz.results15, go_sem, z0, z1, z2, z3, z4, z5]
theorem do_calls (w0 w : World) (p m : Nat) (V : VS) (S : PS) (sl : Value) (o : OpS) (h : Pair w0 w p m V S sl) (ho : o.Ok) (hvo : VRd w0 w0.heap.size o.V) :
    Calls Tryz.prog 15 #[.pointer (some ⟨p, 0, none⟩), rP V S sl, o.val] w (DoPost w0 w p m (doF o V S)) := by
  have := ho.k0
  by_cases h0 : o.kd % 5 = 0
  · exact do_pledge w0 w p m V S sl o h ho h0
  by_cases h1 : o.kd % 5 = 1
  · exact do_release w0 w p m V S sl o h ho h1
  by_cases h2 : o.kd % 5 = 2
  · exact do_require w0 w p m V S sl o h ho h2
  by_cases h3 : o.kd % 5 = 3
  · exact do_subst w0 w p m V S sl o h ho h3
  · exact do_revalue w0 w p m V S sl o h ho hvo (by omega)
end Go.Proofs.YtjjnljfphaimgaaGreatDoor.C
/- The two literals of the laws. -/
namespace Go.Proofs.YtjjnljfphaimgaaGreatDoor.C
open Go Go.RowKit Go.Shelf Go.Proofs

def bankA : ByteArray := ⟨#[66, 65, 78, 75, 65]⟩
def isinUS : ByteArray := ⟨#[85, 83, 48, 51, 55, 56, 51, 51, 49, 48, 48, 53]⟩
theorem bankA_member : memberB bankA = true := by kernel_rfl
theorem isinUS_isin : isinB isinUS = true := by
  have h1 : prefOK clsISIN 12 isinUS.data.toList = true := by kernel_rfl
  have h2 : luhnN (expN (isinUS.data.toList.take 11)) = 5 := by kernel_rfl
  have h3 : isinUS.data.toList.drop 11 = [53] := by kernel_rfl
  unfold isinB
  rw [h1, h2, h3, Lib.decDigits, dif_pos (by omega)]
  rfl
end Go.Proofs.YtjjnljfphaimgaaGreatDoor.C
/- girolaw34.build. -/
namespace Go.Proofs.YtjjnljfphaimgaaGreatDoor.C
open Go Go.RowKit Go.Shelf Go.Proofs

structure OpsAt (w : World) (B : Nat) (v : Value) (l : List OpS) : Prop where
  ex : ∃ ao cap, v = .slice ao l.length cap ∧ ∀ i (h : i < l.length), ∃ a, ao = some a ∧ a.block < B ∧ ∀ j, j < 9 → w.cell? (a.add (i * 9 + j)) = (l[i].cells)[j]?
  ok : ∀ o ∈ l, o.Ok ∧ VRd w B o.V
  len : l.length ≤ maxLen
noncomputable def bldF (l : List OpS) (s : VS × PS) : VS × PS := l.foldl (fun s o => doF o s.1 s.2) s
def new0 (V : VS) : VS × PS := (V, ⟨bankA, vlOf V, [], 0, 0⟩)
theorem sim_new (V : VS) : Sim (fV V) (new0 V).2 :=
  ⟨⟨by show (0 : Int) ≤ 0; omega, by show (0 : Int) ≤ _; omega, by show (0 : Int) ≤ 0; omega, by show (0 : Int) ≤ _; omega, (by intro h hm; cases hm), (by intro h hm; cases hm), (by intro h hm; cases hm), (by intro h hm; cases hm), by show 0 ≤ 1024; omega⟩, List.Pairwise.nil, (by intro h hm; cases hm), rfl, (by intro h hm; cases hm)⟩
theorem bldF_succ (l : List OpS) (s : VS × PS) (k : Nat) (h : k < l.length) : bldF (l.take (k + 1)) s = doF l[k] (bldF (l.take k) s).1 (bldF (l.take k) s).2 := by
  unfold bldF; rw [List.take_succ_eq_append_getElem h, List.foldl_append]; rfl
def BuildPost (w0 w : World) (r : VS × PS) (e : Ending) (w' : World) : Prop :=
  ∃ p m sl, e = .returned (.tuple #[.pointer (some ⟨p, 0, none⟩), rP r.1 r.2 sl]) ∧ Pair w0 w' p m r.1 r.2 sl ∧ Below w.heap.size w w' ∧ w.heap.size ≤ p ∧ w.heap.size ≤ m
theorem row_nil (w : World) (B : Nat) : RowAt w B (.slice none 0 0) [] := ⟨rfl, Or.inl ⟨rfl, rfl⟩⟩
/-- Between two operations: the reference lies in block b8. -/
structure BSt (w0 w W : World) (p m : Nat) (V : VS) (S : PS) (sl : Value) (b5 b8 : Nat) : Prop where
  pair : Pair w0 W p m V S sl
  x : boxAt W b8 V S sl
  y : W.heap[b5]? = some (.cells zeroP 38 (0, 0))
  b : Below w.heap.size w W

theorem box_ne {W : World} {b p m : Nat} {cs : Array Value} {S : PS} (h : W.heap[b]? = some (.cells cs 38 (0, 0))) (hP : PoolAt W p m S) : b ≠ p ∧ b ≠ m := by
  constructor
  · rintro rfl
    have := hP.1
    rw [h] at this
    simp at this
  · rintro rfl
    obtain ⟨es, clock, hb, r⟩ := hP.2
    rw [h] at hb
    simp at hb
/-- In a region that calls do: block b8 holds the reference's old state. -/
structure D3 (w0 wr W : World) (p m : Nat) (V : VS) (S : PS) (sl : Value) (b5 b8 : Nat) : Prop where
  x : boxAt W b8 V S sl
  y : W.heap[b5]? = some (.cells zeroP 38 (0, 0))
  fr : Fr p m wr W
  up : Below w0.heap.size w0 W
theorem D3.below {w0 wr W W' : World} {p m : Nat} {V : VS} {S : PS} {sl : Value} {b5 b8 : Nat} (h : D3 w0 wr W p m V S sl b5 b8) (hb : Below W.heap.size W W') : D3 w0 wr W' p m V S sl b5 b8 :=
  ⟨blk_keep hb h.x (Nat.le_refl _), blk_keep hb h.y (Nat.le_refl _), h.fr.bstep hb, bstep h.up hb h.up.size⟩
theorem D3.go {w0 wr W W' : World} {p m : Nat} {V : VS} {S T : PS} {sl : Value} {b5 b8 : Nat} (h : D3 w0 wr W p m V S sl b5 b8) (hP : PoolAt W p m T) (hp : w0.heap.size ≤ p) (hm : w0.heap.size ≤ m) (hF : Fr p m W W') : D3 w0 wr W' p m V S sl b5 b8 :=
  ⟨(hF.block b8 (blk_lt h.x) (box_ne h.x hP).1 (box_ne h.x hP).2).trans h.x, (hF.block b5 (blk_lt h.y) (box_ne h.y hP).1 (box_ne h.y hP).2).trans h.y, h.fr.trans hF, hF.up h.up hp hm⟩
theorem D3.set {w0 wr W : World} {p m : Nat} {V : VS} {S : PS} {sl : Value} {b5 b8 b : Nat} (h : D3 w0 wr W p m V S sl b5 b8) (hb : wr.heap.size ≤ b) (h5 : b5 < wr.heap.size) (h8 : b8 < wr.heap.size) (h0 : w0.heap.size ≤ wr.heap.size) (v0 v1 v2 v3 v4 v5 : Value) : D3 w0 wr (set6 W b v0 v1 v2 v3 v4 v5) p m V S sl b5 b8 :=
  ⟨set6_keep h.x (by omega) _ _ _ _ _ _, set6_keep h.y (by omega) _ _ _ _ _ _, (((((h.fr.setn hb 0 v0).setn hb 1 v1).setn hb 2 v2).setn hb 3 v3).setn hb 4 v4).setn hb 5 v5, set6_below h.up (by omega) _ _ _ _ _ _⟩
theorem set6_over {W : World} {b : Nat} {u0 u1 u2 u3 u4 u5 : Value} (h : W.heap[b]? = some (.cells #[u0, u1, u2, u3, u4, u5] 38 (0, 0))) (v0 v1 v2 v3 v4 v5 : Value) : (set6 W b v0 v1 v2 v3 v4 v5).heap[b]? = some (.cells #[v0, v1, v2, v3, v4, v5] 38 (0, 0)) := by
  have q1 := blk_set h 0 v0
  have q2 := blk_set q1 1 v1
  have q3 := blk_set q2 2 v2
  have q4 := blk_set q3 3 v3
  have q5 := blk_set q4 4 v4
  have q6 := blk_set q5 5 v5
  exact q6
theorem set6_rowP {W : World} {b B : Nat} {u0 u1 u2 u3 u4 u5 : Value} (h : W.heap[b]? = some (.cells #[u0, u1, u2, u3, u4, u5] 38 (0, 0))) {v : Value} {L : List Hold} (hr : RowAt W B v L) (v0 v1 v2 v3 v4 v5 : Value) : RowAt (set6 W b v0 v1 v2 v3 v4 v5) B v L := by
  have q1 := blk_set h 0 v0
  have q2 := blk_set q1 1 v1
  have q3 := blk_set q2 2 v2
  have q4 := blk_set q3 3 v3
  have q5 := blk_set q4 4 v4
  exact row_setne (row_setne (row_setne (row_setne (row_setne (row_setne hr h (by decide) v0) q1 (by decide) v1) q2 (by decide) v2) q3 (by decide) v3) q4 (by decide) v4) q5 (by decide) v5
theorem Pair.set6 {w0 W : World} {p m b : Nat} {V : VS} {S : PS} {sl : Value} (h : Pair w0 W p m V S sl) {u0 u1 u2 u3 u4 u5 : Value} (hb : W.heap[b]? = some (.cells #[u0, u1, u2, u3, u4, u5] 38 (0, 0))) (h0 : w0.heap.size ≤ b) (v0 v1 v2 v3 v4 v5 : Value) : Pair w0 (C.set6 W b v0 v1 v2 v3 v4 v5) p m V S sl :=
  ⟨set6_pool h.pool (box_ne hb h.pool).1.symm (box_ne hb h.pool).2.symm _ _ _ _ _ _, h.vl, set6_rowP hb h.row _ _ _ _ _ _, h.v0, h.sim, set6_below h.base h0 _ _ _ _ _ _, h.hp, h.hm⟩
theorem fr6 {W : World} {b : Nat} {cs : Array Value} {t : TypeId} (h : W.heap[b]? = some (.cells cs t (0, 0))) : W.frozen? ⟨b, 0, none⟩ = false ∧ W.frozen? ⟨b, 1, none⟩ = false ∧ W.frozen? ⟨b, 2, none⟩ = false ∧ W.frozen? ⟨b, 3, none⟩ = false ∧ W.frozen? ⟨b, 4, none⟩ = false ∧ W.frozen? ⟨b, 5, none⟩ = false :=
  ⟨blk_frozen h 0, blk_frozen h 1, blk_frozen h 2, blk_frozen h 3, blk_frozen h 4, blk_frozen h 5⟩
theorem sixV {W : World} {b : Nat} {V : VS} {S : PS} {sl : Value} (h : boxAt W b V S sl) :
    W.cell? ⟨b, 0, none⟩ = some (.string S.owner) ∧ W.cell? ⟨b, 1, none⟩ = some (.slice V.a0 V.l0.length V.c0) ∧ W.cell? ⟨b, 2, none⟩ = some (.slice V.a1 V.l1.length V.c1) ∧ W.cell? ⟨b, 3, none⟩ = some (.slice V.a2 V.l2.length V.c2) ∧ W.cell? ⟨b, 4, none⟩ = some sl ∧ W.cell? ⟨b, 5, none⟩ = some (.int .i64 S.req) := six h
abbrev D3c (w0 wr W : World) (p m : Nat) (V : VS) (S : PS) (sl : Value) (b5 b8 : Nat) (a : Addr) (k : Nat) (o : OpS) : Prop :=
  W.cell? ⟨b8, 0, none⟩ = some (.string S.owner) ∧ W.cell? ⟨b8, 1, none⟩ = some (.slice V.a0 V.l0.length V.c0) ∧ W.cell? ⟨b8, 2, none⟩ = some (.slice V.a1 V.l1.length V.c1) ∧ W.cell? ⟨b8, 3, none⟩ = some (.slice V.a2 V.l2.length V.c2) ∧ W.cell? ⟨b8, 4, none⟩ = some sl ∧ W.cell? ⟨b8, 5, none⟩ = some (.int .i64 S.req) ∧
  W.cell? (a.add (k * 9)) = some (.int .u8 o.kd) ∧ W.cell? ⟨(a.add (k * 9)).block, (a.add (k * 9)).off + 1, none⟩ = some (.string o.ak) ∧ W.cell? ⟨(a.add (k * 9)).block, (a.add (k * 9)).off + 2, none⟩ = some (.int .i64 o.aq) ∧ W.cell? ⟨(a.add (k * 9)).block, (a.add (k * 9)).off + 3, none⟩ = some (.string o.bk) ∧ W.cell? ⟨(a.add (k * 9)).block, (a.add (k * 9)).off + 4, none⟩ = some (.int .i64 o.bq) ∧ W.cell? ⟨(a.add (k * 9)).block, (a.add (k * 9)).off + 5, none⟩ = some (.int .i64 o.n) ∧
  W.cell? ⟨(a.add (k * 9)).block, (a.add (k * 9)).off + 6, none⟩ = some (.slice o.V.a0 o.V.l0.length o.V.c0) ∧ W.cell? ⟨(a.add (k * 9)).block, (a.add (k * 9)).off + 7, none⟩ = some (.slice o.V.a1 o.V.l1.length o.V.c1) ∧ W.cell? ⟨(a.add (k * 9)).block, (a.add (k * 9)).off + 8, none⟩ = some (.slice o.V.a2 o.V.l2.length o.V.c2) ∧ D3 w0 wr W p m V S sl b5 b8
theorem D3.cells {w0 wr W : World} {p m : Nat} {V : VS} {S : PS} {sl : Value} {b5 b8 : Nat} (h : D3 w0 wr W p m V S sl b5 b8) {a : Addr} {k : Nat} {o : OpS} (ha : a.block < w0.heap.size) (hc : ∀ j, j < 9 → w0.cell? (a.add (k * 9 + j)) = o.cells[j]?) : D3c w0 wr W p m V S sl b5 b8 a k o := by
  obtain ⟨x0, x1, x2, x3, x4, x5⟩ := six h.x
  have g : ∀ j, j < 9 → W.cell? (a.add (k * 9 + j)) = o.cells[j]? := fun j hj => (h.up.cell (by rw [add_block]; exact ha)).trans (hc j hj)
  have e : ∀ j, (⟨(a.add (k * 9)).block, (a.add (k * 9)).off + (j + 1), none⟩ : Addr) = a.add (k * 9 + (j + 1)) := fun j => by
    rw [← Go.Deep.add_add]
    show _ = Addr.add (a.add (k * 9)) (j + 1)
    unfold Addr.add
    rw [if_neg (Nat.succ_ne_zero j)]
  exact ⟨x0, x1, x2, x3, x4, x5, g 0 (by omega), by rw [e 0]; exact g 1 (by omega), by rw [e 1]; exact g 2 (by omega), by rw [e 2]; exact g 3 (by omega), by rw [e 3]; exact g 4 (by omega), by rw [e 4]; exact g 5 (by omega), by rw [e 5]; exact g 6 (by omega), by rw [e 6]; exact g 7 (by omega), by rw [e 7]; exact g 8 (by omega), h⟩

set_option maxRecDepth 100000 in
set_option maxHeartbeats 8000000 in
theorem build_calls (w0 w : World) (V : VS) (v : Value) (l : List OpS) (hv : VAt w0 w0.heap.size V) (hl : OpsAt w0 w0.heap.size v l) (hb0 : Below w0.heap.size w0 w) :
    Calls Tryz.prog 16 #[aggV V, v] w (BuildPost w0 w (bldF (l.take 30) (new0 V))) := by
  obtain ⟨ao, cap, hsl, hc⟩ := hl.ex
  subst hsl
  have HC := Lib.hid hc
  have HOK := Lib.hid hl.ok
  have hlen := hl.len
  have HV := Lib.hid hv
  have hB := hb0.size
  have HB0 := Lib.hid hb0
  have HB := Lib.hid (((Below.refl w.heap.size w).alloc (Nat.le_refl _) (.cells #[V.x0, V.x1, V.x2] 26)).alloc (by simp) (.cells zeroP 38))
  have HX := Lib.hid (blk_alloc (blk_new w (.cells #[V.x0, V.x1, V.x2] 26)) (.cells zeroP 38))
  have HY : Hid (((w.alloc (.cells #[V.x0, V.x1, V.x2] 26)).alloc (.cells zeroP 38)).heap[w.heap.size + 1]? = some (.cells zeroP 38 (0, 0))) := Lib.hid (by
    have := blk_new (w.alloc (.cells #[V.x0, V.x1, V.x2] 26)) (.cells zeroP 38)
    rw [show (w.alloc (.cells #[V.x0, V.x1, V.x2] 26)).heap.size = w.heap.size + 1 from by simp] at this
    exact this)
  clear hc hl hv hb0
  unfold maxLen at hlen
  unfold zeroP at HB HX HY
  unfold aggV
  unfold VS.x0 VS.x1 VS.x2 at *
  go_enter Tryz.func16, Tryz.ntmps16
  go_wp2_with fail
  generalize (w.alloc (.cells #[.slice V.a0 V.l0.length V.c0, .slice V.a1 V.l1.length V.c1, .slice V.a2 V.l2.length V.c2] 26)).alloc (.cells #[.string ⟨#[]⟩, .slice none 0 0, .slice none 0 0, .slice none 0 0, .slice none 0 0, .int .i64 0] 38) = W1 at HB HX HY ⊢
  have x0 := (blk_cell HX.out 0).trans rfl
  have x1 := (blk_cell HX.out 1).trans rfl
  have x2 := (blk_cell HX.out 2).trans rfl
  go_wp2_with fail
  refine (new_ok W1 bankA (by decide) 35 (.agg #[.slice V.a0 V.l0.length V.c0, .slice V.a1 V.l1.length V.c1, .slice V.a2 V.l2.length V.c2]) bankA_member).mono ?_
  rintro e W2 ⟨p, m, rfl, hP, hp, hm, hb⟩
  have HB2 := Lib.hid (bstep HB.out hb HB.out.size)
  have HX2 := Lib.hid (blk_keep hb HX.out (Nat.le_refl _))
  have HY2 := Lib.hid (blk_keep hb HY.out (Nat.le_refl _))
  have HP2 : Hid (Pair w0 W2 p m V (new0 V).2 (.slice none 0 0)) := Lib.hid ⟨hP, rfl, row_nil _ _, HV.out, sim_new V, HB0.out.trans (HB2.out.mono hB), by have := HB.out.size; omega, by have := HB.out.size; omega⟩
  have hpw : w.heap.size ≤ p := by have := HB.out.size; omega
  have hmw : w.heap.size ≤ m := by have := HB.out.size; omega
  clear hb HB HX HY x0 x1 x2 hP hp hm
  have x0 := (blk_cell HX2.out 0).trans rfl
  have x1 := (blk_cell HX2.out 1).trans rfl
  have x2 := (blk_cell HX2.out 2).trans rfl
  go_wp2_with fail
  refine (refNew_calls W2 V bankA (by decide)).mono ?_
  rw [if_pos bankA_member]
  rintro e W3 ⟨rfl, hb⟩
  unfold VS.x0 VS.x1 VS.x2
  have HB3 := Lib.hid (bstep HB2.out hb HB2.out.size)
  have HY3 := Lib.hid (blk_keep hb HY2.out (Nat.le_refl _))
  have HP3 := Lib.hid (HP2.out.below hb)
  clear hb HB2 HX2 HY2 HP2 x0 x1 x2
  have HS4 : Hid (BSt w0 w (W3.alloc (.cells #[.string bankA, .slice V.a0 V.l0.length V.c0, .slice V.a1 V.l1.length V.c1, .slice V.a2 V.l2.length V.c2, .slice none 0 0, .int .i64 0] 38)) p m V (new0 V).2 (.slice none 0 0) (w.heap.size + 1) W3.heap.size) := Lib.hid
    ⟨HP3.out.below ((Below.refl _ _).alloc (Nat.le_refl _) _), blk_new _ _, blk_alloc HY3.out _, HB3.out.alloc HB3.out.size _⟩
  have hb8 : w.heap.size + 1 < W3.heap.size := blk_lt HY3.out
  clear HB3 HY3 HP3
  go_wp2_with fail
  obtain ⟨b8, hb8e⟩ : ∃ b8, W3.heap.size = b8 := ⟨_, rfl⟩
  rw [hb8e] at HS4 hb8
  simp only [hb8e]
  have HB8 := Lib.hid hb8e
  clear hb8e
  generalize W3.alloc (.cells #[.string bankA, .slice V.a0 V.l0.length V.c0, .slice V.a1 V.l1.length V.c1, .slice V.a2 V.l2.length V.c2, .slice none 0 0, .int .i64 0] 38) = W4 at HS4 ⊢
  go_loopw [10] (fun v10 wr => ∃ k : Nat, k ≤ l.length ∧ k ≤ 30 ∧ v10 = .int .i64 k ∧ Hid (∃ m' sl', BSt w0 w wr p m' (bldF (l.take k) (new0 V)).1 (bldF (l.take k) (new0 V)).2 sl' (w.heap.size + 1) b8 ∧ w.heap.size ≤ m')) (fun v10 _ => 30 - (intOf v10).toNat)
  case atStart => exact ⟨0, Nat.zero_le _, by omega, rfl, Lib.hid ⟨m, .slice none 0 0, HS4.out, hmw⟩⟩
  case round =>
    obtain ⟨k, hk, hk30, rfl, HR⟩ := hrel
    by_cases hlt : k < l.length ∧ k < 30
    · obtain ⟨hlt, hlt3⟩ := hlt
      obtain ⟨m', sl', hr, hm'⟩ := HR.out
      have HNX := Lib.hid (bldF_succ l (new0 V) k hlt)
      generalize bldF (l.take k) (new0 V) = r at hr HNX
      obtain ⟨V', S'⟩ := r
      simp only at hr HNX
      have HOo := Lib.hid (HOK.out l[k] (List.getElem_mem hlt))
      obtain ⟨a, ha, hab, hac⟩ := HC.out k hlt
      subst ha
      have HAC := Lib.hid hac
      generalize l[k] = o at HNX HOo HAC
      obtain ⟨ao2, cap2, hsl2, -⟩ := row_open hr.pair.row
      subst hsl2
      have HS := Lib.hid hr
      clear hr hac HR
      have HD0 := Lib.hid (D3.mk (wr := wr) (p := p) (m := m') HS.out.x HS.out.y (Fr.refl _ _ _) HS.out.pair.base)
      have HPA := HS.out.pair.below (Below.refl _ _).drew
      have HPB := fun ob => HS.out.pair.below (((Below.refl _ _).alloc (Nat.le_refl _) ob).drew)
      have HD : D3c w0 wr wr.drew p m' V' S' (.slice ao2 S'.L.length cap2) (w.heap.size + 1) b8 a k o := (HD0.out.below (Below.refl _ _).drew).cells hab HAC.out
      have HDB : ∀ ob, D3c w0 wr (wr.alloc ob).drew p m' V' S' (.slice ao2 S'.L.length cap2) (w.heap.size + 1) b8 a k o := fun ob => (HD0.out.below (((Below.refl _ _).alloc (Nat.le_refl _) ob).drew)).cells hab HAC.out
      unfold D3c at HD HDB
      have hl5 : w.heap.size + 1 < wr.heap.size := blk_lt HS.out.y
      have hl8 : b8 < wr.heap.size := blk_lt HS.out.x
      have hl0 : w0.heap.size ≤ wr.heap.size := HS.out.pair.base.size
      have hlp : p < wr.heap.size := HS.out.pair.pool.lt
      have hlm : m' < wr.heap.size := HS.out.pair.pool.2.lt
      go_upto_region 8 with fail
      go_region_held3 (fun W => W.cell? ⟨b8, 0, none⟩ = some (.string S'.owner) ∧ W.cell? ⟨b8, 1, none⟩ = some (.slice V'.a0 V'.l0.length V'.c0) ∧ W.cell? ⟨b8, 2, none⟩ = some (.slice V'.a1 V'.l1.length V'.c1) ∧ W.cell? ⟨b8, 3, none⟩ = some (.slice V'.a2 V'.l2.length V'.c2) ∧ W.cell? ⟨b8, 4, none⟩ = some (.slice ao2 S'.L.length cap2) ∧ W.cell? ⟨b8, 5, none⟩ = some (.int .i64 S'.req) ∧
          W.cell? (a.add (k * 9)) = some (.int .u8 o.kd) ∧ W.cell? ⟨(a.add (k * 9)).block, (a.add (k * 9)).off + 1, none⟩ = some (.string o.ak) ∧ W.cell? ⟨(a.add (k * 9)).block, (a.add (k * 9)).off + 2, none⟩ = some (.int .i64 o.aq) ∧ W.cell? ⟨(a.add (k * 9)).block, (a.add (k * 9)).off + 3, none⟩ = some (.string o.bk) ∧ W.cell? ⟨(a.add (k * 9)).block, (a.add (k * 9)).off + 4, none⟩ = some (.int .i64 o.bq) ∧ W.cell? ⟨(a.add (k * 9)).block, (a.add (k * 9)).off + 5, none⟩ = some (.int .i64 o.n) ∧
          W.cell? ⟨(a.add (k * 9)).block, (a.add (k * 9)).off + 6, none⟩ = some (.slice o.V.a0 o.V.l0.length o.V.c0) ∧ W.cell? ⟨(a.add (k * 9)).block, (a.add (k * 9)).off + 7, none⟩ = some (.slice o.V.a1 o.V.l1.length o.V.c1) ∧ W.cell? ⟨(a.add (k * 9)).block, (a.add (k * 9)).off + 8, none⟩ = some (.slice o.V.a2 o.V.l2.length o.V.c2) ∧ D3 w0 wr W p m' V' S' (.slice ao2 S'.L.length cap2) (w.heap.size + 1) b8)
        (first | with_reducible exact HD | with_reducible exact HDB _ | with_reducible exact HH4 | with_reducible exact HH4a _ | with_reducible exact HH5 | with_reducible trivial)
        (first
          | (go_at_call 15
             refine (do_calls w0 _ p m' V' S' (.slice ao2 S'.L.length cap2) o (by first | with_reducible exact HPA | with_reducible exact HPB _) HOo.out.1 HOo.out.2).mono ?_
             rintro e W5 ⟨m2, sl2, rfl, hp5, hF5, hm5⟩
             have HK5 := Lib.hid (fun (b : Nat) (ob : Obj) (h : _ = some ob) (h1 : b ≠ p) (h2 : b ≠ m') => (hF5.block b (blk_lt h) h1 h2).trans h)
             have HD5 : Hid (D3 w0 wr W5 p m' V' S' (.slice ao2 S'.L.length cap2) (w.heap.size + 1) b8) := by
               first
                 | with_reducible exact Lib.hid ((HD0.out.below (Below.refl _ _).drew).go HPA.pool HS.out.pair.hp HS.out.pair.hm hF5)
                 | with_reducible exact Lib.hid ((HD0.out.below (((Below.refl _ _).alloc (Nat.le_refl _) _).drew)).go (HPB _).pool HS.out.pair.hp HS.out.pair.hm hF5)
             have HH4 : D3c w0 wr W5 p m' V' S' (.slice ao2 S'.L.length cap2) (w.heap.size + 1) b8 a k o := HD5.out.cells hab HAC.out
             have HH4a : ∀ ob, D3c w0 wr (W5.alloc ob) p m' V' S' (.slice ao2 S'.L.length cap2) (w.heap.size + 1) b8 a k o := fun ob => (HD5.out.below ((Below.refl _ _).alloc (Nat.le_refl _) ob)).cells hab HAC.out
             have HP5 := Lib.hid hp5
             have HM5 := Lib.hid hm5
             obtain ⟨ao3, cap3, hsl3, -⟩ := row_open hp5.row
             subst hsl3
             unfold D3c at HH4 HH4a
             generalize doF o V' S' = r2 at HNX HP5 ⊢
             obtain ⟨V2, S2⟩ := r2
             unfold rP VS.x0 VS.x1 VS.x2
             simp only at HP5 HNX ⊢
             clear hp5 hm5 hF5
             first
               | (with_reducible have HZ0 := HK5.out _ _ (blk_drew (blk_new wr (.cells #[.string ⟨#[]⟩, .slice none 0 0, .slice none 0 0, .slice none 0 0, .slice none 0 0, .int .i64 0] 38)))
                  have HZ : Hid (W5.heap[wr.heap.size]? = some (.cells zeroP 38 (0, 0))) := Lib.hid (HZ0 (by omega) (by omega))
                  clear HZ0
                  obtain ⟨⟨d0, d1, d2, d3, d4, d5⟩, g0, g1, g2, g3, g4, g5⟩ := zcells HZ.out
                  have HD6 := Lib.hid (HD5.out.set (b := wr.heap.size) (Nat.le_refl _) hl5 hl8 hl0 (.string S2.owner) (.slice V2.a0 V2.l0.length V2.c0) (.slice V2.a1 V2.l1.length V2.c1) (.slice V2.a2 V2.l2.length V2.c2) (.slice ao3 S2.L.length cap3) (.int .i64 S2.req))
                  have HH5 : D3c w0 wr _ p m' V' S' (.slice ao2 S'.L.length cap2) (w.heap.size + 1) b8 a k o := HD6.out.cells hab HAC.out
                  unfold D3c set6 at HH5)
               | skip))
      all_goals
        have HB5 : Hid (Below w.heap.size w W5) := Lib.hid (HS.out.b.trans (HD5.out.fr.below hpw hm' HS.out.b.size))
        have hw5 : wr.heap.size ≤ W5.heap.size := HD5.out.fr.size
        have hm2 : w.heap.size ≤ m2 := by have := HM5.out; simp at this; omega
      · have HE : Hid (Pair w0 (W5.alloc (.cells #[.string S2.owner, .slice V2.a0 V2.l0.length V2.c0, .slice V2.a1 V2.l1.length V2.c1, .slice V2.a2 V2.l2.length V2.c2, .slice ao3 S2.L.length cap3, .int .i64 S2.req] 38)) p m2 V2 S2 (.slice ao3 S2.L.length cap3)) := Lib.hid (HP5.out.below ((Below.refl _ _).alloc (Nat.le_refl _) _))
        have HX11 : Hid (boxAt (W5.alloc (.cells #[.string S2.owner, .slice V2.a0 V2.l0.length V2.c0, .slice V2.a1 V2.l1.length V2.c1, .slice V2.a2 V2.l2.length V2.c2, .slice ao3 S2.L.length cap3, .int .i64 S2.req] 38)) W5.heap.size V2 S2 (.slice ao3 S2.L.length cap3)) := Lib.hid (blk_new _ _)
        have HX8 : Hid (boxAt (W5.alloc (.cells #[.string S2.owner, .slice V2.a0 V2.l0.length V2.c0, .slice V2.a1 V2.l1.length V2.c1, .slice V2.a2 V2.l2.length V2.c2, .slice ao3 S2.L.length cap3, .int .i64 S2.req] 38)) b8 V' S' (.slice ao2 S'.L.length cap2)) := Lib.hid (blk_alloc HD5.out.x _)
        have HY6 : Hid (_ = _) := Lib.hid (blk_alloc HD5.out.y (.cells #[.string S2.owner, .slice V2.a0 V2.l0.length V2.c0, .slice V2.a1 V2.l1.length V2.c1, .slice V2.a2 V2.l2.length V2.c2, .slice ao3 S2.L.length cap3, .int .i64 S2.req] 38))
        have HB6 := Lib.hid (HB5.out.alloc HB5.out.size (.cells #[.string S2.owner, .slice V2.a0 V2.l0.length V2.c0, .slice V2.a1 V2.l1.length V2.c1, .slice V2.a2 V2.l2.length V2.c2, .slice ao3 S2.L.length cap3, .int .i64 S2.req] 38))
        rename_i hHeld
        clear hHeld HD HDB HH4 HH4a HPA HPB
        generalize W5.alloc (.cells #[.string S2.owner, .slice V2.a0 V2.l0.length V2.c0, .slice V2.a1 V2.l1.length V2.c1, .slice V2.a2 V2.l2.length V2.c2, .slice ao3 S2.L.length cap3, .int .i64 S2.req] 38) = W6 at HE HX11 HX8 HY6 HB6 ⊢
        obtain ⟨x0, x1, x2, x3, x4, x5⟩ := sixV HX11.out
        obtain ⟨y0, y1, y2, y3, y4, y5⟩ := sixV HX8.out
        obtain ⟨f0, f1, f2, f3, f4, f5⟩ := fr6 HX8.out
        go_wp2_with fail
        have HE7 := Lib.hid (HE.out.set6 HX8.out (show w0.heap.size ≤ b8 by omega) (.string S2.owner) (.slice V2.a0 V2.l0.length V2.c0) (.slice V2.a1 V2.l1.length V2.c1) (.slice V2.a2 V2.l2.length V2.c2) (.slice ao3 S2.L.length cap3) (.int .i64 S2.req))
        have HX7 : Hid (boxAt _ b8 V2 S2 (.slice ao3 S2.L.length cap3)) := Lib.hid (set6_over HX8.out (.string S2.owner) (.slice V2.a0 V2.l0.length V2.c0) (.slice V2.a1 V2.l1.length V2.c1) (.slice V2.a2 V2.l2.length V2.c2) (.slice ao3 S2.L.length cap3) (.int .i64 S2.req))
        have HY7 := Lib.hid (set6_keep HY6.out (show w.heap.size + 1 ≠ b8 by omega) (.string S2.owner) (.slice V2.a0 V2.l0.length V2.c0) (.slice V2.a1 V2.l1.length V2.c1) (.slice V2.a2 V2.l2.length V2.c2) (.slice ao3 S2.L.length cap3) (.int .i64 S2.req))
        have HB7 := Lib.hid (set6_below HB6.out (show w.heap.size ≤ b8 by omega) (.string S2.owner) (.slice V2.a0 V2.l0.length V2.c0) (.slice V2.a1 V2.l1.length V2.c1) (.slice V2.a2 V2.l2.length V2.c2) (.slice ao3 S2.L.length cap3) (.int .i64 S2.req))
        unfold set6 at HE7 HX7 HY7 HB7
        clear x0 x1 x2 x3 x4 x5 y0 y1 y2 y3 y4 y5 f0 f1 f2 f3 f4 f5
        generalize (((((W6.setCell _ _).setCell _ _).setCell _ _).setCell _ _).setCell _ _).setCell _ _ = W7 at HE7 HX7 HY7 HB7 ⊢
        go_wp2
        exact ⟨⟨k + 1, by omega, by omega, by go_num, Lib.hid (by rw [HNX.out]; exact ⟨m2, _, ⟨HE7.out, HX7.out, HY7.out, HB7.out⟩, hm2⟩)⟩, by simp [intOf]; omega⟩
      · have HE := Lib.hid (HP5.out.set6 HZ.out hl0 (.string S2.owner) (.slice V2.a0 V2.l0.length V2.c0) (.slice V2.a1 V2.l1.length V2.c1) (.slice V2.a2 V2.l2.length V2.c2) (.slice ao3 S2.L.length cap3) (.int .i64 S2.req))
        have HX11 : Hid (boxAt _ wr.heap.size V2 S2 (.slice ao3 S2.L.length cap3)) := Lib.hid (set6_over HZ.out (.string S2.owner) (.slice V2.a0 V2.l0.length V2.c0) (.slice V2.a1 V2.l1.length V2.c1) (.slice V2.a2 V2.l2.length V2.c2) (.slice ao3 S2.L.length cap3) (.int .i64 S2.req))
        have HX8 : Hid (boxAt _ b8 V' S' (.slice ao2 S'.L.length cap2)) := Lib.hid (set6_keep HD5.out.x (show b8 ≠ wr.heap.size by omega) (.string S2.owner) (.slice V2.a0 V2.l0.length V2.c0) (.slice V2.a1 V2.l1.length V2.c1) (.slice V2.a2 V2.l2.length V2.c2) (.slice ao3 S2.L.length cap3) (.int .i64 S2.req))
        have HY6 := Lib.hid (set6_keep HD5.out.y (show w.heap.size + 1 ≠ wr.heap.size by omega) (.string S2.owner) (.slice V2.a0 V2.l0.length V2.c0) (.slice V2.a1 V2.l1.length V2.c1) (.slice V2.a2 V2.l2.length V2.c2) (.slice ao3 S2.L.length cap3) (.int .i64 S2.req))
        have HB6 := Lib.hid (set6_below HB5.out (show w.heap.size ≤ wr.heap.size by omega) (.string S2.owner) (.slice V2.a0 V2.l0.length V2.c0) (.slice V2.a1 V2.l1.length V2.c1) (.slice V2.a2 V2.l2.length V2.c2) (.slice ao3 S2.L.length cap3) (.int .i64 S2.req))
        unfold set6 at HE HX11 HX8 HY6 HB6
        rename_i hHeld
        clear hHeld HD HDB HH4 HH4a HH5 HPA HPB d0 d1 d2 d3 d4 d5 g0 g1 g2 g3 g4 g5
        generalize (((((W5.setCell _ _).setCell _ _).setCell _ _).setCell _ _).setCell _ _).setCell _ _ = W6 at HE HX11 HX8 HY6 HB6 ⊢
        obtain ⟨x0, x1, x2, x3, x4, x5⟩ := sixV HX11.out
        obtain ⟨y0, y1, y2, y3, y4, y5⟩ := sixV HX8.out
        obtain ⟨f0, f1, f2, f3, f4, f5⟩ := fr6 HX8.out
        go_wp2_with fail
        have HE7 := Lib.hid (HE.out.set6 HX8.out (show w0.heap.size ≤ b8 by omega) (.string S2.owner) (.slice V2.a0 V2.l0.length V2.c0) (.slice V2.a1 V2.l1.length V2.c1) (.slice V2.a2 V2.l2.length V2.c2) (.slice ao3 S2.L.length cap3) (.int .i64 S2.req))
        have HX7 : Hid (boxAt _ b8 V2 S2 (.slice ao3 S2.L.length cap3)) := Lib.hid (set6_over HX8.out (.string S2.owner) (.slice V2.a0 V2.l0.length V2.c0) (.slice V2.a1 V2.l1.length V2.c1) (.slice V2.a2 V2.l2.length V2.c2) (.slice ao3 S2.L.length cap3) (.int .i64 S2.req))
        have HY7 := Lib.hid (set6_keep HY6.out (show w.heap.size + 1 ≠ b8 by omega) (.string S2.owner) (.slice V2.a0 V2.l0.length V2.c0) (.slice V2.a1 V2.l1.length V2.c1) (.slice V2.a2 V2.l2.length V2.c2) (.slice ao3 S2.L.length cap3) (.int .i64 S2.req))
        have HB7 := Lib.hid (set6_below HB6.out (show w.heap.size ≤ b8 by omega) (.string S2.owner) (.slice V2.a0 V2.l0.length V2.c0) (.slice V2.a1 V2.l1.length V2.c1) (.slice V2.a2 V2.l2.length V2.c2) (.slice ao3 S2.L.length cap3) (.int .i64 S2.req))
        unfold set6 at HE7 HX7 HY7 HB7
        clear x0 x1 x2 x3 x4 x5 y0 y1 y2 y3 y4 y5 f0 f1 f2 f3 f4 f5
        generalize (((((W6.setCell _ _).setCell _ _).setCell _ _).setCell _ _).setCell _ _).setCell _ _ = W7 at HE7 HX7 HY7 HB7 ⊢
        go_wp2
        exact ⟨⟨k + 1, by omega, by omega, by go_num, Lib.hid (by rw [HNX.out]; exact ⟨m2, _, ⟨HE7.out, HX7.out, HY7.out, HB7.out⟩, hm2⟩)⟩, by simp [intOf]; omega⟩
    · have hke : l.take k = l.take 30 := by
        by_cases h : k < l.length
        · rw [show k = 30 from by omega]
        · rw [List.take_of_length_le (by omega), List.take_of_length_le (by omega)]
      rw [hke] at HR
      clear hke
      obtain ⟨m', sl', hr, hm'⟩ := HR.out
      obtain ⟨ao2, cap2, hsl2, -⟩ := row_open hr.pair.row
      subst hsl2
      have HS := Lib.hid hr
      clear hr HR
      obtain ⟨r, hr⟩ : ∃ r, bldF (l.take 30) (new0 V) = r := ⟨_, rfl⟩
      rw [hr] at HS
      obtain ⟨V', S'⟩ := r
      have HRR := Lib.hid hr
      clear hr
      simp only at HS
      obtain ⟨y0, y1, y2, y3, y4, y5⟩ := sixV HS.out.x
      obtain ⟨⟨d0, d1, d2, d3, d4, d5⟩, g0, g1, g2, g3, g4, g5⟩ := zcells HS.out.y
      by_cases hkl : k < l.length
      all_goals go_wp2
      all_goals go_region
      all_goals
        have HE := Lib.hid (HS.out.pair.set6 HS.out.y (show w0.heap.size ≤ w.heap.size + 1 by omega) (.string S'.owner) (.slice V'.a0 V'.l0.length V'.c0) (.slice V'.a1 V'.l1.length V'.c1) (.slice V'.a2 V'.l2.length V'.c2) (.slice ao2 S'.L.length cap2) (.int .i64 S'.req))
        have z6 := six (set6_blk HS.out.y (.string S'.owner) (.slice V'.a0 V'.l0.length V'.c0) (.slice V'.a1 V'.l1.length V'.c1) (.slice V'.a2 V'.l2.length V'.c2) (.slice ao2 S'.L.length cap2) (.int .i64 S'.req))
        have HB6 := Lib.hid (set6_below HS.out.b (show w.heap.size ≤ w.heap.size + 1 by omega) (.string S'.owner) (.slice V'.a0 V'.l0.length V'.c0) (.slice V'.a1 V'.l1.length V'.c1) (.slice V'.a2 V'.l2.length V'.c2) (.slice ao2 S'.L.length cap2) (.int .i64 S'.req))
        unfold set6 at HE z6 HB6
        clear y0 y1 y2 y3 y4 y5 d0 d1 d2 d3 d4 d5 g0 g1 g2 g3 g4 g5
        generalize (((((wr.setCell _ _).setCell _ _).setCell _ _).setCell _ _).setCell _ _).setCell _ _ = WF at HE z6 HB6 ⊢
        obtain ⟨z0, z1, z2, z3, z4, z5⟩ := z6
        go_wp2_with fail
        refine bodyPost_ret (v := .tuple #[.pointer (some ⟨p, 0, none⟩), .agg #[.string S'.owner, .slice V'.a0 V'.l0.length V'.c0, .slice V'.a1 V'.l1.length V'.c1, .slice V'.a2 V'.l2.length V'.c2, .slice ao2 S'.L.length cap2, .int .i64 S'.req]]) ?_ rfl
          (by rw [HRR.out]; exact ⟨p, m', .slice ao2 S'.L.length cap2, rfl, HE.out.below (Below.refl _ _).drew, HB6.out.drew, hpw, hm'⟩)
        simp [results, Tryz.results16, go_sem, z0, z1, z2, z3, z4, z5]
end Go.Proofs.YtjjnljfphaimgaaGreatDoor.C
/- girolaw34.known: the example of the chapter. -/
namespace Go.Proofs.YtjjnljfphaimgaaGreatDoor.C
open Go Go.RowKit Go.Shelf Go.Proofs

def knV (b : Nat) : VS := ⟨some ⟨b, 0, none⟩, some ⟨b + 1, 0, none⟩, some ⟨b + 1 + 1, 0, none⟩, 1, 1, 1, [isinUS], [90], [0]⟩
theorem knV_f (b : Nat) (q : Int) (h0 : 0 ≤ q) (h1 : q ≤ 100) : fV (knV b) isinUS q = (9 * q, 0) := by
  have e : vlook (knV b).rows isinUS = some (90, 0) := by
    show (if isinUS = isinUS then some ((90 : Int), (0 : Int)) else _) = _
    rw [if_pos rfl]
  unfold fV
  rw [e]
  simp only
  rw [if_neg (by simp), show max q 0 = q from by omega, show vnum 90 = 90 from rfl, tenth]
  congr 1
  omega
def kn1 (b : Nat) : PS := ⟨bankA, .iface 35 (.agg #[(knV b).x0, (knV b).x1, (knV b).x2]), [⟨isinUS, 10, 90⟩], 0, 90⟩
def kn0 (b : Nat) : PS := ⟨bankA, .iface 35 (.agg #[(knV b).x0, (knV b).x1, (knV b).x2]), [], 0, 0⟩
theorem kn_pledge (b : Nat) : pledgeF (fV (knV b)) (kn0 b) isinUS 10 = (0, kn1 b) := by
  have hq : qty (kn0 b).L isinUS = 0 := rfl
  have hv : val (kn0 b).L isinUS = 0 := rfl
  have hf := knV_f b 10 (by omega) (by omega)
  have e : qty (kn0 b).L isinUS + 10 = 10 := by rw [hq]; rfl
  rw [pledge_of isinUS_isin (by omega) (by rw [e]; omega) (fun _ => by show 0 < 1024; omega) (by rw [e, hf]) (by rw [e, hf, hv]; show (0 : Int) + (9 * 10 - 0) ≤ _; omega)]
  show (0, ({ kn0 b with L := updL (kn0 b).L ⟨isinUS, qty (kn0 b).L isinUS + 10, (fV (knV b) isinUS (qty (kn0 b).L isinUS + 10)).1⟩, value := (kn0 b).value + ((fV (knV b) isinUS (qty (kn0 b).L isinUS + 10)).1 - val (kn0 b).L isinUS) } : PS)) = _
  rw [e, hf, hv]
  rfl
theorem kn_find (b : Nat) : find (kn1 b).L isinUS = some ⟨isinUS, 10, 90⟩ := by
  show find [_] isinUS = _
  rw [find_cons, if_pos rfl]
theorem kn_qty (b : Nat) : qty (kn1 b).L isinUS = 10 := by unfold qty; rw [kn_find]; rfl
theorem kn_val (b : Nat) : val (kn1 b).L isinUS = 90 := by unfold val; rw [kn_find]; rfl
theorem kn_has (b : Nat) : has (kn1 b).L isinUS = true := by rw [has_find, kn_find]; rfl
theorem kn_require (b : Nat) : requireF (kn1 b) 50 = (0, { kn1 b with req := 50 }) := by
  unfold requireF
  rw [if_neg (by omega), if_neg (by show ¬ (90 : Int) < 50; omega)]
theorem kn_worth (b : Nat) (q : Int) (h0 : 0 ≤ q) (h1 : q ≤ 100) : worthF (fV (knV b)) isinUS q = (q, 9 * q, 0) := by
  unfold worthF
  split
  · rename_i h; subst h; rfl
  · rw [knV_f b q h0 h1]
theorem kn_refused (b : Nat) (i : Int) (h0 : 0 ≤ i) (h1 : i < 10) : refused (fV (knV b)) { kn1 b with req := 50 } isinUS i = decide (9 * (9 - i) < 50) := by
  unfold refused
  rw [show qty ({ kn1 b with req := 50 } : PS).L isinUS = 10 from kn_qty b, show val ({ kn1 b with req := 50 } : PS).L isinUS = 90 from kn_val b, kn_worth b _ (by omega) (by omega)]
  show (decide ((0 : Int) ≠ 0) || decide ((90 : Int) - 90 + 9 * (10 - i - 1) < 50)) = _
  rw [show (90 : Int) - 90 + 9 * (10 - i - 1) = 9 * (9 - i) from by omega]
  simp
theorem kn_search {b : Nat} {r : Int} (h0 : 0 ≤ r) (h1 : r ≤ 10) (h2 : r < 10 → refused (fV (knV b)) { kn1 b with req := 50 } isinUS r = true) (h3 : 0 < r → refused (fV (knV b)) { kn1 b with req := 50 } isinUS (r - 1) = false) : r = 4 := by
  have a : r < 10 → 9 * (9 - r) < 50 := fun h => by have := h2 h; rw [kn_refused b r h0 h] at this; simpa using this
  have c : 0 < r → ¬ 9 * (9 - (r - 1)) < 50 := fun h => by have := h3 h; rw [kn_refused b (r - 1) (by omega) (by omega)] at this; simpa using this
  by_cases e : r < 10
  · have := a e
    by_cases e' : 0 < r
    · have := c e'; omega
    · omega
  · have := c (by omega); omega
theorem kn_release (b : Nat) : releaseF (fV (knV b)) { kn1 b with req := 50 } isinUS 5 = (25, { kn1 b with req := 50 }) := by
  unfold releaseF
  rw [show ckRel ({ kn1 b with req := 50 } : PS).L isinUS 5 = 0 from by
    unfold ckRel
    rw [show has ({ kn1 b with req := 50 } : PS).L isinUS = true from kn_has b, show qty ({ kn1 b with req := 50 } : PS).L isinUS = 10 from kn_qty b]; rfl]
  rw [if_neg (by simp), show qty ({ kn1 b with req := 50 } : PS).L isinUS = 10 from kn_qty b, kn_worth b _ (by omega) (by omega)]
  simp only
  rw [if_neg (by simp)]
  unfold applyF
  rw [apply_one]
  simp only
  rw [show val (kn1 b).L isinUS = 90 from kn_val b]
  rw [if_neg (by show ¬ (1000000000000000 : Int) < 90 + _; omega), if_pos ⟨trivial, by show (90 : Int) + _ < 50; omega⟩]
theorem kn_sim0 (b : Nat) : Sim (fV (knV b)) (kn0 b) :=
  ⟨⟨by show (0 : Int) ≤ 0; omega, by show (0 : Int) ≤ _; omega, by show (0 : Int) ≤ 0; omega, by show (0 : Int) ≤ _; omega, (by intro h hm; cases hm), (by intro h hm; cases hm), (by intro h hm; cases hm), (by intro h hm; cases hm), by show 0 ≤ 1024; omega⟩, List.Pairwise.nil, (by intro h hm; cases hm), rfl, (by intro h hm; cases hm)⟩
theorem kn_sim1 (b : Nat) : Sim (fV (knV b)) (kn1 b) := by
  have := pledge_keep (fV_ok (knV b)).nn (kn_sim0 b) isinUS 10
  rw [kn_pledge] at this; exact this
theorem kn_sim2 (b : Nat) : Sim (fV (knV b)) { kn1 b with req := 50 } := by
  have := require_keep (kn_sim1 b) 50
  rw [kn_require] at this; exact this
set_option maxRecDepth 100000 in
set_option maxHeartbeats 8000000 in
theorem known_calls (w : World) : Calls Tryz.prog 11 #[] w fun e w' => e = .returned (.bool true) ∧ Below w.heap.size w w' := by
  go_enter Tryz.func11, Tryz.ntmps11
  go_wp2_with fail
  have HVK : Hid (VAt (((w.alloc (.cells #[.string ⟨#[85, 83, 48, 51, 55, 56, 51, 51, 49, 48, 48, 53]⟩] 9)).alloc (.cells #[.int .i64 90] 2)).alloc (.cells #[.int .i64 0] 3))
      (((w.alloc (.cells #[.string ⟨#[85, 83, 48, 51, 55, 56, 51, 51, 49, 48, 48, 53]⟩] 9)).alloc (.cells #[.int .i64 90] 2)).alloc (.cells #[.int .i64 0] 3)).heap.size (knV w.heap.size)) := Lib.hid (by
    have hz : (((w.alloc (.cells #[.string ⟨#[85, 83, 48, 51, 55, 56, 51, 51, 49, 48, 48, 53]⟩] 9)).alloc (.cells #[.int .i64 90] 2)).alloc (.cells #[.int .i64 0] 3)).heap.size = w.heap.size + 3 := by simp
    have b0 := blk_alloc (blk_alloc (blk_new w (.cells #[.string ⟨#[85, 83, 48, 51, 55, 56, 51, 51, 49, 48, 48, 53]⟩] 9)) (.cells #[.int .i64 90] 2)) (.cells #[.int .i64 0] 3)
    have b1 := blk_alloc (blk_new (w.alloc (.cells #[.string ⟨#[85, 83, 48, 51, 55, 56, 51, 51, 49, 48, 48, 53]⟩] 9)) (.cells #[.int .i64 90] 2)) (.cells #[.int .i64 0] 3)
    have b2 := blk_new ((w.alloc (.cells #[.string ⟨#[85, 83, 48, 51, 55, 56, 51, 51, 49, 48, 48, 53]⟩] 9)).alloc (.cells #[.int .i64 90] 2)) (.cells #[.int .i64 0] 3)
    rw [show (w.alloc (.cells #[.string ⟨#[85, 83, 48, 51, 55, 56, 51, 51, 49, 48, 48, 53]⟩] 9)).heap.size = w.heap.size + 1 from by simp] at b1
    rw [show ((w.alloc (.cells #[.string ⟨#[85, 83, 48, 51, 55, 56, 51, 51, 49, 48, 48, 53]⟩] 9)).alloc (.cells #[.int .i64 90] 2)).heap.size = w.heap.size + 1 + 1 from by simp] at b2
    rw [hz]
    refine ⟨?_, ?_, ?_, ?_, ?_, (by show (1 : Nat) ≤ 10; omega), (by show (1 : Nat) ≤ 10; omega), (by show (1 : Nat) ≤ 10; omega)⟩
    · intro i hi
      obtain rfl : i = 0 := by have : i < 1 := hi; omega
      exact ⟨⟨w.heap.size, 0, none⟩, rfl, by show w.heap.size < _; omega, (blk_cell b0 0).trans rfl⟩
    · intro i hi
      obtain rfl : i = 0 := by have : i < 1 := hi; omega
      exact ⟨⟨w.heap.size + 1, 0, none⟩, rfl, by show w.heap.size + 1 < _; omega, (blk_cell b1 0).trans rfl⟩
    · intro i hi
      obtain rfl : i = 0 := by have : i < 1 := hi; omega
      exact ⟨⟨w.heap.size + 1 + 1, 0, none⟩, rfl, by show w.heap.size + 1 + 1 < _; omega, (blk_cell b2 0).trans rfl⟩
    · intro x hx; have : x = 90 := by simpa [knV] using hx
      omega
    · intro x hx; have : x = 0 := by simpa [knV] using hx
      omega)
  have HB := Lib.hid ((((Below.refl w.heap.size w).alloc (Nat.le_refl _) (.cells #[.string ⟨#[85, 83, 48, 51, 55, 56, 51, 51, 49, 48, 48, 53]⟩] 9)).alloc (by simp) (.cells #[.int .i64 90] 2)).alloc (by simp; omega) (.cells #[.int .i64 0] 3))
  generalize ((w.alloc (.cells #[.string ⟨#[85, 83, 48, 51, 55, 56, 51, 51, 49, 48, 48, 53]⟩] 9)).alloc (.cells #[.int .i64 90] 2)).alloc (.cells #[.int .i64 0] 3) = W1 at HVK HB ⊢
  refine (new_ok W1 bankA (by decide) 35 (.agg #[(knV w.heap.size).x0, (knV w.heap.size).x1, (knV w.heap.size).x2]) bankA_member).mono ?_
  rintro e W2 ⟨p, m, rfl, hP, hp, hm, hb⟩
  have HW2 := Lib.hid hb
  have HP2 : Hid (PoolAt W2 p m (kn0 w.heap.size)) := Lib.hid hP
  clear hP hb
  go_wp2_with fail
  refine (pledge_calls W2 p m (kn0 w.heap.size) isinUS (by decide) 10 35 (aggV (knV w.heap.size)) W1.heap.size W1 (fV (knV w.heap.size)) 135 (aggV (knV w.heap.size)) HP2.out (kn_sim0 w.heap.size).ok (isValuer_prices HVK.out) rfl HW2.out HW2.out.size (by decide) (fV_range' _)).mono ?_
  rw [kn_pledge]
  rintro e W3 ⟨rfl, hP, hF⟩
  have HP3 := Lib.hid hP
  have HW3 := Lib.hid (hF.up HW2.out hp hm)
  clear hP hF HP2 HW2
  have HV3 := Lib.hid (value_calls W3 p m (kn1 w.heap.size) HP3.out)
  go_wp2_with fail
  refine HV3.out.mono ?_
  rintro e w' ⟨rfl, rfl⟩
  clear HV3
  rw [show (kn1 w.heap.size).value = 90 from rfl]
  go_wp2_with fail
  refine (require_calls W3 p m (kn1 w.heap.size) 50 HP3.out).mono ?_
  rw [kn_require]
  rintro e W4 ⟨rfl, hP, hF⟩
  have HP4 := Lib.hid hP
  have HW4 := Lib.hid (hF.up HW3.out hp hm)
  clear hP hF HP3 HW3
  go_wp2_with fail
  refine (maxRelease_calls W4 p m { kn1 w.heap.size with req := 50 } isinUS 35 (aggV (knV w.heap.size)) W1.heap.size W1 (fV (knV w.heap.size)) 135 (aggV (knV w.heap.size)) HP4.out (kn_sim2 w.heap.size).ok (isValuer_prices HVK.out) rfl HW4.out HW4.out.size (by decide) (fV_range' _)).mono ?_
  rw [show qty ({ kn1 w.heap.size with req := 50 } : PS).L isinUS = 10 from kn_qty w.heap.size]
  rintro e W5 ⟨r, rfl, r0, r1, r2, r3, hb⟩
  obtain rfl := kn_search r0 r1 r2 r3
  have HP5 := Lib.hid (HP4.out.below hb HP4.out.lt HP4.out.2.lt)
  have HW5 := Lib.hid (bstep HW4.out hb HW4.out.size)
  clear hb HP4 HW4 r0 r1 r2 r3
  go_wp2_with fail
  refine (release_calls W5 p m { kn1 w.heap.size with req := 50 } isinUS 5 35 (aggV (knV w.heap.size)) W1.heap.size W1 (fV (knV w.heap.size)) 135 (aggV (knV w.heap.size)) HP5.out (kn_sim2 w.heap.size).ok (isValuer_prices HVK.out) rfl HW5.out HW5.out.size (by decide) (fV_range' _)).mono ?_
  rw [kn_release]
  rintro e W6 ⟨rfl, hP, hF⟩
  have HP6 := Lib.hid hP
  have HW6 := Lib.hid (hF.up HW5.out hp hm)
  clear hP hF HP5 HW5
  have HX6 := Lib.hid (excess_calls W6 p m { kn1 w.heap.size with req := 50 } HP6.out (kn_sim2 w.heap.size).ok.v0 (kn_sim2 w.heap.size).ok.v1 (kn_sim2 w.heap.size).ok.r0 (kn_sim2 w.heap.size).ok.r1)
  go_wp2_with fail
  refine HX6.out.mono ?_
  rintro e w' ⟨rfl, rfl⟩
  clear HX6
  rw [show ({ kn1 w.heap.size with req := 50 } : PS).value - ({ kn1 w.heap.size with req := 50 } : PS).req = 40 from rfl]
  go_wp2_with fail
  go_ret
  exact ⟨rfl, HB.out.trans (HW6.out.mono HB.out.size)⟩
end Go.Proofs.YtjjnljfphaimgaaGreatDoor.C
