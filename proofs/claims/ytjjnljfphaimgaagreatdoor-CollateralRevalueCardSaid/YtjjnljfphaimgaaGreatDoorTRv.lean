/- For every two valuations, list of operations and asset, girolaw34.CollateralRevalue returns true and leaves its arguments as they were. Conditions: the row's own (the listed package variables start as the program's text lays them; the card ties them to the text). -/
import Derived.SevenTiedAt
import Derived.Test.YtjjnljfphaimgaaGreatDoorRows
import Derived.Test.YtjjnljfphaimgaaGreatDoorCards
import Derived.Test.YtjjnljfphaimgaaGreatDoorTie
import Derived.Test.YtjjnljfphaimgaaGreatDoorK15
set_option linter.all false
/- girolaw34.CollateralRevalue. (Printed by genlaw34.py.) -/
namespace Go.Proofs.YtjjnljfphaimgaaGreatDoor.C
open Go Go.RowKit Go.Shelf Go.Proofs

set_option maxRecDepth 100000 in
set_option maxHeartbeats 16000000 in
theorem revalue_law (w : World) (V V2 : VS) (v : Value) (l : List OpS) (k : ByteArray) (hv : VOk w V) (hv2 : VOk w V2) (hl : OpsAt w w.heap.size v l) (hk : k.size ≤ maxLen) :
    Calls Tryz.prog 8 #[aggV V, aggV V2, v, .string k] w (LawPost w) := by
  obtain ⟨ao, cap, hsl, -⟩ := hl.ex
  subst hsl
  have HL := Lib.hid hl
  have hlen := hl.len
  have HV := Lib.hid hv
  have HVV := Lib.hid hv2
  have HB := Lib.hid (((Below.refl w.heap.size w).alloc (Nat.le_refl _) (.cells #[V.x0, V.x1, V.x2] 26)).alloc (by simp) (.cells #[V2.x0, V2.x1, V2.x2] 26))
  have HX := Lib.hid (blk_alloc (blk_new w (.cells #[V.x0, V.x1, V.x2] 26)) (.cells #[V2.x0, V2.x1, V2.x2] 26))
  have HZ1 : Hid (((w.alloc (.cells #[V.x0, V.x1, V.x2] 26)).alloc (.cells #[V2.x0, V2.x1, V2.x2] 26)).heap[w.heap.size + 1]? = some (.cells #[V2.x0, V2.x1, V2.x2] 26 (0, 0))) := Lib.hid (by
    have := blk_new (w.alloc (.cells #[V.x0, V.x1, V.x2] 26)) (.cells #[V2.x0, V2.x1, V2.x2] 26)
    rw [show (w.alloc (.cells #[V.x0, V.x1, V.x2] 26)).heap.size = w.heap.size + 1 from by simp] at this
    exact this)
  clear hl hv hv2
  unfold maxLen at hlen
  unfold aggV
  unfold VS.x0 VS.x1 VS.x2 at *
  go_enter Tryz.func8, Tryz.ntmps8
  go_wp2_with fail
  generalize (w.alloc (.cells #[.slice V.a0 V.l0.length V.c0, .slice V.a1 V.l1.length V.c1, .slice V.a2 V.l2.length V.c2] 26)).alloc (.cells #[.slice V2.a0 V2.l0.length V2.c0, .slice V2.a1 V2.l1.length V2.c1, .slice V2.a2 V2.l2.length V2.c2] 26) = W1 at HB HX HZ1 ⊢
  have x0 := (blk_cell HX.out 0).trans rfl
  have x1 := (blk_cell HX.out 1).trans rfl
  have x2 := (blk_cell HX.out 2).trans rfl
  go_wp2_with fail
  refine (few_calls _ V HV.out.l0 HV.out.l1 HV.out.l2).mono ?_
  rintro e W2 ⟨rfl, hb⟩
  have HB2 := Lib.hid (bstep HB.out hb HB.out.size)
  have HX2 := Lib.hid (blk_keep hb HX.out (Nat.le_refl _))
  have HZ12 := Lib.hid (blk_keep hb HZ1.out (Nat.le_refl _))
  clear hb HB HX HZ1 x0 x1 x2
  have hlx := blk_lt HZ12.out
  have x0 := (blk_cell HX2.out 0).trans rfl
  have x1 := (blk_cell HX2.out 1).trans rfl
  have x2 := (blk_cell HX2.out 2).trans rfl
  cases hfw : fewB V
  · clear hfw
    go_wp2_with fail
    refine (known_calls _).mono ?_
    rintro e W3 ⟨rfl, hb⟩
    have HB3 := Lib.hid (bstep HB2.out hb HB2.out.size)
    clear hb
    go_wp2_with fail
    go_ret
    exact ⟨rfl, HB3.out⟩
  have HVA := Lib.hid (HV.out.rd.few hfw)
  clear hfw
  have y0 := (blk_cell HZ12.out 0).trans rfl
  have y1 := (blk_cell HZ12.out 1).trans rfl
  have y2 := (blk_cell HZ12.out 2).trans rfl
  go_wp2_with fail
  refine (few_calls _ V2 HVV.out.l0 HVV.out.l1 HVV.out.l2).mono ?_
  rintro e W2b ⟨rfl, hb⟩
  have HB2b := Lib.hid (bstep HB2.out hb HB2.out.size)
  have HX2b := Lib.hid (blk_keep hb HX2.out (Nat.le_refl _))
  have HZ12b := Lib.hid (blk_keep hb HZ12.out (Nat.le_refl _))
  clear hb HB2 HX2 HZ12 x0 x1 x2 y0 y1 y2
  have hlx2 := blk_lt HZ12b.out
  cases hfw : fewB V2
  · clear hfw
    go_wp2_with fail
    refine (known_calls _).mono ?_
    rintro e W40 ⟨rfl, hb⟩
    have HF40 := Lib.hid (bstep HB2b.out hb (HB2b.out).size)
    clear hb
    go_wp2_with fail
    go_ret
    exact ⟨rfl, HF40.out⟩
  have HVA2 := Lib.hid (HVV.out.rd.few hfw)
  clear hfw
  have x0 := (blk_cell HX2b.out 0).trans rfl
  have x1 := (blk_cell HX2b.out 1).trans rfl
  have x2 := (blk_cell HX2b.out 2).trans rfl
  go_wp2_with fail
  refine (build_calls w W2b V _ l HVA.out HL.out HB2b.out).mono ?_
  rintro e W3 ⟨p, m, sl, rfl, hp, hb, hpw, hmw⟩
  have hown := bld_owner (l.take 30) V
  generalize bldF (l.take 30) (new0 V) = r at hp hown ⊢
  obtain ⟨V', S'⟩ := r
  simp only at hp hown ⊢
  have HOW := Lib.hid hown
  have HP3 := Lib.hid hp
  have HB3 := Lib.hid (bstep HB2b.out hb HB2b.out.size)
  have HX3 := Lib.hid (blk_keep hb HX2b.out (Nat.le_refl _))
  have HZ13 := Lib.hid (blk_keep hb HZ12b.out (Nat.le_refl _))
  clear hb HB2b HX2b HZ12b x0 x1 x2 hp hown
  obtain ⟨ao2, cap2, hsl2, -⟩ := row_open HP3.out.row
  subst hsl2
  unfold rP VS.x0 VS.x1 VS.x2
  have HS4 : Hid (BSq w w (W3.alloc (.cells #[.string S'.owner, .slice V'.a0 V'.l0.length V'.c0, .slice V'.a1 V'.l1.length V'.c1, .slice V'.a2 V'.l2.length V'.c2, .slice ao2 S'.L.length cap2, .int .i64 S'.req] 38)) p m V' S' (.slice ao2 S'.L.length cap2) W3.heap.size) := Lib.hid
    ⟨HP3.out.below ((Below.refl _ _).alloc (Nat.le_refl _) _), blk_new _ _, HB3.out.alloc HB3.out.size _⟩
  have HZ14 := Lib.hid (blk_alloc HZ13.out (.cells #[.string S'.owner, .slice V'.a0 V'.l0.length V'.c0, .slice V'.a1 V'.l1.length V'.c1, .slice V'.a2 V'.l2.length V'.c2, .slice ao2 S'.L.length cap2, .int .i64 S'.req] 38))
  go_upto_region 4 with fail
  obtain ⟨b8, hb8e⟩ : ∃ b8, W3.heap.size = b8 := ⟨_, rfl⟩
  have hb8 : w.heap.size ≤ b8 := by have := HB3.out.size; omega
  rw [hb8e] at HS4
  simp only [hb8e]
  clear hb8e HP3 HX3 HZ13
  generalize W3.alloc (.cells #[.string S'.owner, .slice V'.a0 V'.l0.length V'.c0, .slice V'.a1 V'.l1.length V'.c1, .slice V'.a2 V'.l2.length V'.c2, .slice ao2 S'.L.length cap2, .int .i64 S'.req] 38) = W4 at HS4 HZ14 ⊢
  go_upto_region 6 with fail
  clear HL HV
  go_wp2_with fail
  refine (HS4.out.pair.own.clone).mono ?_
  rintro e W5 ⟨q, mq, rfl, h5, hq5, hmq5, hb5⟩
  have HQ5 := Lib.hid h5
  have HS5 := Lib.hid (HS4.out.below hb5)
  have HZ5 := Lib.hid (blk_keep hb5 HZ14.out (Nat.le_refl _))
  have hqp : p < W4.heap.size := HS4.out.pair.pool.lt
  have hqm : m < W4.heap.size := HS4.out.pair.pool.2.lt
  clear h5 hb5 HS4 HZ14
  obtain ⟨x0, x1, x2, x3, x4, x5⟩ := sixV HS5.out.x
  have y0 := (blk_cell HZ5.out 0).trans rfl
  have y1 := (blk_cell HZ5.out 1).trans rfl
  have y2 := (blk_cell HZ5.out 2).trans rfl
  go_wp2_with fail
  refine (HS5.out.pair.refRevalue HVA2.out).mono ?_
  obtain ⟨X, hX⟩ : ∃ X, revalueF (fV V2) S' (vlOf V2) = X := ⟨_, rfl⟩
  rw [hX]
  have HX := Lib.hid hX
  clear hX
  rintro e W6 ⟨sl6, rfl, hr6, hb⟩
  have HS6 := Lib.hid (HS5.out.below hb)
  have HQ6 := Lib.hid (HQ5.out.below hb)
  have HZ6 := Lib.hid (blk_keep hb HZ5.out (Nat.le_refl _))
  have HR6 := Lib.hid hr6
  clear hb hr6 HS5 HQ5 HZ5 x0 x1 x2 x3 x4 x5 y0 y1 y2
  obtain ⟨V3, hV3⟩ : ∃ V3, (if X.1 = 0 then V2 else V') = V3 := ⟨_, rfl⟩
  rw [hV3]
  have HV3 := Lib.hid hV3
  clear hV3
  obtain ⟨cd, S2⟩ := X
  simp only at HR6 HV3 ⊢
  obtain ⟨ao6, cap6, hsl6, -⟩ := row_open HR6.out
  subst hsl6
  unfold rP VS.x0 VS.x1 VS.x2
  have hcc : (cd != cd) = false := by simp
  have HS7 := Lib.hid (HS6.out.below ((Below.refl _ _).alloc (Nat.le_refl _) (.cells #[.string S2.owner, .slice V3.a0 V3.l0.length V3.c0, .slice V3.a1 V3.l1.length V3.c1, .slice V3.a2 V3.l2.length V3.c2, .slice ao6 S2.L.length cap6, .int .i64 S2.req] 38)))
  have HQ7 := Lib.hid (HQ6.out.below ((Below.refl _ _).alloc (Nat.le_refl _) (.cells #[.string S2.owner, .slice V3.a0 V3.l0.length V3.c0, .slice V3.a1 V3.l1.length V3.c1, .slice V3.a2 V3.l2.length V3.c2, .slice ao6 S2.L.length cap6, .int .i64 S2.req] 38)))
  have HZ7 := Lib.hid (blk_alloc HZ6.out (.cells #[.string S2.owner, .slice V3.a0 V3.l0.length V3.c0, .slice V3.a1 V3.l1.length V3.c1, .slice V3.a2 V3.l2.length V3.c2, .slice ao6 S2.L.length cap6, .int .i64 S2.req] 38))
  have HR7 := Lib.hid (ownsRow_below HR6.out ((Below.refl _ _).alloc (Nat.le_refl _) (.cells #[.string S2.owner, .slice V3.a0 V3.l0.length V3.c0, .slice V3.a1 V3.l1.length V3.c1, .slice V3.a2 V3.l2.length V3.c2, .slice ao6 S2.L.length cap6, .int .i64 S2.req] 38)) (Nat.le_refl _))
  have HX7 : Hid (boxAt _ W6.heap.size V3 S2 (.slice ao6 S2.L.length cap6)) := Lib.hid (blk_new W6 (.cells #[.string S2.owner, .slice V3.a0 V3.l0.length V3.c0, .slice V3.a1 V3.l1.length V3.c1, .slice V3.a2 V3.l2.length V3.c2, .slice ao6 S2.L.length cap6, .int .i64 S2.req] 38))
  go_upto_region 8 with fail
  generalize W6.alloc (.cells #[.string S2.owner, .slice V3.a0 V3.l0.length V3.c0, .slice V3.a1 V3.l1.length V3.c1, .slice V3.a2 V3.l2.length V3.c2, .slice ao6 S2.L.length cap6, .int .i64 S2.req] 38) = W7 at HS7 HQ7 HZ7 HR7 HX7 ⊢
  have y0 := (blk_cell HZ7.out 0).trans rfl
  have y1 := (blk_cell HZ7.out 1).trans rfl
  have y2 := (blk_cell HZ7.out 2).trans rfl
  have l6 : W4.heap.size ≤ W6.heap.size := by have := HQ6.out.pool.lt; omega
  clear HS6 HQ6 HZ6 HR6
  go_wp2_with fail
  refine (HS7.out.pair.own.revalue HVA2.out).mono ?_
  rw [HX.out]
  simp only
  rw [HV3.out]
  rintro e W8 ⟨m8, rfl, h8, hF8, hm8⟩
  have HO8 := Lib.hid h8
  have HQ8 := Lib.hid (HQ7.out.other hF8 h8.base (by omega) (by omega) (by omega) (by omega))
  have HR8 : Hid (RowAt W8 w.heap.size (.slice ao6 S2.L.length cap6) S2.L) := Lib.hid (row_fr HR7.out HS7.out.pair.pool hF8)
  have HX8 : Hid (boxAt W8 b8 V' S' (.slice ao2 S'.L.length cap2)) := Lib.hid ((hF8.block b8 (blk_lt HS7.out.x) (box_ne HS7.out.x HS7.out.pair.pool).1 (box_ne HS7.out.x HS7.out.pair.pool).2).trans HS7.out.x)
  have HX12 : Hid (boxAt W8 W6.heap.size V3 S2 (.slice ao6 S2.L.length cap6)) := Lib.hid ((hF8.block _ (blk_lt HX7.out) (box_ne HX7.out HS7.out.pair.pool).1 (box_ne HX7.out HS7.out.pair.pool).2).trans HX7.out)
  have hm8' : m8 < W4.heap.size ∨ W7.heap.size ≤ m8 := by omega
  have hq7 : q < W7.heap.size := HQ7.out.pool.lt
  have hmq7 : mq < W7.heap.size := HQ7.out.pool.2.lt
  clear h8 hF8 hm8 HS7 HQ7 HZ7 HR7 HX7 y0 y1 y2
  obtain ⟨x0, x1, x2, x3, x4, x5⟩ := sixV HX12.out
  go_wp2_with fail
  refine ((HO8.out.pair HR8.out).same_calls).mono ?_
  rintro e W9 ⟨rfl, hb⟩
  have HO9 := Lib.hid (HO8.out.below hb)
  have HQ9 := Lib.hid (HQ8.out.below hb)
  have HR9 := Lib.hid (ownsRow_below HR8.out hb (Nat.le_refl _))
  have HX89 : Hid (boxAt W9 b8 V' S' (.slice ao2 S'.L.length cap2)) := Lib.hid (blk_keep hb HX8.out (Nat.le_refl _))
  have HX129 : Hid (boxAt W9 W6.heap.size V3 S2 (.slice ao6 S2.L.length cap6)) := Lib.hid (blk_keep hb HX12.out (Nat.le_refl _))
  clear hb HO8 HQ8 HR8 HX8 HX12 x0 x1 x2 x3 x4 x5 hcc
  by_cases e1 : cd = 0
  · subst e1
    have hv := HV3.out
    rw [if_pos rfl] at hv
    subst hv
    clear HV3
    have HBK : Hid (revalueF (fV V') S2 (vlOf V') = (0, S')) := Lib.hid (by
      have := rev_back (f := fV V2) (g := fV V') (S := S') (vl := vlOf V2) (vl' := vlOf V') (fV_ok V2) HQ9.out.sim (by rw [HX.out])
      rw [HX.out] at this
      rw [this, ← HQ9.out.vl])
    have r0 := HO9.out.sim.ok.r0
    have r1 := HO9.out.sim.ok.r1
    have v0 := HO9.out.sim.ok.v0
    have v1 := HO9.out.sim.ok.v1
    have HE := Lib.hid HO9.out.excess
    by_cases hneg : S2.value - S2.req < 0
    · go_wp2_with fail
      refine HE.out.mono ?_
      rintro e w' ⟨rfl, rfl⟩
      clear HE
      have hlt : S2.value < S2.req := by omega
      go_wp2_with fail
      refine (HO9.out.max k hk).mono ?_
      rintro e W10 ⟨r, rfl, ra, rb, rc, rd, hb⟩
      obtain rfl : r = 0 := by
        by_cases h0 : 0 < r
        · have h1 := rd h0
          rw [neg_max (fV_ok V2) HO9.out.sim hlt (by omega) (by omega)] at h1
          cases h1
        · omega
      have HO10 := Lib.hid (HO9.out.below hb)
      have HQ10 := Lib.hid (HQ9.out.below hb)
      have HR10 := Lib.hid (ownsRow_below HR9.out hb (Nat.le_refl _))
      have HX8_10 : Hid (boxAt W10 b8 V' S' (.slice ao2 S'.L.length cap2)) := Lib.hid (blk_keep hb HX89.out (Nat.le_refl _))
      have HX12_10 : Hid (boxAt W10 W6.heap.size V2 S2 (.slice ao6 S2.L.length cap6)) := Lib.hid (blk_keep hb HX129.out (Nat.le_refl _))
      clear hb ra rb rc rd HO9 HQ9 HR9 HX89 HX129
      have HNR := Lib.hid (neg_release (fV_ok V2) HO10.out.sim hlt k 1)
      have HNB := Lib.hid (release_bad HNR.out)
      go_wp2_with fail
      refine (HO10.out.release k hk 1).mono ?_
      obtain ⟨Y, hY⟩ : ∃ Y, releaseF (fV V2) S2 k 1 = Y := ⟨_, rfl⟩
      rw [hY] at HNR HNB
      rw [hY]
      obtain ⟨cy, Sy⟩ := Y
      simp only at HNR HNB
      have hsy := HNB.out
      subst hsy
      rintro e W11 ⟨rfl, h11, hF11⟩
      have HO11 := Lib.hid h11
      have HQ11 := Lib.hid (HQ10.out.other hF11 h11.base (by omega) (by omega) (by omega) (by omega))
      have HR11 := Lib.hid (row_fr HR10.out HO10.out.pool hF11)
      have HX8_11 : Hid (boxAt W11 b8 V' S' (.slice ao2 S'.L.length cap2)) := Lib.hid ((hF11.block b8 (blk_lt HX8_10.out) (box_ne HX8_10.out HO10.out.pool).1 (box_ne HX8_10.out HO10.out.pool).2).trans HX8_10.out)
      have HX12_11 : Hid (boxAt W11 W6.heap.size V2 Sy (.slice ao6 Sy.L.length cap6)) := Lib.hid ((hF11.block _ (blk_lt HX12_10.out) (box_ne HX12_10.out HO10.out.pool).1 (box_ne HX12_10.out HO10.out.pool).2).trans HX12_10.out)
      have hcy : (cy == 0) = false := by have := HNR.out; simpa using this
      have HRQ := Lib.hid (required_calls W11 p m8 Sy HO11.out.pool)
      clear h11 hF11 HO10 HQ10 HR10 HX8_10 HX12_10 HNB hY
      go_wp2_with fail
      refine HRQ.out.mono ?_
      rintro e w' ⟨rfl, rfl⟩
      clear HRQ
      go_wp2_with fail
      refine (HO11.out.require Sy.req).mono ?_
      rw [neg_require HO11.out.sim hlt]
      rintro e W12 ⟨rfl, h12, hF12⟩
      have HO_12 := Lib.hid h12
      have HQ_12 := Lib.hid (HQ11.out.other hF12 h12.base (by omega) (by omega) (by omega) (by omega))
      have HR_12 := Lib.hid (row_fr HR11.out HO11.out.pool hF12)
      have HX8_12 : Hid (boxAt W12 b8 V' S' (.slice ao2 S'.L.length cap2)) := Lib.hid ((hF12.block b8 (blk_lt HX8_11.out) (box_ne HX8_11.out HO11.out.pool).1 (box_ne HX8_11.out HO11.out.pool).2).trans HX8_11.out)
      have HX12_12 : Hid (boxAt W12 W6.heap.size V2 Sy (.slice ao6 Sy.L.length cap6)) := Lib.hid ((hF12.block _ (blk_lt HX12_11.out) (box_ne HX12_11.out HO11.out.pool).1 (box_ne HX12_11.out HO11.out.pool).2).trans HX12_11.out)
      clear h12 hF12 HO11 HQ11 HR11 HX8_11 HX12_11 hcy
      obtain ⟨x0, x1, x2, x3, x4, x5⟩ := sixV HX12_12.out
      obtain ⟨y0, y1, y2, y3, y4, y5⟩ := sixV HX8_12.out
      go_wp2_with fail
      refine ((HO_12.out.pair HR_12.out).refRevalue HQ_12.out.v0).mono ?_
      rw [HBK.out]
      rintro e W30 ⟨sl30, rfl, hr30, hb⟩
      have HO30 := Lib.hid (HO_12.out.below hb)
      have HQ30 := Lib.hid (HQ_12.out.below hb)
      have HX30 : Hid (boxAt W30 b8 V' S' (.slice ao2 S'.L.length cap2)) := Lib.hid (blk_keep hb HX8_12.out (Nat.le_refl _))
      have HR30 : Hid (RowAt W30 w.heap.size sl30 S'.L) := Lib.hid hr30
      clear hb hr30 x0 x1 x2 x3 x4 x5 y0 y1 y2 y3 y4 y5 HO_12 HQ_12 HR_12 HX12_12 HX8_12
      simp only [if_true]
      obtain ⟨ao30, cap30, hsl30, -⟩ := row_open HR30.out
      subst hsl30
      unfold rP VS.x0 VS.x1 VS.x2
      have HO31 := Lib.hid (HO30.out.below ((Below.refl _ _).alloc (Nat.le_refl _) (.cells #[.string S'.owner, .slice V'.a0 V'.l0.length V'.c0, .slice V'.a1 V'.l1.length V'.c1, .slice V'.a2 V'.l2.length V'.c2, .slice ao30 S'.L.length cap30, .int .i64 S'.req] 38)))
      have HQ31 := Lib.hid (HQ30.out.below ((Below.refl _ _).alloc (Nat.le_refl _) (.cells #[.string S'.owner, .slice V'.a0 V'.l0.length V'.c0, .slice V'.a1 V'.l1.length V'.c1, .slice V'.a2 V'.l2.length V'.c2, .slice ao30 S'.L.length cap30, .int .i64 S'.req] 38)))
      have HX31 : Hid (boxAt (W30.alloc (.cells #[.string S'.owner, .slice V'.a0 V'.l0.length V'.c0, .slice V'.a1 V'.l1.length V'.c1, .slice V'.a2 V'.l2.length V'.c2, .slice ao30 S'.L.length cap30, .int .i64 S'.req] 38)) b8 V' S' (.slice ao2 S'.L.length cap2)) := Lib.hid (blk_alloc HX30.out _)
      go_upto_region 16 with fail
      generalize W30.alloc (.cells #[.string S'.owner, .slice V'.a0 V'.l0.length V'.c0, .slice V'.a1 V'.l1.length V'.c1, .slice V'.a2 V'.l2.length V'.c2, .slice ao30 S'.L.length cap30, .int .i64 S'.req] 38) = W31 at HO31 HQ31 HX31 ⊢
      clear HO30 HQ30 HX30 HR30
      obtain ⟨y0, y1, y2, y3, y4, y5⟩ := sixV HX31.out
      go_wp2_with fail
      refine (HO31.out.revalue HQ31.out.v0).mono ?_
      rw [HBK.out]
      rintro e W32 ⟨m32, rfl, h32, hF32, hm32⟩
      have HO32 := Lib.hid h32
      have HQ32 := Lib.hid (HQ31.out.other hF32 h32.base (by omega) (by omega) (by omega) (by omega))
      clear h32 hF32 hm32 HO31 HQ31 HX31 y0 y1 y2 y3 y4 y5
      simp only [if_true] at HO32
      go_wp2_with fail
      refine (HO32.out.equal HQ32.out).mono ?_
      rw [eqF_self]
      rintro e W33 ⟨rfl, hb⟩
      have HO33 := Lib.hid (HO32.out.below hb)
      clear hb HO32 HQ32
      go_wp2_with fail
      refine (known_calls _).mono ?_
      rintro e W40 ⟨rfl, hb⟩
      have HF40 := Lib.hid (bstep HO33.out.base hb (HO33.out.base).size)
      clear hb
      go_wp2_with fail
      go_ret
      exact ⟨rfl, HF40.out⟩
    · go_wp2_with fail
      refine HE.out.mono ?_
      rintro e w' ⟨rfl, rfl⟩
      clear HE
      have HO_9 := HO9
      have HQ_9 := HQ9
      have HR_9 := HR9
      have HX8_9 := HX89
      have HX12_9 := HX129
      clear HO9 HQ9 HR9 HX89 HX129
      obtain ⟨x0, x1, x2, x3, x4, x5⟩ := sixV HX12_9.out
      obtain ⟨y0, y1, y2, y3, y4, y5⟩ := sixV HX8_9.out
      go_wp2_with fail
      refine ((HO_9.out.pair HR_9.out).refRevalue HQ_9.out.v0).mono ?_
      rw [HBK.out]
      rintro e W30 ⟨sl30, rfl, hr30, hb⟩
      have HO30 := Lib.hid (HO_9.out.below hb)
      have HQ30 := Lib.hid (HQ_9.out.below hb)
      have HX30 : Hid (boxAt W30 b8 V' S' (.slice ao2 S'.L.length cap2)) := Lib.hid (blk_keep hb HX8_9.out (Nat.le_refl _))
      have HR30 : Hid (RowAt W30 w.heap.size sl30 S'.L) := Lib.hid hr30
      clear hb hr30 x0 x1 x2 x3 x4 x5 y0 y1 y2 y3 y4 y5 HO_9 HQ_9 HR_9 HX12_9 HX8_9
      simp only [if_true]
      obtain ⟨ao30, cap30, hsl30, -⟩ := row_open HR30.out
      subst hsl30
      unfold rP VS.x0 VS.x1 VS.x2
      have HO31 := Lib.hid (HO30.out.below ((Below.refl _ _).alloc (Nat.le_refl _) (.cells #[.string S'.owner, .slice V'.a0 V'.l0.length V'.c0, .slice V'.a1 V'.l1.length V'.c1, .slice V'.a2 V'.l2.length V'.c2, .slice ao30 S'.L.length cap30, .int .i64 S'.req] 38)))
      have HQ31 := Lib.hid (HQ30.out.below ((Below.refl _ _).alloc (Nat.le_refl _) (.cells #[.string S'.owner, .slice V'.a0 V'.l0.length V'.c0, .slice V'.a1 V'.l1.length V'.c1, .slice V'.a2 V'.l2.length V'.c2, .slice ao30 S'.L.length cap30, .int .i64 S'.req] 38)))
      have HX31 : Hid (boxAt (W30.alloc (.cells #[.string S'.owner, .slice V'.a0 V'.l0.length V'.c0, .slice V'.a1 V'.l1.length V'.c1, .slice V'.a2 V'.l2.length V'.c2, .slice ao30 S'.L.length cap30, .int .i64 S'.req] 38)) b8 V' S' (.slice ao2 S'.L.length cap2)) := Lib.hid (blk_alloc HX30.out _)
      go_upto_region 16 with fail
      generalize W30.alloc (.cells #[.string S'.owner, .slice V'.a0 V'.l0.length V'.c0, .slice V'.a1 V'.l1.length V'.c1, .slice V'.a2 V'.l2.length V'.c2, .slice ao30 S'.L.length cap30, .int .i64 S'.req] 38) = W31 at HO31 HQ31 HX31 ⊢
      clear HO30 HQ30 HX30 HR30
      obtain ⟨y0, y1, y2, y3, y4, y5⟩ := sixV HX31.out
      go_wp2_with fail
      refine (HO31.out.revalue HQ31.out.v0).mono ?_
      rw [HBK.out]
      rintro e W32 ⟨m32, rfl, h32, hF32, hm32⟩
      have HO32 := Lib.hid h32
      have HQ32 := Lib.hid (HQ31.out.other hF32 h32.base (by omega) (by omega) (by omega) (by omega))
      clear h32 hF32 hm32 HO31 HQ31 HX31 y0 y1 y2 y3 y4 y5
      simp only [if_true] at HO32
      go_wp2_with fail
      refine (HO32.out.equal HQ32.out).mono ?_
      rw [eqF_self]
      rintro e W33 ⟨rfl, hb⟩
      have HO33 := Lib.hid (HO32.out.below hb)
      clear hb HO32 HQ32
      go_wp2_with fail
      refine (known_calls _).mono ?_
      rintro e W40 ⟨rfl, hb⟩
      have HF40 := Lib.hid (bstep HO33.out.base hb (HO33.out.base).size)
      clear hb
      go_wp2_with fail
      go_ret
      exact ⟨rfl, HF40.out⟩
  · have hz : (cd != 0) = true := by simpa using e1
    have hv := HV3.out
    rw [if_neg e1] at hv
    subst hv
    have hE : Hid (S2 = S') := Lib.hid (by
      have := revalue_bad (f := fV V2) (S := S') (vl := vlOf V2) (by rw [HX.out]; exact e1)
      rw [HX.out] at this; exact this)
    clear e1
    go_wp2_with fail
    refine (HO9.out.equal HQ9.out).mono ?_
    rw [hE.out, eqF_self]
    rintro e W10 ⟨rfl, hb⟩
    have HO10 := Lib.hid (HO9.out.below hb)
    clear hb
    go_wp2_with fail
    refine (known_calls _).mono ?_
    rintro e W40 ⟨rfl, hb⟩
    have HF40 := Lib.hid (bstep HO10.out.base hb (HO10.out.base).size)
    clear hb
    go_wp2_with fail
    go_ret
    exact ⟨rfl, HF40.out⟩
end Go.Proofs.YtjjnljfphaimgaaGreatDoor.C
/- For every two valuations, list of operations and asset, girolaw34.CollateralRevalue returns true and leaves its arguments as they were. Conditions: the row's own (the listed package variables start as the program's text lays them; the card ties them to the text). -/
namespace Go.Proofs.YtjjnljfphaimgaaGreatDoor
open Go Go.RowKit Go.ChangeShapes Go.WideShapes Go.ChangeAt
open Go.Proofs.YtjjnljfphaimgaaGreatDoor.C

theorem ownRv : ownKnob Tryz.prog.godebug = none := by kernel_rfl
theorem laidOutRv : laidOutB Tryz.prog = true := by kernel_rfl
theorem doorRv (os : Os) (args : Array Value) : laidMetH Tryz.prog Rows.collateralRevalueRow.laid ((World.doorLaid Tryz.prog 400 os).forCall (fun _ _ => 0) ⟨#[], args, []⟩).memory :=
  laidMetH_of_parts3 (fuel := 8) (laidMet_of_run' 8 (by kernel_rfl) (by kernel_rfl)) (by kernel_rfl) (by kernel_rfl)
theorem paramsRv : ∀ t ∈ Tryz.f8.params.toList, Tryz.prog.readableRec t = true ∧ t < Tryz.prog.types.size := by
  have h : (Tryz.f8.params.toList.all fun t => Tryz.prog.readableRec t && decide (t < Tryz.prog.types.size)) = true := by kernel_rfl
  intro t ht
  simpa using List.all_eq_true.1 h t ht
set_option maxRecDepth 100000 in
theorem liftedRv (os : Os) (started : os.Started) (H : Type) (enc : TypeId × Value → H) :
    ReturnsInHanded {} Tryz.checked os 8 .any (fun w args => (Rows.collateralRevalueSpec.pre enc Tryz.prog Tryz.f8 [] false w args ∧ laidMetH Tryz.prog Rows.collateralRevalueRow.laid w) ∧ sizedMet enc Tryz.prog Tryz.f8 (OpenSpec.ofChange Rows.collateralRevalueSpec) false w args)
      (Rows.collateralRevalueSpec.post enc Tryz.prog Tryz.f8 false true false false) := by
  refine returnsInHanded_of_change_and (C := Tryz.checked) (X := fun w _ => laidMetH Tryz.prog Rows.collateralRevalueRow.laid w) (fun _ _ _ hh h => h.of_heap hh) ownRv started (by kernel_rfl) Tryz.func8
    (ChangeSpec.witness_shaped (enc := enc) (C := Tryz.checked) (os := os) (X := fun w _ => laidMetH Tryz.prog Rows.collateralRevalueRow.laid w) false (World.doorLaid Tryz.prog 400 os) #[.agg #[.slice none 0 0, .slice none 0 0, .slice none 0 0], .agg #[.slice none 0 0, .slice none 0 0, .slice none 0 0], .slice none 0 0, .string ⟨#[]⟩] 8 rfl (World.shaped_of_RefB (by kernel_rfl) (by kernel_rfl)) (by kernel_rfl) (by kernel_rfl) (by kernel_rfl) (doorRv os _)) ?_
  intro W base args ds gs before hval0 hW _ _ _ _
  have hval : ∀ (j : Nat) t v, Tryz.f8.params[j]? = some t → args[j]? = some v → Value.okWide Tryz.prog W .any base t v := hval0
  have hW' := hW
  obtain ⟨p, q, hA0, hV, rfl, hfz, hnd⟩ := hW
  have hA : DataW.TrodAll enc Tryz.prog W 0 (fun _ => true) true Tryz.f8.params.toList args.toList ds p := hA0
  rw [Tryz.params8] at hA hval
  obtain ⟨v0, v1, v2, v3, d0, d1, d2, d3, p0, p1, p2, p3, rfl, rfl, rfl, h0, h1, h2, h3⟩ := trodAll_four hA
  obtain ⟨rfl, rfl⟩ := trodVars_none hV
  obtain ⟨cs0, rfl, -⟩ := okWide_struct Tryz.underlying26 (hval 0 26 v0 rfl rfl)
  obtain ⟨fuel0, h0⟩ := h0
  obtain ⟨V0, e0, g0⟩ := open_V h0
  obtain rfl : cs0 = #[V0.x0, V0.x1, V0.x2] := Array.ext' e0
  obtain ⟨cs1, rfl, -⟩ := okWide_struct Tryz.underlying26 (hval 1 26 v1 rfl rfl)
  obtain ⟨fuel1, h1⟩ := h1
  obtain ⟨V1, e1, g1⟩ := open_V h1
  obtain rfl : cs1 = #[V1.x0, V1.x1, V1.x2] := Array.ext' e1
  obtain ⟨a2, n2, c2, rfl⟩ := okWide_slice Tryz.underlying27 (hval 2 27 v2 rfl rfl)
  obtain ⟨fuel2, h2⟩ := h2
  obtain ⟨x2, l2, e2, g2⟩ := open_ops h2
  obtain rfl : Value.slice a2 n2 c2 = x2 := by simpa [Value.cells] using e2
  obtain ⟨s3, rfl⟩ := okWide_string Tryz.underlying9 (hval 3 9 v3 rfl rfl)
  obtain ⟨fuel3, h3⟩ := h3
  obtain ⟨s3', e3, -, g3⟩ := DataW.trod_string Tryz.underlying9 h3
  obtain rfl : s3 = s3' := by simpa [Value.cells] using e3
  refine (revalue_law W V0 V1 _ l2 s3 g0 g1 g2 g3).mono fun e W' ⟨he, hb⟩ => ?_
  subst he
  exact ⟨_, rfl, law_post laidOutRv rfl (by kernel_rfl) rfl paramsRv hW' hb⟩
theorem saidRv : Rows.CollateralRevalueSaid :=
  OpenClaim.holds_of_wide 8 Tryz.f8 rfl rfl rfl rfl rfl rfl rfl ⟨rfl, rfl, rfl, rfl, rfl⟩ rfl rfl rfl rfl rfl (by kernel_rfl) Tryz.func8 (by kernel_rfl)
    (of_decide_eq_true (by kernel_rfl)) (by unfold Func.isWrapper; first | (rw [if_pos (by decide +kernel)]; kernel_rfl) | (rw [if_neg (by decide +kernel)]; exact ⟨rfl, rfl⟩))
    (fun os started H enc _ => liftedRv os started H enc)
theorem collateralRevalue_card : Rows.CollateralRevalueCardSaid :=
  Claim7.holds_tied_plain_at .later [] [.data, .data, .data] true Rows.collateralRevalueCard.stood.harness true
    saidRv (fun _ h => by cases h) (by kernel_rfl) (fun _ h => by cases h) collateralRevalue_row_tie rfl ⟨rfl, rfl⟩ (by kernel_rfl) rfl
    (fun f fn hf hfn => by
      obtain rfl : f = 8 := Option.some.inj ((show Tryz.prog.funcNamed "giro/girolaw34.CollateralRevalue" = some 8 by kernel_rfl).symm.trans hf) |>.symm
      obtain rfl : fn = Tryz.f8 := (Option.some.inj (Tryz.func8.symm.trans hfn)).symm
      exact ⟨by kernel_rfl, fun j t ht => by
        rw [Tryz.params8] at ht
        have hm : t ∈ [26, 26, 27, 9] := by simpa using Array.mem_of_getElem? ht
        have hall : ([26, 26, 27, 9].all fun u => !Tryz.prog.wantsStandIn u) = true := by kernel_rfl
        exact (show Tryz.prog.wantsStandIn t = false by simpa using List.all_eq_true.1 hall t hm)⟩)
    (by kernel_rfl)
#print axioms collateralRevalue_card
end Go.Proofs.YtjjnljfphaimgaaGreatDoor
