/- For every valuation, list of operations and two pledges, girolaw34.CollateralOrder returns true and leaves its arguments as they were. Conditions: the row's own (the listed package variables start as the program's text lays them; the card ties them to the text). -/
import Derived.SevenTiedAt
import Derived.Test.YtjjnljfphaimgaaGreatDoorRows
import Derived.Test.YtjjnljfphaimgaaGreatDoorCards
import Derived.Test.YtjjnljfphaimgaaGreatDoorTie
import Derived.Test.YtjjnljfphaimgaaGreatDoorK15
set_option linter.all false
/- girolaw34.CollateralOrder. (Printed by genlaw34.py.) -/
namespace Go.Proofs.YtjjnljfphaimgaaGreatDoor.C
open Go Go.RowKit Go.Shelf Go.Proofs

set_option maxRecDepth 100000 in
set_option maxHeartbeats 16000000 in
theorem order_law (w : World) (V : VS) (v : Value) (l : List OpS) (ak : ByteArray) (an : Int) (bk : ByteArray) (bn : Int) (hv : VOk w V) (hl : OpsAt w w.heap.size v l) (ha : ak.size ≤ maxLen ∧ -9223372036854775808 ≤ an ∧ an ≤ 9223372036854775807) (hb : bk.size ≤ maxLen ∧ -9223372036854775808 ≤ bn ∧ bn ≤ 9223372036854775807) :
    Calls Tryz.prog 6 #[aggV V, v, .agg #[.string ak, .int .i64 an], .agg #[.string bk, .int .i64 bn]] w (LawPost w) := by
  have HA := Lib.hid ha
  have HBB := Lib.hid hb
  clear ha hb
  obtain ⟨ao, cap, hsl, -⟩ := hl.ex
  subst hsl
  have HL := Lib.hid hl
  have hlen := hl.len
  have HV := Lib.hid hv
  have HB := Lib.hid ((((Below.refl w.heap.size w).alloc (Nat.le_refl _) (.cells #[V.x0, V.x1, V.x2] 26)).alloc (by simp) (.cells #[.string ak, .int .i64 an] 45)).alloc (by simp; omega) (.cells #[.string bk, .int .i64 bn] 45))
  have HX := Lib.hid (blk_alloc (blk_alloc (blk_new w (.cells #[V.x0, V.x1, V.x2] 26)) (.cells #[.string ak, .int .i64 an] 45)) (.cells #[.string bk, .int .i64 bn] 45))
  have HZ1 : Hid ((((w.alloc (.cells #[V.x0, V.x1, V.x2] 26)).alloc (.cells #[.string ak, .int .i64 an] 45)).alloc (.cells #[.string bk, .int .i64 bn] 45)).heap[w.heap.size + 1]? = some (.cells #[.string ak, .int .i64 an] 45 (0, 0))) := Lib.hid (by
    have := blk_alloc (blk_new (w.alloc (.cells #[V.x0, V.x1, V.x2] 26)) (.cells #[.string ak, .int .i64 an] 45)) (.cells #[.string bk, .int .i64 bn] 45)
    rw [show (w.alloc (.cells #[V.x0, V.x1, V.x2] 26)).heap.size = w.heap.size + 1 from by simp] at this
    exact this)
  have HZ2 : Hid ((((w.alloc (.cells #[V.x0, V.x1, V.x2] 26)).alloc (.cells #[.string ak, .int .i64 an] 45)).alloc (.cells #[.string bk, .int .i64 bn] 45)).heap[w.heap.size + 1 + 1]? = some (.cells #[.string bk, .int .i64 bn] 45 (0, 0))) := Lib.hid (by
    have := blk_new ((w.alloc (.cells #[V.x0, V.x1, V.x2] 26)).alloc (.cells #[.string ak, .int .i64 an] 45)) (.cells #[.string bk, .int .i64 bn] 45)
    rw [show ((w.alloc (.cells #[V.x0, V.x1, V.x2] 26)).alloc (.cells #[.string ak, .int .i64 an] 45)).heap.size = w.heap.size + 1 + 1 from by simp] at this
    exact this)
  clear hl hv
  unfold maxLen at hlen
  unfold aggV
  unfold VS.x0 VS.x1 VS.x2 at *
  go_enter Tryz.func6, Tryz.ntmps6
  go_wp2_with fail
  generalize ((w.alloc (.cells #[.slice V.a0 V.l0.length V.c0, .slice V.a1 V.l1.length V.c1, .slice V.a2 V.l2.length V.c2] 26)).alloc (.cells #[.string ak, .int .i64 an] 45)).alloc (.cells #[.string bk, .int .i64 bn] 45) = W1 at HB HX HZ1 HZ2 ⊢
  have x0 := (blk_cell HX.out 0).trans rfl
  have x1 := (blk_cell HX.out 1).trans rfl
  have x2 := (blk_cell HX.out 2).trans rfl
  go_wp2_with fail
  refine (few_calls _ V HV.out.l0 HV.out.l1 HV.out.l2).mono ?_
  rintro e W2 ⟨rfl, hb⟩
  have HB2 := Lib.hid (bstep HB.out hb HB.out.size)
  have HX2 := Lib.hid (blk_keep hb HX.out (Nat.le_refl _))
  have HZ12 := Lib.hid (blk_keep hb HZ1.out (Nat.le_refl _))
  have HZ22 := Lib.hid (blk_keep hb HZ2.out (Nat.le_refl _))
  clear hb HB HX HZ1 HZ2 x0 x1 x2
  have hlx := blk_lt HZ22.out
  have x0 := (blk_cell HX2.out 0).trans rfl
  have x1 := (blk_cell HX2.out 1).trans rfl
  have x2 := (blk_cell HX2.out 2).trans rfl
  cases hfw : fewB V
  · clear hfw
    go_wp2_with fail
    refine (known_calls _).mono ?_
    rintro e W3 ⟨rfl, hb⟩
    have HB3 := Lib.hid (bstep HB2.out hb HB2.out.size)
    clear hb
    go_wp2_with fail
    go_ret
    exact ⟨rfl, HB3.out⟩
  have HVA := Lib.hid (HV.out.rd.few hfw)
  clear hfw
  go_wp2_with fail
  refine (build_calls w W2 V _ l HVA.out HL.out HB2.out).mono ?_
  rintro e W3 ⟨p, m, sl, rfl, hp, hb, hpw, hmw⟩
  have hown := bld_owner (l.take 30) V
  generalize bldF (l.take 30) (new0 V) = r at hp hown ⊢
  obtain ⟨V', S'⟩ := r
  simp only at hp hown ⊢
  have HOW := Lib.hid hown
  have HP3 := Lib.hid hp
  have HB3 := Lib.hid (bstep HB2.out hb HB2.out.size)
  have HX3 := Lib.hid (blk_keep hb HX2.out (Nat.le_refl _))
  have HZ13 := Lib.hid (blk_keep hb HZ12.out (Nat.le_refl _))
  have HZ23 := Lib.hid (blk_keep hb HZ22.out (Nat.le_refl _))
  clear hb HB2 HX2 HZ12 HZ22 x0 x1 x2 hp hown
  obtain ⟨ao2, cap2, hsl2, -⟩ := row_open HP3.out.row
  subst hsl2
  unfold rP VS.x0 VS.x1 VS.x2
  have HS4 : Hid (BSq w w (W3.alloc (.cells #[.string S'.owner, .slice V'.a0 V'.l0.length V'.c0, .slice V'.a1 V'.l1.length V'.c1, .slice V'.a2 V'.l2.length V'.c2, .slice ao2 S'.L.length cap2, .int .i64 S'.req] 38)) p m V' S' (.slice ao2 S'.L.length cap2) W3.heap.size) := Lib.hid
    ⟨HP3.out.below ((Below.refl _ _).alloc (Nat.le_refl _) _), blk_new _ _, HB3.out.alloc HB3.out.size _⟩
  have HZ14 := Lib.hid (blk_alloc HZ13.out (.cells #[.string S'.owner, .slice V'.a0 V'.l0.length V'.c0, .slice V'.a1 V'.l1.length V'.c1, .slice V'.a2 V'.l2.length V'.c2, .slice ao2 S'.L.length cap2, .int .i64 S'.req] 38))
  have HZ24 := Lib.hid (blk_alloc HZ23.out (.cells #[.string S'.owner, .slice V'.a0 V'.l0.length V'.c0, .slice V'.a1 V'.l1.length V'.c1, .slice V'.a2 V'.l2.length V'.c2, .slice ao2 S'.L.length cap2, .int .i64 S'.req] 38))
  go_upto_region 4 with fail
  obtain ⟨b8, hb8e⟩ : ∃ b8, W3.heap.size = b8 := ⟨_, rfl⟩
  have hb8 : w.heap.size ≤ b8 := by have := HB3.out.size; omega
  rw [hb8e] at HS4
  simp only [hb8e]
  clear hb8e HP3 HX3 HZ13 HZ23
  generalize W3.alloc (.cells #[.string S'.owner, .slice V'.a0 V'.l0.length V'.c0, .slice V'.a1 V'.l1.length V'.c1, .slice V'.a2 V'.l2.length V'.c2, .slice ao2 S'.L.length cap2, .int .i64 S'.req] 38) = W4 at HS4 HZ14 HZ24 ⊢
  go_upto_region 6 with fail
  have HO4 := Lib.hid HS4.out.pair.own
  have HB4 := Lib.hid HS4.out.b
  clear HS4 HL HV
  go_wp2_with fail
  refine (HO4.out.clone).mono ?_
  rintro e W5 ⟨q, mq, rfl, h5, hq5, hmq5, hb5⟩
  have HQ5 := Lib.hid h5
  have HO5 := Lib.hid (HO4.out.below hb5)
  have HA5 := Lib.hid (blk_keep hb5 HZ14.out (Nat.le_refl _))
  have HB5 := Lib.hid (blk_keep hb5 HZ24.out (Nat.le_refl _))
  have hqp : p < W4.heap.size := HO4.out.pool.lt
  have hqm : m < W4.heap.size := HO4.out.pool.2.lt
  clear h5 hb5 HO4 HZ14 HZ24 HB4
  go_upto_region 7 with fail
  have a0 := (blk_cell HA5.out 0).trans rfl
  have a1 := (blk_cell HA5.out 1).trans rfl
  have b0 := (blk_cell HB5.out 0).trans rfl
  have b1 := (blk_cell HB5.out 1).trans rfl
  have HD : W5.drew.cell? ⟨w.heap.size + 1, 0, none⟩ = some (.string ak) ∧ W5.drew.cell? ⟨w.heap.size + 1, 1, none⟩ = some (.int .i64 an) ∧ W5.drew.cell? ⟨w.heap.size + 1 + 1, 0, none⟩ = some (.string bk) ∧ W5.drew.cell? ⟨w.heap.size + 1 + 1, 1, none⟩ = some (.int .i64 bn) := ⟨a0, a1, b0, b1⟩
  clear a0 a1 b0 b1
  have HOd := Lib.hid (HO5.out.below (Below.refl _ _).drew)
  have HQd := Lib.hid (HQ5.out.below (Below.refl _ _).drew)
  go_region_held3 (fun W => W.cell? ⟨w.heap.size + 1, 0, none⟩ = some (.string ak) ∧ W.cell? ⟨w.heap.size + 1, 1, none⟩ = some (.int .i64 an) ∧ W.cell? ⟨w.heap.size + 1 + 1, 0, none⟩ = some (.string bk) ∧ W.cell? ⟨w.heap.size + 1 + 1, 1, none⟩ = some (.int .i64 bn))
    (first | with_reducible exact HD | with_reducible exact HD6 | with_reducible exact HD7 | with_reducible trivial)
    (first
      | (go_at_call 27
         with_reducible refine (HOd.out.pledge ak HA.out.1 an).mono ?_
         rintro e W6 ⟨rfl, h6, hF6⟩
         have HO6 := Lib.hid h6
         have HQ6 := Lib.hid (HQd.out.other hF6 h6.base (by omega) (by omega) (by omega) (by omega))
         have HA6 := Lib.hid ((hF6.block _ (blk_lt HA5.out) (by omega) (by omega)).trans HA5.out)
         have HB6 := Lib.hid ((hF6.block _ (blk_lt HB5.out) (by omega) (by omega)).trans HB5.out)
         have HD6 : W6.cell? ⟨w.heap.size + 1, 0, none⟩ = some (.string ak) ∧ W6.cell? ⟨w.heap.size + 1, 1, none⟩ = some (.int .i64 an) ∧ W6.cell? ⟨w.heap.size + 1 + 1, 0, none⟩ = some (.string bk) ∧ W6.cell? ⟨w.heap.size + 1 + 1, 1, none⟩ = some (.int .i64 bn) := ⟨(blk_cell HA6.out 0).trans rfl, (blk_cell HA6.out 1).trans rfl, (blk_cell HB6.out 0).trans rfl, (blk_cell HB6.out 1).trans rfl⟩
         clear h6 hF6)
      | (go_at_call 27
         with_reducible refine (HO6.out.pledge bk HBB.out.1 bn).mono ?_
         rintro e W7 ⟨rfl, h7, hF7⟩
         have HO7 := Lib.hid h7
         have HQ7 := Lib.hid (HQ6.out.other hF7 h7.base (by omega) (by omega) (by omega) (by omega))
         have HA7 := Lib.hid ((hF7.block _ (blk_lt HA6.out) (by omega) (by omega)).trans HA6.out)
         have HB7 := Lib.hid ((hF7.block _ (blk_lt HB6.out) (by omega) (by omega)).trans HB6.out)
         have HD7 : W7.cell? ⟨w.heap.size + 1, 0, none⟩ = some (.string ak) ∧ W7.cell? ⟨w.heap.size + 1, 1, none⟩ = some (.int .i64 an) ∧ W7.cell? ⟨w.heap.size + 1 + 1, 0, none⟩ = some (.string bk) ∧ W7.cell? ⟨w.heap.size + 1 + 1, 1, none⟩ = some (.int .i64 bn) := ⟨(blk_cell HA7.out 0).trans rfl, (blk_cell HA7.out 1).trans rfl, (blk_cell HB7.out 0).trans rfl, (blk_cell HB7.out 1).trans rfl⟩
         clear h7 hF7))
  rename_i hHeld
  clear hHeld HD HD6 HD7 HOd HQd HQ6 HO6 HA6 HB6 HO5 HQ5 HA5 HB5
  obtain ⟨X1, hX1⟩ : ∃ X, pledgeF (fV V') S' ak an = X := ⟨_, rfl⟩
  rw [hX1] at HO7
  simp only [hX1]
  obtain ⟨X2, hX2⟩ : ∃ X, pledgeF (fV V') X1.2 bk bn = X := ⟨_, rfl⟩
  rw [hX2] at HO7
  simp only [hX2]
  have HX1 := Lib.hid hX1
  have HX2 := Lib.hid hX2
  clear hX1 hX2
  obtain ⟨c1, S1⟩ := X1
  obtain ⟨c2, S2⟩ := X2
  simp only at HO7 HX2 ⊢
  by_cases e1 : c1 = 0
  · subst e1
    by_cases e2 : c2 = 0
    · subst e2
      have HOR := Lib.hid (pledge_order (a := ak) (b := bk) (m := an) (n := bn) (fV_ok V') HQ7.out.sim (by rw [HX1.out]) (by rw [HX1.out, HX2.out]))
      have HRL := fun hr => Lib.hid (order_release (a := ak) (b := bk) (m := an) (n := bn) (fV_ok V') HQ7.out.sim (by rw [HX1.out]) (by rw [HX1.out, HX2.out]) hr)
      have HRL' := Lib.hid HRL
      clear HRL
      obtain ⟨T, hT⟩ : ∃ T, (pledgeF (fV V') S' bk bn) = (0, T) := ⟨_, Prod.ext HOR.out.1 rfl⟩
      have HP2 := Lib.hid HOR.out.2
      rw [hT, HX1.out, HX2.out] at HP2
      have HRL : Hid (S'.req ≤ S'.value → releaseF (fV V') S2 ak an = (0, T) ∧ releaseF (fV V') T bk bn = (0, S')) := Lib.hid (fun hr => by
        have := (HRL'.out hr).out
        rw [hT, HX1.out, HX2.out] at this
        exact this)
      have HT := Lib.hid hT
      clear HOR HRL' hT
      simp only at HP2
      go_wp2_with fail
      refine (HQ7.out.clone).mono ?_
      rintro e W8 ⟨r, mr, rfl, h8, hr8, hmr8, hb8'⟩
      have HR8 := Lib.hid h8
      have HQ8 := Lib.hid (HQ7.out.below hb8')
      have HO8 := Lib.hid (HO7.out.below hb8')
      have HA8 := Lib.hid (blk_keep hb8' HA7.out (Nat.le_refl _))
      have HB8 := Lib.hid (blk_keep hb8' HB7.out (Nat.le_refl _))
      have l7 : W4.heap.size ≤ W7.heap.size := by have := HQ7.out.pool.lt; omega
      have l1 : q < W7.heap.size := HQ7.out.pool.lt
      have l2 : mq < W7.heap.size := HQ7.out.pool.2.lt
      clear h8 hb8' HQ7 HO7 HA7 HB7
      obtain ⟨a0, a1⟩ : W8.cell? ⟨w.heap.size + 1, 0, none⟩ = some (.string ak) ∧ W8.cell? ⟨w.heap.size + 1, 1, none⟩ = some (.int .i64 an) := ⟨(blk_cell HA8.out 0).trans rfl, (blk_cell HA8.out 1).trans rfl⟩
      obtain ⟨b0, b1⟩ : W8.cell? ⟨w.heap.size + 1 + 1, 0, none⟩ = some (.string bk) ∧ W8.cell? ⟨w.heap.size + 1 + 1, 1, none⟩ = some (.int .i64 bn) := ⟨(blk_cell HB8.out 0).trans rfl, (blk_cell HB8.out 1).trans rfl⟩
      go_wp2_with fail
      refine (HQ8.out.pledge bk HBB.out.1 bn).mono ?_
      rw [HT.out]
      rintro e W9 ⟨rfl, h9, hF9⟩
      have HQ9 := Lib.hid h9
      have HR9 := Lib.hid (HR8.out.other hF9 h9.base (by omega) (by omega) (by omega) (by omega))
      have HO9 := Lib.hid (HO8.out.other hF9 h9.base (by omega) (by omega) (by omega) (by omega))
      have HA9 := Lib.hid ((hF9.block _ (blk_lt HA8.out) (by omega) (by omega)).trans HA8.out)
      have HB9 := Lib.hid ((hF9.block _ (blk_lt HB8.out) (by omega) (by omega)).trans HB8.out)
      clear h9 hF9 HQ8 HR8 HO8 HA8 HB8 a0 a1 b0 b1
      obtain ⟨a0, a1⟩ : W9.cell? ⟨w.heap.size + 1, 0, none⟩ = some (.string ak) ∧ W9.cell? ⟨w.heap.size + 1, 1, none⟩ = some (.int .i64 an) := ⟨(blk_cell HA9.out 0).trans rfl, (blk_cell HA9.out 1).trans rfl⟩
      go_wp2_with fail
      refine (HQ9.out.pledge ak HA.out.1 an).mono ?_
      rw [HP2.out]
      rintro e W10 ⟨rfl, h10, hF10⟩
      have HQ10 := Lib.hid h10
      have HR10 := Lib.hid (HR9.out.other hF10 h10.base (by omega) (by omega) (by omega) (by omega))
      have HO10 := Lib.hid (HO9.out.other hF10 h10.base (by omega) (by omega) (by omega) (by omega))
      have HA10 := Lib.hid ((hF10.block _ (blk_lt HA9.out) (by omega) (by omega)).trans HA9.out)
      have HB10 := Lib.hid ((hF10.block _ (blk_lt HB9.out) (by omega) (by omega)).trans HB9.out)
      clear h10 hF10 HQ9 HR9 HO9 HA9 HB9 a0 a1
      go_wp2_with fail
      refine (HQ10.out.equal HO10.out).mono ?_
      rw [eqF_self]
      rintro e W11 ⟨rfl, hb11⟩
      have HQ11 := Lib.hid (HQ10.out.below hb11)
      have HR11 := Lib.hid (HR10.out.below hb11)
      have HA11 := Lib.hid (blk_keep hb11 HA10.out (Nat.le_refl _))
      have HB11 := Lib.hid (blk_keep hb11 HB10.out (Nat.le_refl _))
      clear hb11 HQ10 HR10 HO10 HA10 HB10
      have r0 := HR11.out.sim.ok.r0
      have r1 := HR11.out.sim.ok.r1
      have v0 := HR11.out.sim.ok.v0
      have v1 := HR11.out.sim.ok.v1
      have HE := Lib.hid HR11.out.excess
      by_cases hneg : S'.value - S'.req < 0
      · go_wp2_with fail
        refine HE.out.mono ?_
        rintro e w' ⟨rfl, rfl⟩
        clear HE
        go_wp2_with fail
        refine (known_calls _).mono ?_
        rintro e W40 ⟨rfl, hb⟩
        have HF40 := Lib.hid (bstep HR11.out.base hb (HR11.out.base).size)
        clear hb
        go_wp2_with fail
        go_ret
        exact ⟨rfl, HF40.out⟩
      · have HRR := Lib.hid (HRL.out (by omega))
        obtain ⟨a0, a1⟩ : W11.cell? ⟨w.heap.size + 1, 0, none⟩ = some (.string ak) ∧ W11.cell? ⟨w.heap.size + 1, 1, none⟩ = some (.int .i64 an) := ⟨(blk_cell HA11.out 0).trans rfl, (blk_cell HA11.out 1).trans rfl⟩
        go_wp2_with fail
        refine HE.out.mono ?_
        rintro e w' ⟨rfl, rfl⟩
        clear HE
        go_wp2_with fail
        refine (HQ11.out.release ak HA.out.1 an).mono ?_
        rw [HRR.out.1]
        rintro e W12 ⟨rfl, h12, hF12⟩
        have HQ12 := Lib.hid h12
        have HR12 := Lib.hid (HR11.out.other hF12 h12.base (by omega) (by omega) (by omega) (by omega))
        have HB12 := Lib.hid ((hF12.block _ (blk_lt HB11.out) (by omega) (by omega)).trans HB11.out)
        clear h12 hF12 HQ11 HR11 HA11 HB11 a0 a1
        obtain ⟨b0, b1⟩ : W12.cell? ⟨w.heap.size + 1 + 1, 0, none⟩ = some (.string bk) ∧ W12.cell? ⟨w.heap.size + 1 + 1, 1, none⟩ = some (.int .i64 bn) := ⟨(blk_cell HB12.out 0).trans rfl, (blk_cell HB12.out 1).trans rfl⟩
        go_wp2_with fail
        refine (HQ12.out.release bk HBB.out.1 bn).mono ?_
        rw [HRR.out.2]
        rintro e W13 ⟨rfl, h13, hF13⟩
        have HQ13 := Lib.hid h13
        have HR13 := Lib.hid (HR12.out.other hF13 h13.base (by omega) (by omega) (by omega) (by omega))
        clear h13 hF13 HQ12 HR12 HB12 b0 b1
        go_wp2_with fail
        refine (HQ13.out.equal HR13.out).mono ?_
        rw [eqF_self]
        rintro e W14 ⟨rfl, hb14⟩
        have HR14 := Lib.hid (HR13.out.below hb14)
        clear hb14 HQ13 HR13
        go_wp2_with fail
        refine (known_calls _).mono ?_
        rintro e W40 ⟨rfl, hb⟩
        have HF40 := Lib.hid (bstep HR14.out.base hb (HR14.out.base).size)
        clear hb
        go_wp2_with fail
        go_ret
        exact ⟨rfl, HF40.out⟩
    · have hz : (c2 != 0) = true := by simpa using e2
      clear e2
      go_wp2_with fail
      refine (known_calls _).mono ?_
      rintro e W40 ⟨rfl, hb⟩
      have HF40 := Lib.hid (bstep HO7.out.base hb (HO7.out.base).size)
      clear hb
      go_wp2_with fail
      go_ret
      exact ⟨rfl, HF40.out⟩
  · have hz : (c1 != 0) = true := by simpa using e1
    clear e1
    go_wp2_with fail
    refine (known_calls _).mono ?_
    rintro e W40 ⟨rfl, hb⟩
    have HF40 := Lib.hid (bstep HO7.out.base hb (HO7.out.base).size)
    clear hb
    go_wp2_with fail
    go_ret
    exact ⟨rfl, HF40.out⟩
end Go.Proofs.YtjjnljfphaimgaaGreatDoor.C
/- For every valuation, list of operations and two pledges, girolaw34.CollateralOrder returns true and leaves its arguments as they were. Conditions: the row's own (the listed package variables start as the program's text lays them; the card ties them to the text). -/
namespace Go.Proofs.YtjjnljfphaimgaaGreatDoor
open Go Go.RowKit Go.ChangeShapes Go.WideShapes Go.ChangeAt
open Go.Proofs.YtjjnljfphaimgaaGreatDoor.C

theorem ownRd : ownKnob Tryz.prog.godebug = none := by kernel_rfl
theorem laidOutRd : laidOutB Tryz.prog = true := by kernel_rfl
theorem doorRd (os : Os) (args : Array Value) : laidMetH Tryz.prog Rows.collateralOrderRow.laid ((World.doorLaid Tryz.prog 400 os).forCall (fun _ _ => 0) ⟨#[], args, []⟩).memory :=
  laidMetH_of_parts3 (fuel := 8) (laidMet_of_run' 8 (by kernel_rfl) (by kernel_rfl)) (by kernel_rfl) (by kernel_rfl)
theorem paramsRd : ∀ t ∈ Tryz.f6.params.toList, Tryz.prog.readableRec t = true ∧ t < Tryz.prog.types.size := by
  have h : (Tryz.f6.params.toList.all fun t => Tryz.prog.readableRec t && decide (t < Tryz.prog.types.size)) = true := by kernel_rfl
  intro t ht
  simpa using List.all_eq_true.1 h t ht
set_option maxRecDepth 100000 in
theorem liftedRd (os : Os) (started : os.Started) (H : Type) (enc : TypeId × Value → H) :
    ReturnsInHanded {} Tryz.checked os 6 .any (fun w args => (Rows.collateralOrderSpec.pre enc Tryz.prog Tryz.f6 [] false w args ∧ laidMetH Tryz.prog Rows.collateralOrderRow.laid w) ∧ sizedMet enc Tryz.prog Tryz.f6 (OpenSpec.ofChange Rows.collateralOrderSpec) false w args)
      (Rows.collateralOrderSpec.post enc Tryz.prog Tryz.f6 false true false false) := by
  refine returnsInHanded_of_change_and (C := Tryz.checked) (X := fun w _ => laidMetH Tryz.prog Rows.collateralOrderRow.laid w) (fun _ _ _ hh h => h.of_heap hh) ownRd started (by kernel_rfl) Tryz.func6
    (ChangeSpec.witness_shaped (enc := enc) (C := Tryz.checked) (os := os) (X := fun w _ => laidMetH Tryz.prog Rows.collateralOrderRow.laid w) false (World.doorLaid Tryz.prog 400 os) #[.agg #[.slice none 0 0, .slice none 0 0, .slice none 0 0], .slice none 0 0, .agg #[.string ⟨#[]⟩, .int .i64 0], .agg #[.string ⟨#[]⟩, .int .i64 0]] 8 rfl (World.shaped_of_RefB (by kernel_rfl) (by kernel_rfl)) (by kernel_rfl) (by kernel_rfl) (by kernel_rfl) (doorRd os _)) ?_
  intro W base args ds gs before hval0 hW _ _ _ _
  have hval : ∀ (j : Nat) t v, Tryz.f6.params[j]? = some t → args[j]? = some v → Value.okWide Tryz.prog W .any base t v := hval0
  have hW' := hW
  obtain ⟨p, q, hA0, hV, rfl, hfz, hnd⟩ := hW
  have hA : DataW.TrodAll enc Tryz.prog W 0 (fun _ => true) true Tryz.f6.params.toList args.toList ds p := hA0
  rw [Tryz.params6] at hA hval
  obtain ⟨v0, v1, v2, v3, d0, d1, d2, d3, p0, p1, p2, p3, rfl, rfl, rfl, h0, h1, h2, h3⟩ := trodAll_four hA
  obtain ⟨rfl, rfl⟩ := trodVars_none hV
  obtain ⟨cs0, rfl, -⟩ := okWide_struct Tryz.underlying26 (hval 0 26 v0 rfl rfl)
  obtain ⟨fuel0, h0⟩ := h0
  obtain ⟨V0, e0, g0⟩ := open_V h0
  obtain rfl : cs0 = #[V0.x0, V0.x1, V0.x2] := Array.ext' e0
  obtain ⟨a1, n1, c1, rfl⟩ := okWide_slice Tryz.underlying27 (hval 1 27 v1 rfl rfl)
  obtain ⟨fuel1, h1⟩ := h1
  obtain ⟨x1, l1, e1, g1⟩ := open_ops h1
  obtain rfl : Value.slice a1 n1 c1 = x1 := by simpa [Value.cells] using e1
  obtain ⟨cs2, rfl, -⟩ := okWide_struct Tryz.underlying45 (hval 2 45 v2 rfl rfl)
  obtain ⟨fuel2, h2⟩ := h2
  obtain ⟨k2, q2, e2, g2⟩ := open_L h2
  obtain rfl : cs2 = #[.string k2, .int .i64 q2] := Array.ext' e2
  obtain ⟨cs3, rfl, -⟩ := okWide_struct Tryz.underlying45 (hval 3 45 v3 rfl rfl)
  obtain ⟨fuel3, h3⟩ := h3
  obtain ⟨k3, q3, e3, g3⟩ := open_L h3
  obtain rfl : cs3 = #[.string k3, .int .i64 q3] := Array.ext' e3
  refine (order_law W V0 _ l1 k2 q2 k3 q3 g0 g1 g2 g3).mono fun e W' ⟨he, hb⟩ => ?_
  subst he
  exact ⟨_, rfl, law_post laidOutRd rfl (by kernel_rfl) rfl paramsRd hW' hb⟩
theorem saidRd : Rows.CollateralOrderSaid :=
  OpenClaim.holds_of_wide 6 Tryz.f6 rfl rfl rfl rfl rfl rfl rfl ⟨rfl, rfl, rfl, rfl, rfl⟩ rfl rfl rfl rfl rfl (by kernel_rfl) Tryz.func6 (by kernel_rfl)
    (of_decide_eq_true (by kernel_rfl)) (by unfold Func.isWrapper; first | (rw [if_pos (by decide +kernel)]; kernel_rfl) | (rw [if_neg (by decide +kernel)]; exact ⟨rfl, rfl⟩))
    (fun os started H enc _ => liftedRd os started H enc)
theorem collateralOrder_card : Rows.CollateralOrderCardSaid :=
  Claim7.holds_tied_plain_at .later [] [.data, .data, .data] true Rows.collateralOrderCard.stood.harness true
    saidRd (fun _ h => by cases h) (by kernel_rfl) (fun _ h => by cases h) collateralOrder_row_tie rfl ⟨rfl, rfl⟩ (by kernel_rfl) rfl
    (fun f fn hf hfn => by
      obtain rfl : f = 6 := Option.some.inj ((show Tryz.prog.funcNamed "giro/girolaw34.CollateralOrder" = some 6 by kernel_rfl).symm.trans hf) |>.symm
      obtain rfl : fn = Tryz.f6 := (Option.some.inj (Tryz.func6.symm.trans hfn)).symm
      exact ⟨by kernel_rfl, fun j t ht => by
        rw [Tryz.params6] at ht
        have hm : t ∈ [26, 27, 45, 45] := by simpa using Array.mem_of_getElem? ht
        have hall : ([26, 27, 45, 45].all fun u => !Tryz.prog.wantsStandIn u) = true := by kernel_rfl
        exact (show Tryz.prog.wantsStandIn t = false by simpa using List.all_eq_true.1 hall t hm)⟩)
    (by kernel_rfl)
#print axioms collateralOrder_card
end Go.Proofs.YtjjnljfphaimgaaGreatDoor
