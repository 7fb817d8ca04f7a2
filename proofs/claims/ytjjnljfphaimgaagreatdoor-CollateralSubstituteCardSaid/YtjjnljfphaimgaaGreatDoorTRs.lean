/- For every valuation, list of operations and two positions, girolaw34.CollateralSubstitute returns true and leaves its arguments as they were. Conditions: the row's own (the listed package variables start as the program's text lays them; the card ties them to the text). -/
import Derived.SevenTiedAt
import Derived.Test.YtjjnljfphaimgaaGreatDoorRows
import Derived.Test.YtjjnljfphaimgaaGreatDoorCards
import Derived.Test.YtjjnljfphaimgaaGreatDoorTie
import Derived.Test.YtjjnljfphaimgaaGreatDoorK15
set_option linter.all false
/- girolaw34.CollateralSubstitute. (Printed by genlaw34.py.) -/
namespace Go.Proofs.YtjjnljfphaimgaaGreatDoor.C
open Go Go.RowKit Go.Shelf Go.Proofs

set_option maxRecDepth 100000 in
set_option maxHeartbeats 16000000 in
theorem subst_law (w : World) (V : VS) (v : Value) (l : List OpS) (ak : ByteArray) (an : Int) (bk : ByteArray) (bn : Int) (hv : VOk w V) (hl : OpsAt w w.heap.size v l) (ha : ak.size ≤ maxLen ∧ -9223372036854775808 ≤ an ∧ an ≤ 9223372036854775807) (hb : bk.size ≤ maxLen ∧ -9223372036854775808 ≤ bn ∧ bn ≤ 9223372036854775807) :
    Calls Tryz.prog 7 #[aggV V, v, .agg #[.string ak, .int .i64 an], .agg #[.string bk, .int .i64 bn]] w (LawPost w) := by
  have HA := Lib.hid ha
  have HBB := Lib.hid hb
  clear ha hb
  obtain ⟨ao, cap, hsl, -⟩ := hl.ex
  subst hsl
  have HL := Lib.hid hl
  have hlen := hl.len
  have HV := Lib.hid hv
  have HB := Lib.hid ((((Below.refl w.heap.size w).alloc (Nat.le_refl _) (.cells #[V.x0, V.x1, V.x2] 26)).alloc (by simp) (.cells #[.string ak, .int .i64 an] 45)).alloc (by simp; omega) (.cells #[.string bk, .int .i64 bn] 45))
  have HX := Lib.hid (blk_alloc (blk_alloc (blk_new w (.cells #[V.x0, V.x1, V.x2] 26)) (.cells #[.string ak, .int .i64 an] 45)) (.cells #[.string bk, .int .i64 bn] 45))
  have HZ1 : Hid ((((w.alloc (.cells #[V.x0, V.x1, V.x2] 26)).alloc (.cells #[.string ak, .int .i64 an] 45)).alloc (.cells #[.string bk, .int .i64 bn] 45)).heap[w.heap.size + 1]? = some (.cells #[.string ak, .int .i64 an] 45 (0, 0))) := Lib.hid (by
    have := blk_alloc (blk_new (w.alloc (.cells #[V.x0, V.x1, V.x2] 26)) (.cells #[.string ak, .int .i64 an] 45)) (.cells #[.string bk, .int .i64 bn] 45)
    rw [show (w.alloc (.cells #[V.x0, V.x1, V.x2] 26)).heap.size = w.heap.size + 1 from by simp] at this
    exact this)
  have HZ2 : Hid ((((w.alloc (.cells #[V.x0, V.x1, V.x2] 26)).alloc (.cells #[.string ak, .int .i64 an] 45)).alloc (.cells #[.string bk, .int .i64 bn] 45)).heap[w.heap.size + 1 + 1]? = some (.cells #[.string bk, .int .i64 bn] 45 (0, 0))) := Lib.hid (by
    have := blk_new ((w.alloc (.cells #[V.x0, V.x1, V.x2] 26)).alloc (.cells #[.string ak, .int .i64 an] 45)) (.cells #[.string bk, .int .i64 bn] 45)
    rw [show ((w.alloc (.cells #[V.x0, V.x1, V.x2] 26)).alloc (.cells #[.string ak, .int .i64 an] 45)).heap.size = w.heap.size + 1 + 1 from by simp] at this
    exact this)
  clear hl hv
  unfold maxLen at hlen
  unfold aggV
  unfold VS.x0 VS.x1 VS.x2 at *
  go_enter Tryz.func7, Tryz.ntmps7
  go_wp2_with fail
  generalize ((w.alloc (.cells #[.slice V.a0 V.l0.length V.c0, .slice V.a1 V.l1.length V.c1, .slice V.a2 V.l2.length V.c2] 26)).alloc (.cells #[.string ak, .int .i64 an] 45)).alloc (.cells #[.string bk, .int .i64 bn] 45) = W1 at HB HX HZ1 HZ2 ⊢
  have x0 := (blk_cell HX.out 0).trans rfl
  have x1 := (blk_cell HX.out 1).trans rfl
  have x2 := (blk_cell HX.out 2).trans rfl
  go_wp2_with fail
  refine (few_calls _ V HV.out.l0 HV.out.l1 HV.out.l2).mono ?_
  rintro e W2 ⟨rfl, hb⟩
  have HB2 := Lib.hid (bstep HB.out hb HB.out.size)
  have HX2 := Lib.hid (blk_keep hb HX.out (Nat.le_refl _))
  have HZ12 := Lib.hid (blk_keep hb HZ1.out (Nat.le_refl _))
  have HZ22 := Lib.hid (blk_keep hb HZ2.out (Nat.le_refl _))
  clear hb HB HX HZ1 HZ2 x0 x1 x2
  have hlx := blk_lt HZ22.out
  have x0 := (blk_cell HX2.out 0).trans rfl
  have x1 := (blk_cell HX2.out 1).trans rfl
  have x2 := (blk_cell HX2.out 2).trans rfl
  cases hfw : fewB V
  · clear hfw
    go_wp2_with fail
    refine (known_calls _).mono ?_
    rintro e W3 ⟨rfl, hb⟩
    have HB3 := Lib.hid (bstep HB2.out hb HB2.out.size)
    clear hb
    go_wp2_with fail
    go_ret
    exact ⟨rfl, HB3.out⟩
  have HVA := Lib.hid (HV.out.rd.few hfw)
  clear hfw
  go_wp2_with fail
  refine (build_calls w W2 V _ l HVA.out HL.out HB2.out).mono ?_
  rintro e W3 ⟨p, m, sl, rfl, hp, hb, hpw, hmw⟩
  have hown := bld_owner (l.take 30) V
  generalize bldF (l.take 30) (new0 V) = r at hp hown ⊢
  obtain ⟨V', S'⟩ := r
  simp only at hp hown ⊢
  have HOW := Lib.hid hown
  have HP3 := Lib.hid hp
  have HB3 := Lib.hid (bstep HB2.out hb HB2.out.size)
  have HX3 := Lib.hid (blk_keep hb HX2.out (Nat.le_refl _))
  have HZ13 := Lib.hid (blk_keep hb HZ12.out (Nat.le_refl _))
  have HZ23 := Lib.hid (blk_keep hb HZ22.out (Nat.le_refl _))
  clear hb HB2 HX2 HZ12 HZ22 x0 x1 x2 hp hown
  obtain ⟨ao2, cap2, hsl2, -⟩ := row_open HP3.out.row
  subst hsl2
  unfold rP VS.x0 VS.x1 VS.x2
  have HS4 : Hid (BSq w w (W3.alloc (.cells #[.string S'.owner, .slice V'.a0 V'.l0.length V'.c0, .slice V'.a1 V'.l1.length V'.c1, .slice V'.a2 V'.l2.length V'.c2, .slice ao2 S'.L.length cap2, .int .i64 S'.req] 38)) p m V' S' (.slice ao2 S'.L.length cap2) W3.heap.size) := Lib.hid
    ⟨HP3.out.below ((Below.refl _ _).alloc (Nat.le_refl _) _), blk_new _ _, HB3.out.alloc HB3.out.size _⟩
  have HZ14 := Lib.hid (blk_alloc HZ13.out (.cells #[.string S'.owner, .slice V'.a0 V'.l0.length V'.c0, .slice V'.a1 V'.l1.length V'.c1, .slice V'.a2 V'.l2.length V'.c2, .slice ao2 S'.L.length cap2, .int .i64 S'.req] 38))
  have HZ24 := Lib.hid (blk_alloc HZ23.out (.cells #[.string S'.owner, .slice V'.a0 V'.l0.length V'.c0, .slice V'.a1 V'.l1.length V'.c1, .slice V'.a2 V'.l2.length V'.c2, .slice ao2 S'.L.length cap2, .int .i64 S'.req] 38))
  go_upto_region 4 with fail
  obtain ⟨b8, hb8e⟩ : ∃ b8, W3.heap.size = b8 := ⟨_, rfl⟩
  have hb8 : w.heap.size ≤ b8 := by have := HB3.out.size; omega
  rw [hb8e] at HS4
  simp only [hb8e]
  clear hb8e HP3 HX3 HZ13 HZ23
  generalize W3.alloc (.cells #[.string S'.owner, .slice V'.a0 V'.l0.length V'.c0, .slice V'.a1 V'.l1.length V'.c1, .slice V'.a2 V'.l2.length V'.c2, .slice ao2 S'.L.length cap2, .int .i64 S'.req] 38) = W4 at HS4 HZ14 HZ24 ⊢
  go_upto_region 6 with fail
  have HB4 := Lib.hid HS4.out.b
  clear HL HV
  go_wp2_with fail
  refine (HS4.out.pair.own.clone).mono ?_
  rintro e W5 ⟨q, mq, rfl, h5, hq5, hmq5, hb5⟩
  have HQ5 := Lib.hid h5
  have HS5 := Lib.hid (HS4.out.below hb5)
  have HA5 := Lib.hid (blk_keep hb5 HZ14.out (Nat.le_refl _))
  have HB5 := Lib.hid (blk_keep hb5 HZ24.out (Nat.le_refl _))
  have hqp : p < W4.heap.size := HS4.out.pair.pool.lt
  have hqm : m < W4.heap.size := HS4.out.pair.pool.2.lt
  clear h5 hb5 HS4 HZ14 HZ24 HB4
  obtain ⟨a0, a1⟩ : W5.cell? ⟨w.heap.size + 1, 0, none⟩ = some (.string ak) ∧ W5.cell? ⟨w.heap.size + 1, 1, none⟩ = some (.int .i64 an) := ⟨(blk_cell HA5.out 0).trans rfl, (blk_cell HA5.out 1).trans rfl⟩
  obtain ⟨b0, b1⟩ : W5.cell? ⟨w.heap.size + 1 + 1, 0, none⟩ = some (.string bk) ∧ W5.cell? ⟨w.heap.size + 1 + 1, 1, none⟩ = some (.int .i64 bn) := ⟨(blk_cell HB5.out 0).trans rfl, (blk_cell HB5.out 1).trans rfl⟩
  go_wp2_with fail
  refine (HS5.out.pair.own.subst ak HA.out.1 an bk HBB.out.1 bn).mono ?_
  rintro e W6 ⟨rfl, h6, hF6⟩
  have HO6 := Lib.hid h6
  have HQ6 := Lib.hid (HQ5.out.other hF6 h6.base (by omega) (by omega) (by omega) (by omega))
  have HR6 := Lib.hid (row_fr HS5.out.pair.row HS5.out.pair.pool hF6)
  have HX6 : Hid (boxAt W6 b8 V' S' (.slice ao2 S'.L.length cap2)) := Lib.hid ((hF6.block b8 (blk_lt HS5.out.x) (box_ne HS5.out.x HS5.out.pair.pool).1 (box_ne HS5.out.x HS5.out.pair.pool).2).trans HS5.out.x)
  have HA6 := Lib.hid ((hF6.block _ (blk_lt HA5.out) (by omega) (by omega)).trans HA5.out)
  have HB6 := Lib.hid ((hF6.block _ (blk_lt HB5.out) (by omega) (by omega)).trans HB5.out)
  clear h6 hF6 HQ5 HS5 HA5 HB5 a0 a1 b0 b1
  obtain ⟨a0, a1⟩ : W6.cell? ⟨w.heap.size + 1, 0, none⟩ = some (.string ak) ∧ W6.cell? ⟨w.heap.size + 1, 1, none⟩ = some (.int .i64 an) := ⟨(blk_cell HA6.out 0).trans rfl, (blk_cell HA6.out 1).trans rfl⟩
  obtain ⟨b0, b1⟩ : W6.cell? ⟨w.heap.size + 1 + 1, 0, none⟩ = some (.string bk) ∧ W6.cell? ⟨w.heap.size + 1 + 1, 1, none⟩ = some (.int .i64 bn) := ⟨(blk_cell HB6.out 0).trans rfl, (blk_cell HB6.out 1).trans rfl⟩
  obtain ⟨x0, x1, x2, x3, x4, x5⟩ := sixV HX6.out
  go_wp2_with fail
  refine ((HQ6.out.pair HR6.out).refSubst ak HA.out.1 an bk HBB.out.1 bn HA.out.2.1 HA.out.2.2 HBB.out.2.1 HBB.out.2.2).mono ?_
  rintro e W7 ⟨sl7, rfl, hr7, hb⟩
  have HO7 := Lib.hid (HO6.out.below hb)
  have HQ7 := Lib.hid (HQ6.out.below hb)
  have HA7 := Lib.hid (blk_keep hb HA6.out (Nat.le_refl _))
  have HB7 := Lib.hid (blk_keep hb HB6.out (Nat.le_refl _))
  have HR7 := Lib.hid hr7
  clear hb hr7 HO6 HQ6 HR6 HX6 HA6 HB6 a0 a1 b0 b1 x0 x1 x2 x3 x4 x5
  obtain ⟨X, hX⟩ : ∃ X, substF (fV V') S' ak an bk bn = X := ⟨_, rfl⟩
  rw [hX] at HO7 HR7
  simp only [hX]
  have HX := Lib.hid hX
  clear hX
  obtain ⟨cd, S2⟩ := X
  simp only at HO7 HR7 ⊢
  obtain ⟨ao7, cap7, hsl7, -⟩ := row_open HR7.out
  subst hsl7
  unfold rP VS.x0 VS.x1 VS.x2
  have hcc : (cd != cd) = false := by simp
  go_wp2_with fail
  have HP8 := Lib.hid ((HO7.out.pair HR7.out).below ((Below.refl _ _).alloc (Nat.le_refl _) (.cells #[.string S2.owner, .slice V'.a0 V'.l0.length V'.c0, .slice V'.a1 V'.l1.length V'.c1, .slice V'.a2 V'.l2.length V'.c2, .slice ao7 S2.L.length cap7, .int .i64 S2.req] 38)))
  have HX8 : Hid (boxAt _ W7.heap.size V' S2 (.slice ao7 S2.L.length cap7)) := Lib.hid (blk_new W7 (.cells #[.string S2.owner, .slice V'.a0 V'.l0.length V'.c0, .slice V'.a1 V'.l1.length V'.c1, .slice V'.a2 V'.l2.length V'.c2, .slice ao7 S2.L.length cap7, .int .i64 S2.req] 38))
  have HQ8 := Lib.hid (HQ7.out.below ((Below.refl _ _).alloc (Nat.le_refl _) (.cells #[.string S2.owner, .slice V'.a0 V'.l0.length V'.c0, .slice V'.a1 V'.l1.length V'.c1, .slice V'.a2 V'.l2.length V'.c2, .slice ao7 S2.L.length cap7, .int .i64 S2.req] 38)))
  have HA8 := Lib.hid (blk_alloc HA7.out (.cells #[.string S2.owner, .slice V'.a0 V'.l0.length V'.c0, .slice V'.a1 V'.l1.length V'.c1, .slice V'.a2 V'.l2.length V'.c2, .slice ao7 S2.L.length cap7, .int .i64 S2.req] 38))
  have HB8 := Lib.hid (blk_alloc HB7.out (.cells #[.string S2.owner, .slice V'.a0 V'.l0.length V'.c0, .slice V'.a1 V'.l1.length V'.c1, .slice V'.a2 V'.l2.length V'.c2, .slice ao7 S2.L.length cap7, .int .i64 S2.req] 38))
  have l7 : W4.heap.size ≤ W7.heap.size := by have := HQ7.out.pool.lt; omega
  generalize W7.alloc (.cells #[.string S2.owner, .slice V'.a0 V'.l0.length V'.c0, .slice V'.a1 V'.l1.length V'.c1, .slice V'.a2 V'.l2.length V'.c2, .slice ao7 S2.L.length cap7, .int .i64 S2.req] 38) = W8 at HP8 HX8 HQ8 HA8 HB8 ⊢
  clear HO7 HQ7 HA7 HB7 HR7
  obtain ⟨x0, x1, x2, x3, x4, x5⟩ := sixV HX8.out
  go_wp2_with fail
  refine (HP8.out.same_calls).mono ?_
  rintro e W9 ⟨rfl, hb⟩
  have HO9 := Lib.hid (HP8.out.own.below hb)
  have HQ9 := Lib.hid (HQ8.out.below hb)
  have HA9 := Lib.hid (blk_keep hb HA8.out (Nat.le_refl _))
  have HB9 := Lib.hid (blk_keep hb HB8.out (Nat.le_refl _))
  clear hb HP8 HX8 HQ8 HA8 HB8 x0 x1 x2 x3 x4 x5 hcc
  by_cases e1 : cd = 0
  · subst e1
    obtain ⟨b0, b1⟩ : W9.cell? ⟨w.heap.size + 1 + 1, 0, none⟩ = some (.string bk) ∧ W9.cell? ⟨w.heap.size + 1 + 1, 1, none⟩ = some (.int .i64 bn) := ⟨(blk_cell HB9.out 0).trans rfl, (blk_cell HB9.out 1).trans rfl⟩
    go_wp2_with fail
    refine (HQ9.out.pledge bk HBB.out.1 bn).mono ?_
    rintro e W10 ⟨rfl, h10, hF10⟩
    have HQ10 := Lib.hid h10
    have HO10 := Lib.hid (HO9.out.other hF10 h10.base (by omega) (by omega) (by omega) (by omega))
    have HA10 := Lib.hid ((hF10.block _ (blk_lt HA9.out) (by omega) (by omega)).trans HA9.out)
    clear h10 hF10
    by_cases e2 : (pledgeF (fV V') S' bk bn).1 = 0
    · have HSO := Lib.hid (subst_order (ok := ak) (ik := bk) (oq := an) (iq := bn) HQ9.out.sim (by rw [HX.out]) e2)
      rw [HX.out] at HSO
      clear HQ9 HO9 HA9 HB9 b0 b1
      rw [e2]
      clear e2
      obtain ⟨a0, a1⟩ : W10.cell? ⟨w.heap.size + 1, 0, none⟩ = some (.string ak) ∧ W10.cell? ⟨w.heap.size + 1, 1, none⟩ = some (.int .i64 an) := ⟨(blk_cell HA10.out 0).trans rfl, (blk_cell HA10.out 1).trans rfl⟩
      go_wp2_with fail
      refine (HQ10.out.release ak HA.out.1 an).mono ?_
      rw [HSO.out]
      rintro e W11 ⟨rfl, h11, hF11⟩
      have HQ11 := Lib.hid h11
      have HO11 := Lib.hid (HO10.out.other hF11 h11.base (by omega) (by omega) (by omega) (by omega))
      clear h11 hF11 HQ10 HO10 HA10 a0 a1
      go_wp2_with fail
      refine (HQ11.out.equal HO11.out).mono ?_
      rw [eqF_self]
      rintro e W12 ⟨rfl, hb⟩
      have HO12 := Lib.hid (HO11.out.below hb)
      clear hb HQ11 HO11
      go_wp2_with fail
      refine (known_calls _).mono ?_
      rintro e W40 ⟨rfl, hb⟩
      have HF40 := Lib.hid (bstep HO12.out.base hb (HO12.out.base).size)
      clear hb
      go_wp2_with fail
      go_ret
      exact ⟨rfl, HF40.out⟩
    · have hz : ((pledgeF (fV V') S' bk bn).1 != 0) = true := by simpa using e2
      clear e2 HQ9 HO9 HA9 HB9 b0 b1
      go_wp2_with fail
      refine (known_calls _).mono ?_
      rintro e W40 ⟨rfl, hb⟩
      have HF40 := Lib.hid (bstep HO10.out.base hb (HO10.out.base).size)
      clear hb
      go_wp2_with fail
      go_ret
      exact ⟨rfl, HF40.out⟩
  · have hz : (cd != 0) = true := by simpa using e1
    have hE : Hid (S2 = S') := Lib.hid (by
      have := subst_bad (f := fV V') (S := S') (ok := ak) (ik := bk) (oq := an) (iq := bn) (by rw [HX.out]; exact e1)
      rw [HX.out] at this; exact this)
    clear e1
    go_wp2_with fail
    refine (HO9.out.equal HQ9.out).mono ?_
    rw [hE.out, eqF_self]
    rintro e W10 ⟨rfl, hb⟩
    have HO10 := Lib.hid (HO9.out.below hb)
    clear hb
    go_wp2_with fail
    refine (known_calls _).mono ?_
    rintro e W40 ⟨rfl, hb⟩
    have HF40 := Lib.hid (bstep HO10.out.base hb (HO10.out.base).size)
    clear hb
    go_wp2_with fail
    go_ret
    exact ⟨rfl, HF40.out⟩
end Go.Proofs.YtjjnljfphaimgaaGreatDoor.C
/- For every valuation, list of operations and two positions, girolaw34.CollateralSubstitute returns true and leaves its arguments as they were. Conditions: the row's own (the listed package variables start as the program's text lays them; the card ties them to the text). -/
namespace Go.Proofs.YtjjnljfphaimgaaGreatDoor
open Go Go.RowKit Go.ChangeShapes Go.WideShapes Go.ChangeAt
open Go.Proofs.YtjjnljfphaimgaaGreatDoor.C

theorem ownRs : ownKnob Tryz.prog.godebug = none := by kernel_rfl
theorem laidOutRs : laidOutB Tryz.prog = true := by kernel_rfl
theorem doorRs (os : Os) (args : Array Value) : laidMetH Tryz.prog Rows.collateralSubstituteRow.laid ((World.doorLaid Tryz.prog 400 os).forCall (fun _ _ => 0) ⟨#[], args, []⟩).memory :=
  laidMetH_of_parts3 (fuel := 8) (laidMet_of_run' 8 (by kernel_rfl) (by kernel_rfl)) (by kernel_rfl) (by kernel_rfl)
theorem paramsRs : ∀ t ∈ Tryz.f7.params.toList, Tryz.prog.readableRec t = true ∧ t < Tryz.prog.types.size := by
  have h : (Tryz.f7.params.toList.all fun t => Tryz.prog.readableRec t && decide (t < Tryz.prog.types.size)) = true := by kernel_rfl
  intro t ht
  simpa using List.all_eq_true.1 h t ht
set_option maxRecDepth 100000 in
theorem liftedRs (os : Os) (started : os.Started) (H : Type) (enc : TypeId × Value → H) :
    ReturnsInHanded {} Tryz.checked os 7 .any (fun w args => (Rows.collateralSubstituteSpec.pre enc Tryz.prog Tryz.f7 [] false w args ∧ laidMetH Tryz.prog Rows.collateralSubstituteRow.laid w) ∧ sizedMet enc Tryz.prog Tryz.f7 (OpenSpec.ofChange Rows.collateralSubstituteSpec) false w args)
      (Rows.collateralSubstituteSpec.post enc Tryz.prog Tryz.f7 false true false false) := by
  refine returnsInHanded_of_change_and (C := Tryz.checked) (X := fun w _ => laidMetH Tryz.prog Rows.collateralSubstituteRow.laid w) (fun _ _ _ hh h => h.of_heap hh) ownRs started (by kernel_rfl) Tryz.func7
    (ChangeSpec.witness_shaped (enc := enc) (C := Tryz.checked) (os := os) (X := fun w _ => laidMetH Tryz.prog Rows.collateralSubstituteRow.laid w) false (World.doorLaid Tryz.prog 400 os) #[.agg #[.slice none 0 0, .slice none 0 0, .slice none 0 0], .slice none 0 0, .agg #[.string ⟨#[]⟩, .int .i64 0], .agg #[.string ⟨#[]⟩, .int .i64 0]] 8 rfl (World.shaped_of_RefB (by kernel_rfl) (by kernel_rfl)) (by kernel_rfl) (by kernel_rfl) (by kernel_rfl) (doorRs os _)) ?_
  intro W base args ds gs before hval0 hW _ _ _ _
  have hval : ∀ (j : Nat) t v, Tryz.f7.params[j]? = some t → args[j]? = some v → Value.okWide Tryz.prog W .any base t v := hval0
  have hW' := hW
  obtain ⟨p, q, hA0, hV, rfl, hfz, hnd⟩ := hW
  have hA : DataW.TrodAll enc Tryz.prog W 0 (fun _ => true) true Tryz.f7.params.toList args.toList ds p := hA0
  rw [Tryz.params7] at hA hval
  obtain ⟨v0, v1, v2, v3, d0, d1, d2, d3, p0, p1, p2, p3, rfl, rfl, rfl, h0, h1, h2, h3⟩ := trodAll_four hA
  obtain ⟨rfl, rfl⟩ := trodVars_none hV
  obtain ⟨cs0, rfl, -⟩ := okWide_struct Tryz.underlying26 (hval 0 26 v0 rfl rfl)
  obtain ⟨fuel0, h0⟩ := h0
  obtain ⟨V0, e0, g0⟩ := open_V h0
  obtain rfl : cs0 = #[V0.x0, V0.x1, V0.x2] := Array.ext' e0
  obtain ⟨a1, n1, c1, rfl⟩ := okWide_slice Tryz.underlying27 (hval 1 27 v1 rfl rfl)
  obtain ⟨fuel1, h1⟩ := h1
  obtain ⟨x1, l1, e1, g1⟩ := open_ops h1
  obtain rfl : Value.slice a1 n1 c1 = x1 := by simpa [Value.cells] using e1
  obtain ⟨cs2, rfl, -⟩ := okWide_struct Tryz.underlying45 (hval 2 45 v2 rfl rfl)
  obtain ⟨fuel2, h2⟩ := h2
  obtain ⟨k2, q2, e2, g2⟩ := open_L h2
  obtain rfl : cs2 = #[.string k2, .int .i64 q2] := Array.ext' e2
  obtain ⟨cs3, rfl, -⟩ := okWide_struct Tryz.underlying45 (hval 3 45 v3 rfl rfl)
  obtain ⟨fuel3, h3⟩ := h3
  obtain ⟨k3, q3, e3, g3⟩ := open_L h3
  obtain rfl : cs3 = #[.string k3, .int .i64 q3] := Array.ext' e3
  refine (subst_law W V0 _ l1 k2 q2 k3 q3 g0 g1 g2 g3).mono fun e W' ⟨he, hb⟩ => ?_
  subst he
  exact ⟨_, rfl, law_post laidOutRs rfl (by kernel_rfl) rfl paramsRs hW' hb⟩
theorem saidRs : Rows.CollateralSubstituteSaid :=
  OpenClaim.holds_of_wide 7 Tryz.f7 rfl rfl rfl rfl rfl rfl rfl ⟨rfl, rfl, rfl, rfl, rfl⟩ rfl rfl rfl rfl rfl (by kernel_rfl) Tryz.func7 (by kernel_rfl)
    (of_decide_eq_true (by kernel_rfl)) (by unfold Func.isWrapper; first | (rw [if_pos (by decide +kernel)]; kernel_rfl) | (rw [if_neg (by decide +kernel)]; exact ⟨rfl, rfl⟩))
    (fun os started H enc _ => liftedRs os started H enc)
theorem collateralSubstitute_card : Rows.CollateralSubstituteCardSaid :=
  Claim7.holds_tied_plain_at .later [] [.data, .data, .data] true Rows.collateralSubstituteCard.stood.harness true
    saidRs (fun _ h => by cases h) (by kernel_rfl) (fun _ h => by cases h) collateralSubstitute_row_tie rfl ⟨rfl, rfl⟩ (by kernel_rfl) rfl
    (fun f fn hf hfn => by
      obtain rfl : f = 7 := Option.some.inj ((show Tryz.prog.funcNamed "giro/girolaw34.CollateralSubstitute" = some 7 by kernel_rfl).symm.trans hf) |>.symm
      obtain rfl : fn = Tryz.f7 := (Option.some.inj (Tryz.func7.symm.trans hfn)).symm
      exact ⟨by kernel_rfl, fun j t ht => by
        rw [Tryz.params7] at ht
        have hm : t ∈ [26, 27, 45, 45] := by simpa using Array.mem_of_getElem? ht
        have hall : ([26, 27, 45, 45].all fun u => !Tryz.prog.wantsStandIn u) = true := by kernel_rfl
        exact (show Tryz.prog.wantsStandIn t = false by simpa using List.all_eq_true.1 hall t hm)⟩)
    (by kernel_rfl)
#print axioms collateralSubstitute_card
end Go.Proofs.YtjjnljfphaimgaaGreatDoor
