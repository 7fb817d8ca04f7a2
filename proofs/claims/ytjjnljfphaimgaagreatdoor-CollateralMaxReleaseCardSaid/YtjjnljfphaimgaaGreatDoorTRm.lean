/- For every valuation, list of operations and asset, girolaw34.CollateralMaxRelease returns true and leaves its arguments as they were. Conditions: the row's own (the listed package variables start as the program's text lays them; the card ties them to the text). -/
import Derived.SevenTiedAt
import Derived.Test.YtjjnljfphaimgaaGreatDoorRows
import Derived.Test.YtjjnljfphaimgaaGreatDoorCards
import Derived.Test.YtjjnljfphaimgaaGreatDoorTie
import Derived.Test.YtjjnljfphaimgaaGreatDoorK15
set_option linter.all false
/- girolaw34.CollateralMaxRelease. (Printed by genlaw34.py.) -/
namespace Go.Proofs.YtjjnljfphaimgaaGreatDoor.C
open Go Go.RowKit Go.Shelf Go.Proofs

set_option maxRecDepth 100000 in
set_option maxHeartbeats 16000000 in
theorem maxRelease_law (w : World) (V : VS) (v : Value) (l : List OpS) (k : ByteArray) (hv : VOk w V) (hl : OpsAt w w.heap.size v l) (hk : k.size ≤ maxLen) :
    Calls Tryz.prog 4 #[aggV V, v, .string k] w (LawPost w) := by
  obtain ⟨ao, cap, hsl, -⟩ := hl.ex
  subst hsl
  have HL := Lib.hid hl
  have hlen := hl.len
  have HV := Lib.hid hv
  have HB := Lib.hid ((Below.refl w.heap.size w).alloc (Nat.le_refl _) (.cells #[V.x0, V.x1, V.x2] 26))
  have HX := Lib.hid (blk_new w (.cells #[V.x0, V.x1, V.x2] 26))
  clear hl hv
  unfold maxLen at hlen
  unfold aggV
  unfold VS.x0 VS.x1 VS.x2 at *
  go_enter Tryz.func4, Tryz.ntmps4
  go_wp2_with fail
  generalize w.alloc (.cells #[.slice V.a0 V.l0.length V.c0, .slice V.a1 V.l1.length V.c1, .slice V.a2 V.l2.length V.c2] 26) = W1 at HB HX ⊢
  have x0 := (blk_cell HX.out 0).trans rfl
  have x1 := (blk_cell HX.out 1).trans rfl
  have x2 := (blk_cell HX.out 2).trans rfl
  go_wp2_with fail
  refine (few_calls _ V HV.out.l0 HV.out.l1 HV.out.l2).mono ?_
  rintro e W2 ⟨rfl, hb⟩
  have HB2 := Lib.hid (bstep HB.out hb HB.out.size)
  have HX2 := Lib.hid (blk_keep hb HX.out (Nat.le_refl _))
  clear hb HB HX x0 x1 x2
  have hlx := blk_lt HX2.out
  have x0 := (blk_cell HX2.out 0).trans rfl
  have x1 := (blk_cell HX2.out 1).trans rfl
  have x2 := (blk_cell HX2.out 2).trans rfl
  cases hfw : fewB V
  · clear hfw
    go_wp2_with fail
    refine (known_calls _).mono ?_
    rintro e W3 ⟨rfl, hb⟩
    have HB3 := Lib.hid (bstep HB2.out hb HB2.out.size)
    clear hb
    go_wp2_with fail
    go_ret
    exact ⟨rfl, HB3.out⟩
  have HVA := Lib.hid (HV.out.rd.few hfw)
  clear hfw
  go_wp2_with fail
  refine (build_calls w W2 V _ l HVA.out HL.out HB2.out).mono ?_
  rintro e W3 ⟨p, m, sl, rfl, hp, hb, hpw, hmw⟩
  have hown := bld_owner (l.take 30) V
  generalize bldF (l.take 30) (new0 V) = r at hp hown ⊢
  obtain ⟨V', S'⟩ := r
  simp only at hp hown ⊢
  have HOW := Lib.hid hown
  have HP3 := Lib.hid hp
  have HB3 := Lib.hid (bstep HB2.out hb HB2.out.size)
  have HX3 := Lib.hid (blk_keep hb HX2.out (Nat.le_refl _))
  clear hb HB2 HX2 x0 x1 x2 hp hown
  obtain ⟨ao2, cap2, hsl2, -⟩ := row_open HP3.out.row
  subst hsl2
  unfold rP VS.x0 VS.x1 VS.x2
  have HS4 : Hid (BSq w w (W3.alloc (.cells #[.string S'.owner, .slice V'.a0 V'.l0.length V'.c0, .slice V'.a1 V'.l1.length V'.c1, .slice V'.a2 V'.l2.length V'.c2, .slice ao2 S'.L.length cap2, .int .i64 S'.req] 38)) p m V' S' (.slice ao2 S'.L.length cap2) W3.heap.size) := Lib.hid
    ⟨HP3.out.below ((Below.refl _ _).alloc (Nat.le_refl _) _), blk_new _ _, HB3.out.alloc HB3.out.size _⟩
  go_upto_region 4 with fail
  obtain ⟨b8, hb8e⟩ : ∃ b8, W3.heap.size = b8 := ⟨_, rfl⟩
  have hb8 : w.heap.size ≤ b8 := by have := HB3.out.size; omega
  rw [hb8e] at HS4
  simp only [hb8e]
  clear hb8e HP3 HX3
  generalize W3.alloc (.cells #[.string S'.owner, .slice V'.a0 V'.l0.length V'.c0, .slice V'.a1 V'.l1.length V'.c1, .slice V'.a2 V'.l2.length V'.c2, .slice ao2 S'.L.length cap2, .int .i64 S'.req] 38) = W4 at HS4  ⊢
  go_upto_region 6 with fail
  have HD : BSqc w w W4.drew p m V' S' (.slice ao2 S'.L.length cap2) b8 := (HS4.out.below (Below.refl _ _).drew).cells
  unfold BSqc at HD
  go_region_held3 (fun W => W.cell? ⟨b8, 0, none⟩ = some (.string S'.owner) ∧ W.cell? ⟨b8, 1, none⟩ = some (.slice V'.a0 V'.l0.length V'.c0) ∧ W.cell? ⟨b8, 2, none⟩ = some (.slice V'.a1 V'.l1.length V'.c1) ∧ W.cell? ⟨b8, 3, none⟩ = some (.slice V'.a2 V'.l2.length V'.c2) ∧ W.cell? ⟨b8, 4, none⟩ = some (.slice ao2 S'.L.length cap2) ∧ W.cell? ⟨b8, 5, none⟩ = some (.int .i64 S'.req) ∧ BSq w w W p m V' S' (.slice ao2 S'.L.length cap2) b8)
    (first | with_reducible exact HD | with_reducible exact HH5 | with_reducible exact HH6 | with_reducible trivial)
    (first
      | (go_at_call 17
         refine ((bsq_of (by assumption)).pair.own.max k hk).mono ?_
         rintro e W5 ⟨n, rfl, n0, n1, n2, n3, hb⟩
         have HN := Lib.hid (And.intro n2 n3)
         have HS5 := Lib.hid ((bsq_of (by assumption)).below hb)
         have HH5 := HS5.out.cells
         unfold BSqc at HH5
         clear hb n2 n3)
      | (go_at_call 18
         refine ((bsq_of (by assumption)).pair.refQuantity k).mono ?_
         rintro e W6 ⟨rfl, hb⟩
         have HS6 := Lib.hid ((bsq_of (by assumption)).below hb)
         have HH6 := HS6.out.cells
         unfold BSqc at HH6
         clear hb))
  rename_i hHeld
  clear hHeld HD HH5 HH6
  have q0 := (HS6.out.pair.sim.ok.qty k).1
  have q1 := (HS6.out.pair.sim.ok.qty k).2.1
  by_cases hlt : n < qty S'.L k
  · have HM := Lib.hid (maxrel_more HS6.out.pair.sim n0 hlt (HN.out.1 hlt))
    obtain ⟨x0, x1, x2, x3, x4, x5⟩ := sixV HS6.out.x
    go_wp2_with fail
    refine (HS6.out.pair.refRelease k hk (n + 1) (by omega) (by omega)).mono ?_
    rintro e W7 ⟨sl7, rfl, hr7, hb⟩
    have HS7 := Lib.hid (HS6.out.below hb)
    have HR7 := Lib.hid hr7
    clear hb hr7 x0 x1 x2 x3 x4 x5
    generalize hX : releaseF (fV V') S' k (n + 1) = X at HM HR7 ⊢
    have HX := Lib.hid hX
    clear hX
    obtain ⟨cd, S7⟩ := X
    simp only at HM HR7 ⊢
    obtain ⟨ao7, cap7, hsl7, -⟩ := row_open HR7.out
    subst hsl7
    unfold rP VS.x0 VS.x1 VS.x2
    have hcd : (cd == 0) = false := by have := HM.out; simpa using this
    go_wp2_with fail
    have HS8 := Lib.hid (HS7.out.below ((Below.refl _ _).alloc (Nat.le_refl _) (.cells #[.string S7.owner, .slice V'.a0 V'.l0.length V'.c0, .slice V'.a1 V'.l1.length V'.c1, .slice V'.a2 V'.l2.length V'.c2, .slice ao7 S7.L.length cap7, .int .i64 S7.req] 38)))
    generalize W7.alloc (.cells #[.string S7.owner, .slice V'.a0 V'.l0.length V'.c0, .slice V'.a1 V'.l1.length V'.c1, .slice V'.a2 V'.l2.length V'.c2, .slice ao7 S7.L.length cap7, .int .i64 S7.req] 38) = W8 at HS8 ⊢
    refine (HS8.out.pair.own.clone).mono ?_
    rintro e W9 ⟨p9, m9, rfl, h9, hp9, hm9, hb9⟩
    have HB9 := Lib.hid hb9
    have HO9 := Lib.hid h9
    clear h9 hb9 HS7
    clear hcd
    have hcd : (cd == 0) = false := by have := HM.out; simpa using this
    go_wp2_with fail
    refine (HO9.out.release k hk (n + 1)).mono ?_
    rw [HX.out]
    rintro e W10 ⟨rfl, h10, hF10⟩
    have HT7 := Lib.hid (HS8.out.below (HB9.out.trans (hF10.below hp9 hm9 HB9.out.size)))
    clear h10 hF10 HS8 HO9 HB9 hp9 hm9 HX HR7
    by_cases hn0 : 0 < n
    · have HM := Lib.hid (maxrel_just (fV_ok V') HT7.out.pair.sim hn0 n1 (HN.out.2 hn0))
      obtain ⟨x0, x1, x2, x3, x4, x5⟩ := sixV HT7.out.x
      go_wp2_with fail
      refine (HT7.out.pair.refRelease k hk (n) (by omega) (by omega)).mono ?_
      rintro e W17 ⟨sl7, rfl, hr7, hb⟩
      have HS7 := Lib.hid (HT7.out.below hb)
      have HR7 := Lib.hid hr7
      clear hb hr7 x0 x1 x2 x3 x4 x5
      generalize hX : releaseF (fV V') S' k (n) = X at HM HR7 ⊢
      have HX := Lib.hid hX
      clear hX
      obtain ⟨cd, S7⟩ := X
      simp only at HM HR7 ⊢
      obtain ⟨ao7, cap7, hsl7, -⟩ := row_open HR7.out
      subst hsl7
      unfold rP VS.x0 VS.x1 VS.x2
      obtain rfl : cd = 0 := HM.out
      clear HM
      go_wp2_with fail
      have HS8 := Lib.hid (HS7.out.below ((Below.refl _ _).alloc (Nat.le_refl _) (.cells #[.string S7.owner, .slice V'.a0 V'.l0.length V'.c0, .slice V'.a1 V'.l1.length V'.c1, .slice V'.a2 V'.l2.length V'.c2, .slice ao7 S7.L.length cap7, .int .i64 S7.req] 38)))
      generalize W17.alloc (.cells #[.string S7.owner, .slice V'.a0 V'.l0.length V'.c0, .slice V'.a1 V'.l1.length V'.c1, .slice V'.a2 V'.l2.length V'.c2, .slice ao7 S7.L.length cap7, .int .i64 S7.req] 38) = W18 at HS8 ⊢
      refine (HS8.out.pair.own.clone).mono ?_
      rintro e W19 ⟨p9, m9, rfl, h9, hp9, hm9, hb9⟩
      have HB9 := Lib.hid hb9
      have HO9 := Lib.hid h9
      clear h9 hb9 HS7
      go_wp2_with fail
      refine (HO9.out.release k hk (n)).mono ?_
      rw [HX.out]
      rintro e W20 ⟨rfl, h10, hF10⟩
      have HT17 := Lib.hid (HS8.out.below (HB9.out.trans (hF10.below hp9 hm9 HB9.out.size)))
      clear h10 hF10 HS8 HO9 HB9 hp9 hm9 HX HR7
      go_wp2_with fail
      refine (known_calls _).mono ?_
      rintro e W40 ⟨rfl, hb⟩
      have HF40 := Lib.hid (bstep HT17.out.b hb (HT17.out.b).size)
      clear hb
      go_wp2_with fail
      go_ret
      exact ⟨rfl, HF40.out⟩

    · go_wp2_with fail
      refine (known_calls _).mono ?_
      rintro e W40 ⟨rfl, hb⟩
      have HF40 := Lib.hid (bstep HT7.out.b hb (HT7.out.b).size)
      clear hb
      go_wp2_with fail
      go_ret
      exact ⟨rfl, HF40.out⟩

  · by_cases hn0 : 0 < n
    · have HM := Lib.hid (maxrel_just (fV_ok V') HS6.out.pair.sim hn0 n1 (HN.out.2 hn0))
      obtain ⟨x0, x1, x2, x3, x4, x5⟩ := sixV HS6.out.x
      go_wp2_with fail
      refine (HS6.out.pair.refRelease k hk (n) (by omega) (by omega)).mono ?_
      rintro e W17 ⟨sl7, rfl, hr7, hb⟩
      have HS7 := Lib.hid (HS6.out.below hb)
      have HR7 := Lib.hid hr7
      clear hb hr7 x0 x1 x2 x3 x4 x5
      generalize hX : releaseF (fV V') S' k (n) = X at HM HR7 ⊢
      have HX := Lib.hid hX
      clear hX
      obtain ⟨cd, S7⟩ := X
      simp only at HM HR7 ⊢
      obtain ⟨ao7, cap7, hsl7, -⟩ := row_open HR7.out
      subst hsl7
      unfold rP VS.x0 VS.x1 VS.x2
      obtain rfl : cd = 0 := HM.out
      clear HM
      go_wp2_with fail
      have HS8 := Lib.hid (HS7.out.below ((Below.refl _ _).alloc (Nat.le_refl _) (.cells #[.string S7.owner, .slice V'.a0 V'.l0.length V'.c0, .slice V'.a1 V'.l1.length V'.c1, .slice V'.a2 V'.l2.length V'.c2, .slice ao7 S7.L.length cap7, .int .i64 S7.req] 38)))
      generalize W17.alloc (.cells #[.string S7.owner, .slice V'.a0 V'.l0.length V'.c0, .slice V'.a1 V'.l1.length V'.c1, .slice V'.a2 V'.l2.length V'.c2, .slice ao7 S7.L.length cap7, .int .i64 S7.req] 38) = W18 at HS8 ⊢
      refine (HS8.out.pair.own.clone).mono ?_
      rintro e W19 ⟨p9, m9, rfl, h9, hp9, hm9, hb9⟩
      have HB9 := Lib.hid hb9
      have HO9 := Lib.hid h9
      clear h9 hb9 HS7
      go_wp2_with fail
      refine (HO9.out.release k hk (n)).mono ?_
      rw [HX.out]
      rintro e W20 ⟨rfl, h10, hF10⟩
      have HT17 := Lib.hid (HS8.out.below (HB9.out.trans (hF10.below hp9 hm9 HB9.out.size)))
      clear h10 hF10 HS8 HO9 HB9 hp9 hm9 HX HR7
      go_wp2_with fail
      refine (known_calls _).mono ?_
      rintro e W40 ⟨rfl, hb⟩
      have HF40 := Lib.hid (bstep HT17.out.b hb (HT17.out.b).size)
      clear hb
      go_wp2_with fail
      go_ret
      exact ⟨rfl, HF40.out⟩

    · go_wp2_with fail
      refine (known_calls _).mono ?_
      rintro e W40 ⟨rfl, hb⟩
      have HF40 := Lib.hid (bstep HS6.out.b hb (HS6.out.b).size)
      clear hb
      go_wp2_with fail
      go_ret
      exact ⟨rfl, HF40.out⟩

end Go.Proofs.YtjjnljfphaimgaaGreatDoor.C
/- For every valuation, list of operations and asset, girolaw34.CollateralMaxRelease returns true and leaves its arguments as they were. Conditions: the row's own (the listed package variables start as the program's text lays them; the card ties them to the text). -/
namespace Go.Proofs.YtjjnljfphaimgaaGreatDoor
open Go Go.RowKit Go.ChangeShapes Go.WideShapes Go.ChangeAt
open Go.Proofs.YtjjnljfphaimgaaGreatDoor.C

theorem ownRm : ownKnob Tryz.prog.godebug = none := by kernel_rfl
theorem laidOutRm : laidOutB Tryz.prog = true := by kernel_rfl
theorem doorRm (os : Os) (args : Array Value) : laidMetH Tryz.prog Rows.collateralMaxReleaseRow.laid ((World.doorLaid Tryz.prog 400 os).forCall (fun _ _ => 0) ⟨#[], args, []⟩).memory :=
  laidMetH_of_parts3 (fuel := 8) (laidMet_of_run' 8 (by kernel_rfl) (by kernel_rfl)) (by kernel_rfl) (by kernel_rfl)
theorem paramsRm : ∀ t ∈ Tryz.f4.params.toList, Tryz.prog.readableRec t = true ∧ t < Tryz.prog.types.size := by
  have h : (Tryz.f4.params.toList.all fun t => Tryz.prog.readableRec t && decide (t < Tryz.prog.types.size)) = true := by kernel_rfl
  intro t ht
  simpa using List.all_eq_true.1 h t ht
set_option maxRecDepth 100000 in
theorem liftedRm (os : Os) (started : os.Started) (H : Type) (enc : TypeId × Value → H) :
    ReturnsInHanded {} Tryz.checked os 4 .any (fun w args => (Rows.collateralMaxReleaseSpec.pre enc Tryz.prog Tryz.f4 [] false w args ∧ laidMetH Tryz.prog Rows.collateralMaxReleaseRow.laid w) ∧ sizedMet enc Tryz.prog Tryz.f4 (OpenSpec.ofChange Rows.collateralMaxReleaseSpec) false w args)
      (Rows.collateralMaxReleaseSpec.post enc Tryz.prog Tryz.f4 false true false false) := by
  refine returnsInHanded_of_change_and (C := Tryz.checked) (X := fun w _ => laidMetH Tryz.prog Rows.collateralMaxReleaseRow.laid w) (fun _ _ _ hh h => h.of_heap hh) ownRm started (by kernel_rfl) Tryz.func4
    (ChangeSpec.witness_shaped (enc := enc) (C := Tryz.checked) (os := os) (X := fun w _ => laidMetH Tryz.prog Rows.collateralMaxReleaseRow.laid w) false (World.doorLaid Tryz.prog 400 os) #[.agg #[.slice none 0 0, .slice none 0 0, .slice none 0 0], .slice none 0 0, .string ⟨#[]⟩] 8 rfl (World.shaped_of_RefB (by kernel_rfl) (by kernel_rfl)) (by kernel_rfl) (by kernel_rfl) (by kernel_rfl) (doorRm os _)) ?_
  intro W base args ds gs before hval0 hW _ _ _ _
  have hval : ∀ (j : Nat) t v, Tryz.f4.params[j]? = some t → args[j]? = some v → Value.okWide Tryz.prog W .any base t v := hval0
  have hW' := hW
  obtain ⟨p, q, hA0, hV, rfl, hfz, hnd⟩ := hW
  have hA : DataW.TrodAll enc Tryz.prog W 0 (fun _ => true) true Tryz.f4.params.toList args.toList ds p := hA0
  rw [Tryz.params4] at hA hval
  obtain ⟨v0, v1, v2, d0, d1, d2, p0, p1, p2, rfl, rfl, -, h0, h1, h2⟩ := trodAll_three hA
  obtain ⟨rfl, rfl⟩ := trodVars_none hV
  obtain ⟨cs0, rfl, -⟩ := okWide_struct Tryz.underlying26 (hval 0 26 v0 rfl rfl)
  obtain ⟨fuel0, h0⟩ := h0
  obtain ⟨V0, e0, g0⟩ := open_V h0
  obtain rfl : cs0 = #[V0.x0, V0.x1, V0.x2] := Array.ext' e0
  obtain ⟨a1, n1, c1, rfl⟩ := okWide_slice Tryz.underlying27 (hval 1 27 v1 rfl rfl)
  obtain ⟨fuel1, h1⟩ := h1
  obtain ⟨x1, l1, e1, g1⟩ := open_ops h1
  obtain rfl : Value.slice a1 n1 c1 = x1 := by simpa [Value.cells] using e1
  obtain ⟨s2, rfl⟩ := okWide_string Tryz.underlying9 (hval 2 9 v2 rfl rfl)
  obtain ⟨fuel2, h2⟩ := h2
  obtain ⟨s2', e2, -, g2⟩ := DataW.trod_string Tryz.underlying9 h2
  obtain rfl : s2 = s2' := by simpa [Value.cells] using e2
  refine (maxRelease_law W V0 _ l1 s2 g0 g1 g2).mono fun e W' ⟨he, hb⟩ => ?_
  subst he
  exact ⟨_, rfl, law_post laidOutRm rfl (by kernel_rfl) rfl paramsRm hW' hb⟩
theorem saidRm : Rows.CollateralMaxReleaseSaid :=
  OpenClaim.holds_of_wide 4 Tryz.f4 rfl rfl rfl rfl rfl rfl rfl ⟨rfl, rfl, rfl, rfl, rfl⟩ rfl rfl rfl rfl rfl (by kernel_rfl) Tryz.func4 (by kernel_rfl)
    (of_decide_eq_true (by kernel_rfl)) (by unfold Func.isWrapper; first | (rw [if_pos (by decide +kernel)]; kernel_rfl) | (rw [if_neg (by decide +kernel)]; exact ⟨rfl, rfl⟩))
    (fun os started H enc _ => liftedRm os started H enc)
theorem collateralMaxRelease_card : Rows.CollateralMaxReleaseCardSaid :=
  Claim7.holds_tied_plain_at .later [] [.data, .data, .data] true Rows.collateralMaxReleaseCard.stood.harness true
    saidRm (fun _ h => by cases h) (by kernel_rfl) (fun _ h => by cases h) collateralMaxRelease_row_tie rfl ⟨rfl, rfl⟩ (by kernel_rfl) rfl
    (fun f fn hf hfn => by
      obtain rfl : f = 4 := Option.some.inj ((show Tryz.prog.funcNamed "giro/girolaw34.CollateralMaxRelease" = some 4 by kernel_rfl).symm.trans hf) |>.symm
      obtain rfl : fn = Tryz.f4 := (Option.some.inj (Tryz.func4.symm.trans hfn)).symm
      exact ⟨by kernel_rfl, fun j t ht => by
        rw [Tryz.params4] at ht
        have hm : t ∈ [26, 27, 9] := by simpa using Array.mem_of_getElem? ht
        have hall : ([26, 27, 9].all fun u => !Tryz.prog.wantsStandIn u) = true := by kernel_rfl
        exact (show Tryz.prog.wantsStandIn t = false by simpa using List.all_eq_true.1 hall t hm)⟩)
    (by kernel_rfl)
#print axioms collateralMaxRelease_card
end Go.Proofs.YtjjnljfphaimgaaGreatDoor
