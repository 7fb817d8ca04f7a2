/- For every valuation and every list of operations, girolaw34.CollateralOperations returns true and leaves its arguments as they were. Conditions: the row's own (the listed package variables start as the program's text lays them; the card ties them to the text). -/
import Derived.SevenTiedAt
import Derived.Test.YtjjnljfphaimgaaGreatDoorRows
import Derived.Test.YtjjnljfphaimgaaGreatDoorCards
import Derived.Test.YtjjnljfphaimgaaGreatDoorTie
import Derived.Test.YtjjnljfphaimgaaGreatDoorK15
set_option linter.all false
/- For every valuation and every list of operations, girolaw34.CollateralOperations returns true and leaves its arguments as they were. Conditions: the row's own (the listed package variables start as the program's text lays them; the card ties them to the text). -/
namespace Go.Proofs.YtjjnljfphaimgaaGreatDoor
open Go Go.RowKit Go.ChangeShapes Go.WideShapes Go.ChangeAt
open Go.Proofs.YtjjnljfphaimgaaGreatDoor.C

theorem ownRo : ownKnob Tryz.prog.godebug = none := by kernel_rfl
theorem laidOutRo : laidOutB Tryz.prog = true := by kernel_rfl
theorem doorRo (os : Os) (args : Array Value) : laidMetH Tryz.prog Rows.collateralOperationsRow.laid ((World.doorLaid Tryz.prog 400 os).forCall (fun _ _ => 0) ⟨#[], args, []⟩).memory :=
  laidMetH_of_parts3 (fuel := 8) (laidMet_of_run' 8 (by kernel_rfl) (by kernel_rfl)) (by kernel_rfl) (by kernel_rfl)
theorem paramsRo : ∀ t ∈ Tryz.f3.params.toList, Tryz.prog.readableRec t = true ∧ t < Tryz.prog.types.size := by
  have h : (Tryz.f3.params.toList.all fun t => Tryz.prog.readableRec t && decide (t < Tryz.prog.types.size)) = true := by kernel_rfl
  intro t ht
  simpa using List.all_eq_true.1 h t ht
set_option maxRecDepth 100000 in
theorem liftedRo (os : Os) (started : os.Started) (H : Type) (enc : TypeId × Value → H) :
    ReturnsInHanded {} Tryz.checked os 3 .any (fun w args => (Rows.collateralOperationsSpec.pre enc Tryz.prog Tryz.f3 [] false w args ∧ laidMetH Tryz.prog Rows.collateralOperationsRow.laid w) ∧ sizedMet enc Tryz.prog Tryz.f3 (OpenSpec.ofChange Rows.collateralOperationsSpec) false w args)
      (Rows.collateralOperationsSpec.post enc Tryz.prog Tryz.f3 false true false false) := by
  refine returnsInHanded_of_change_and (C := Tryz.checked) (X := fun w _ => laidMetH Tryz.prog Rows.collateralOperationsRow.laid w) (fun _ _ _ hh h => h.of_heap hh) ownRo started (by kernel_rfl) Tryz.func3
    (ChangeSpec.witness_shaped (enc := enc) (C := Tryz.checked) (os := os) (X := fun w _ => laidMetH Tryz.prog Rows.collateralOperationsRow.laid w) false (World.doorLaid Tryz.prog 400 os) #[.agg #[.slice none 0 0, .slice none 0 0, .slice none 0 0], .slice none 0 0] 8 rfl (World.shaped_of_RefB (by kernel_rfl) (by kernel_rfl)) (by kernel_rfl) (by kernel_rfl) (by kernel_rfl) (doorRo os _)) ?_
  intro W base args ds gs before hval0 hW _ _ _ _
  have hval : ∀ (j : Nat) t v, Tryz.f3.params[j]? = some t → args[j]? = some v → Value.okWide Tryz.prog W .any base t v := hval0
  have hW' := hW
  obtain ⟨p, q, hA0, hV, rfl, hfz, hnd⟩ := hW
  have hA : DataW.TrodAll enc Tryz.prog W 0 (fun _ => true) true Tryz.f3.params.toList args.toList ds p := hA0
  rw [Tryz.params3] at hA hval
  obtain ⟨v0, v1, d0, d1, p0, p1, rfl, rfl, -, h0, h1⟩ := trodAll_two hA
  obtain ⟨rfl, rfl⟩ := trodVars_none hV
  obtain ⟨cs0, rfl, -⟩ := okWide_struct Tryz.underlying26 (hval 0 26 v0 rfl rfl)
  obtain ⟨fuel0, h0⟩ := h0
  obtain ⟨V0, e0, g0⟩ := open_V h0
  obtain rfl : cs0 = #[V0.x0, V0.x1, V0.x2] := Array.ext' e0
  obtain ⟨a1, n1, c1, rfl⟩ := okWide_slice Tryz.underlying27 (hval 1 27 v1 rfl rfl)
  obtain ⟨fuel1, h1⟩ := h1
  obtain ⟨x1, l1, e1, g1⟩ := open_ops h1
  obtain rfl : Value.slice a1 n1 c1 = x1 := by simpa [Value.cells] using e1
  refine (operations_calls W V0 _ l1 g0 g1).mono fun e W' ⟨he, hb⟩ => ?_
  subst he
  exact ⟨_, rfl, law_post laidOutRo rfl (by kernel_rfl) rfl paramsRo hW' hb⟩
theorem saidRo : Rows.CollateralOperationsSaid :=
  OpenClaim.holds_of_wide 3 Tryz.f3 rfl rfl rfl rfl rfl rfl rfl ⟨rfl, rfl, rfl, rfl, rfl⟩ rfl rfl rfl rfl rfl (by kernel_rfl) Tryz.func3 (by kernel_rfl)
    (of_decide_eq_true (by kernel_rfl)) (by unfold Func.isWrapper; first | (rw [if_pos (by decide +kernel)]; kernel_rfl) | (rw [if_neg (by decide +kernel)]; exact ⟨rfl, rfl⟩))
    (fun os started H enc _ => liftedRo os started H enc)
theorem collateralOperations_card : Rows.CollateralOperationsCardSaid :=
  Claim7.holds_tied_plain_at .later [] [.data, .data, .data] true Rows.collateralOperationsCard.stood.harness true
    saidRo (fun _ h => by cases h) (by kernel_rfl) (fun _ h => by cases h) collateralOperations_row_tie rfl ⟨rfl, rfl⟩ (by kernel_rfl) rfl
    (fun f fn hf hfn => by
      obtain rfl : f = 3 := Option.some.inj ((show Tryz.prog.funcNamed "giro/girolaw34.CollateralOperations" = some 3 by kernel_rfl).symm.trans hf) |>.symm
      obtain rfl : fn = Tryz.f3 := (Option.some.inj (Tryz.func3.symm.trans hfn)).symm
      exact ⟨by kernel_rfl, fun j t ht => by
        rw [Tryz.params3] at ht
        have hm : t ∈ [26, 27] := by simpa using Array.mem_of_getElem? ht
        have hall : ([26, 27].all fun u => !Tryz.prog.wantsStandIn u) = true := by kernel_rfl
        exact (show Tryz.prog.wantsStandIn t = false by simpa using List.all_eq_true.1 hall t hm)⟩)
    (by kernel_rfl)
#print axioms collateralOperations_card
end Go.Proofs.YtjjnljfphaimgaaGreatDoor
