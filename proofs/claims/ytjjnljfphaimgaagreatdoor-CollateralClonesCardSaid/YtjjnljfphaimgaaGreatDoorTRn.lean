/- For every valuation and every two lists of operations, girolaw34.CollateralClones returns true and leaves its arguments as they were. Conditions: the row's own (the listed package variables start as the program's text lays them; the card ties them to the text). -/
import Derived.SevenTiedAt
import Derived.Test.YtjjnljfphaimgaaGreatDoorRows
import Derived.Test.YtjjnljfphaimgaaGreatDoorCards
import Derived.Test.YtjjnljfphaimgaaGreatDoorTie
import Derived.Test.YtjjnljfphaimgaaGreatDoorK15
set_option linter.all false
/- girolaw34.CollateralClones. (Printed by genlaw34.py.) -/
namespace Go.Proofs.YtjjnljfphaimgaaGreatDoor.C
open Go Go.RowKit Go.Shelf Go.Proofs

abbrev CSc (w W : World) (p m : Nat) (V : VS) (S : PS) (sl : Value) (b8 : Nat) (q mq : Nat) (Vq : VS) (U : PS) (slq : Value) (b9 : Nat) : Prop :=
  W.cell? ⟨b8, 0, none⟩ = some (.string S.owner) ∧ W.cell? ⟨b8, 1, none⟩ = some (.slice V.a0 V.l0.length V.c0) ∧ W.cell? ⟨b8, 2, none⟩ = some (.slice V.a1 V.l1.length V.c1) ∧ W.cell? ⟨b8, 3, none⟩ = some (.slice V.a2 V.l2.length V.c2) ∧ W.cell? ⟨b8, 4, none⟩ = some sl ∧ W.cell? ⟨b8, 5, none⟩ = some (.int .i64 S.req) ∧
  W.cell? ⟨b9, 0, none⟩ = some (.string U.owner) ∧ W.cell? ⟨b9, 1, none⟩ = some (.slice Vq.a0 Vq.l0.length Vq.c0) ∧ W.cell? ⟨b9, 2, none⟩ = some (.slice Vq.a1 Vq.l1.length Vq.c1) ∧ W.cell? ⟨b9, 3, none⟩ = some (.slice Vq.a2 Vq.l2.length Vq.c2) ∧ W.cell? ⟨b9, 4, none⟩ = some slq ∧ W.cell? ⟨b9, 5, none⟩ = some (.int .i64 U.req) ∧
  BSq w w W p m V S sl b8 ∧ BSq w w W q mq Vq U slq b9
theorem csc {w W : World} {p m b8 q mq b9 : Nat} {V Vq : VS} {S U : PS} {sl slq : Value} (h : BSq w w W p m V S sl b8) (h2 : BSq w w W q mq Vq U slq b9) : CSc w W p m V S sl b8 q mq Vq U slq b9 := by
  obtain ⟨x0, x1, x2, x3, x4, x5⟩ := sixV h.x
  obtain ⟨y0, y1, y2, y3, y4, y5⟩ := sixV h2.x
  exact ⟨x0, x1, x2, x3, x4, x5, y0, y1, y2, y3, y4, y5, h, h2⟩
theorem csc_p {w W : World} {p m b8 q mq b9 : Nat} {V Vq : VS} {S U : PS} {sl slq : Value} (h : CSc w W p m V S sl b8 q mq Vq U slq b9) : BSq w w W p m V S sl b8 := h.2.2.2.2.2.2.2.2.2.2.2.2.1
theorem csc_q {w W : World} {p m b8 q mq b9 : Nat} {V Vq : VS} {S U : PS} {sl slq : Value} (h : CSc w W p m V S sl b8 q mq Vq U slq b9) : BSq w w W q mq Vq U slq b9 := h.2.2.2.2.2.2.2.2.2.2.2.2.2

set_option maxRecDepth 100000 in
set_option maxHeartbeats 16000000 in
theorem clones_law (w : World) (V : VS) (v : Value) (l : List OpS) (v2 : Value) (l2 : List OpS) (hv : VOk w V) (hl : OpsAt w w.heap.size v l) (hl2 : OpsAt w w.heap.size v2 l2) :
    Calls Tryz.prog 9 #[aggV V, v, v2] w (LawPost w) := by
  obtain ⟨ao, cap, hsl, -⟩ := hl.ex
  subst hsl
  obtain ⟨aoB, capB, hslB, hcB⟩ := hl2.ex
  subst hslB
  have HC := Lib.hid hcB
  have HOK := Lib.hid hl2.ok
  have HL2 := Lib.hid hl2
  have hlen2 := hl2.len
  unfold maxLen at hlen2
  clear hcB
  have HL := Lib.hid hl
  have hlen := hl.len
  have HV := Lib.hid hv
  have HB := Lib.hid ((Below.refl w.heap.size w).alloc (Nat.le_refl _) (.cells #[V.x0, V.x1, V.x2] 26))
  have HX := Lib.hid (blk_new w (.cells #[V.x0, V.x1, V.x2] 26))
  clear hl hv hl2
  unfold maxLen at hlen
  unfold aggV
  unfold VS.x0 VS.x1 VS.x2 at *
  go_enter Tryz.func9, Tryz.ntmps9
  go_wp2_with fail
  generalize w.alloc (.cells #[.slice V.a0 V.l0.length V.c0, .slice V.a1 V.l1.length V.c1, .slice V.a2 V.l2.length V.c2] 26) = W1 at HB HX ⊢
  have x0 := (blk_cell HX.out 0).trans rfl
  have x1 := (blk_cell HX.out 1).trans rfl
  have x2 := (blk_cell HX.out 2).trans rfl
  go_wp2_with fail
  refine (few_calls _ V HV.out.l0 HV.out.l1 HV.out.l2).mono ?_
  rintro e W2 ⟨rfl, hb⟩
  have HB2 := Lib.hid (bstep HB.out hb HB.out.size)
  have HX2 := Lib.hid (blk_keep hb HX.out (Nat.le_refl _))
  clear hb HB HX x0 x1 x2
  have hlx := blk_lt HX2.out
  have x0 := (blk_cell HX2.out 0).trans rfl
  have x1 := (blk_cell HX2.out 1).trans rfl
  have x2 := (blk_cell HX2.out 2).trans rfl
  cases hfw : fewB V
  · clear hfw
    go_wp2_with fail
    refine (known_calls _).mono ?_
    rintro e W3 ⟨rfl, hb⟩
    have HB3 := Lib.hid (bstep HB2.out hb HB2.out.size)
    clear hb
    go_wp2_with fail
    go_ret
    exact ⟨rfl, HB3.out⟩
  have HVA := Lib.hid (HV.out.rd.few hfw)
  clear hfw
  go_wp2_with fail
  refine (build_calls w W2 V _ l HVA.out HL.out HB2.out).mono ?_
  rintro e W3 ⟨p, m, sl, rfl, hp, hb, hpw, hmw⟩
  have hown := bld_owner (l.take 30) V
  generalize bldF (l.take 30) (new0 V) = r at hp hown ⊢
  obtain ⟨V', S'⟩ := r
  simp only at hp hown ⊢
  have HOW := Lib.hid hown
  have HP3 := Lib.hid hp
  have HB3 := Lib.hid (bstep HB2.out hb HB2.out.size)
  have HX3 := Lib.hid (blk_keep hb HX2.out (Nat.le_refl _))
  clear hb HB2 HX2 x0 x1 x2 hp hown
  obtain ⟨ao2, cap2, hsl2, -⟩ := row_open HP3.out.row
  subst hsl2
  unfold rP VS.x0 VS.x1 VS.x2
  have HS4 : Hid (BSq w w (W3.alloc (.cells #[.string S'.owner, .slice V'.a0 V'.l0.length V'.c0, .slice V'.a1 V'.l1.length V'.c1, .slice V'.a2 V'.l2.length V'.c2, .slice ao2 S'.L.length cap2, .int .i64 S'.req] 38)) p m V' S' (.slice ao2 S'.L.length cap2) W3.heap.size) := Lib.hid
    ⟨HP3.out.below ((Below.refl _ _).alloc (Nat.le_refl _) _), blk_new _ _, HB3.out.alloc HB3.out.size _⟩
  go_upto_region 4 with fail
  obtain ⟨b8, hb8e⟩ : ∃ b8, W3.heap.size = b8 := ⟨_, rfl⟩
  have hb8 : w.heap.size ≤ b8 := by have := HB3.out.size; omega
  rw [hb8e] at HS4
  simp only [hb8e]
  have HX4 := Lib.hid (blk_alloc HX3.out (.cells #[.string S'.owner, .slice V'.a0 V'.l0.length V'.c0, .slice V'.a1 V'.l1.length V'.c1, .slice V'.a2 V'.l2.length V'.c2, .slice ao2 S'.L.length cap2, .int .i64 S'.req] 38))
  clear hb8e HP3 HX3
  generalize W3.alloc (.cells #[.string S'.owner, .slice V'.a0 V'.l0.length V'.c0, .slice V'.a1 V'.l1.length V'.c1, .slice V'.a2 V'.l2.length V'.c2, .slice ao2 S'.L.length cap2, .int .i64 S'.req] 38) = W4 at HS4 HX4 ⊢
  clear HL
  have x0 := (blk_cell HX4.out 0).trans rfl
  have x1 := (blk_cell HX4.out 1).trans rfl
  have x2 := (blk_cell HX4.out 2).trans rfl
  go_wp2_with fail
  refine (build_calls w W4 V _ l2 HVA.out HL2.out HS4.out.b).mono ?_
  rintro e W5 ⟨q, mq, sl5, rfl, hq5, hb, hqw, hmqw⟩
  generalize bldF (l2.take 30) (new0 V) = r5 at hq5 ⊢
  obtain ⟨Vq, U⟩ := r5
  simp only at hq5 ⊢
  have HQ5 := Lib.hid hq5
  have HS5 := Lib.hid (HS4.out.below hb)
  have hp4 : p < W4.heap.size := HS4.out.pair.pool.lt
  have hm4 : m < W4.heap.size := HS4.out.pair.pool.2.lt
  have hb84 : b8 < W4.heap.size := blk_lt HS4.out.x
  have hw45 : W4.heap.size ≤ W5.heap.size := hb.size
  clear hb hq5 HX4 x0 x1 x2 HS4 HL2
  obtain ⟨ao5, cap5, hsl5, -⟩ := row_open HQ5.out.row
  subst hsl5
  unfold rP VS.x0 VS.x1 VS.x2
  have HS6 := Lib.hid (HS5.out.below ((Below.refl _ _).alloc (Nat.le_refl _) (.cells #[.string U.owner, .slice Vq.a0 Vq.l0.length Vq.c0, .slice Vq.a1 Vq.l1.length Vq.c1, .slice Vq.a2 Vq.l2.length Vq.c2, .slice ao5 U.L.length cap5, .int .i64 U.req] 38)))
  have HQ6 : Hid (BSq w w (W5.alloc (.cells #[.string U.owner, .slice Vq.a0 Vq.l0.length Vq.c0, .slice Vq.a1 Vq.l1.length Vq.c1, .slice Vq.a2 Vq.l2.length Vq.c2, .slice ao5 U.L.length cap5, .int .i64 U.req] 38)) q mq Vq U (.slice ao5 U.L.length cap5) W5.heap.size) := Lib.hid
    ⟨HQ5.out.below ((Below.refl _ _).alloc (Nat.le_refl _) _), blk_new _ _, HS6.out.b⟩
  go_upto_region 7 with fail
  obtain ⟨b9, hb9e⟩ : ∃ b9, W5.heap.size = b9 := ⟨_, rfl⟩
  have hb9 : W4.heap.size ≤ b9 := by omega
  rw [hb9e] at HQ6
  simp only [hb9e]
  clear hb9e HQ5 HS5
  generalize W5.alloc (.cells #[.string U.owner, .slice Vq.a0 Vq.l0.length Vq.c0, .slice Vq.a1 Vq.l1.length Vq.c1, .slice Vq.a2 Vq.l2.length Vq.c2, .slice ao5 U.L.length cap5, .int .i64 U.req] 38) = W6 at HS6 HQ6 ⊢
  have HD : CSc w W6.drew p m V' S' (.slice ao2 S'.L.length cap2) b8 q mq Vq U (.slice ao5 U.L.length cap5) b9 := csc (HS6.out.below (Below.refl _ _).drew) (HQ6.out.below (Below.refl _ _).drew)
  unfold CSc at HD
  have hee1 : (eqF S' U != eqF S' U) = false := by simp
  have hee2 : (eqF U S' != eqF U S') = false := by simp
  go_region_held3 (fun W => W.cell? ⟨b8, 0, none⟩ = some (.string S'.owner) ∧ W.cell? ⟨b8, 1, none⟩ = some (.slice V'.a0 V'.l0.length V'.c0) ∧ W.cell? ⟨b8, 2, none⟩ = some (.slice V'.a1 V'.l1.length V'.c1) ∧ W.cell? ⟨b8, 3, none⟩ = some (.slice V'.a2 V'.l2.length V'.c2) ∧ W.cell? ⟨b8, 4, none⟩ = some (.slice ao2 S'.L.length cap2) ∧ W.cell? ⟨b8, 5, none⟩ = some (.int .i64 S'.req) ∧ W.cell? ⟨b9, 0, none⟩ = some (.string U.owner) ∧ W.cell? ⟨b9, 1, none⟩ = some (.slice Vq.a0 Vq.l0.length Vq.c0) ∧ W.cell? ⟨b9, 2, none⟩ = some (.slice Vq.a1 Vq.l1.length Vq.c1) ∧ W.cell? ⟨b9, 3, none⟩ = some (.slice Vq.a2 Vq.l2.length Vq.c2) ∧ W.cell? ⟨b9, 4, none⟩ = some (.slice ao5 U.L.length cap5) ∧ W.cell? ⟨b9, 5, none⟩ = some (.int .i64 U.req) ∧ BSq w w W p m V' S' (.slice ao2 S'.L.length cap2) b8 ∧ BSq w w W q mq Vq U (.slice ao5 U.L.length cap5) b9)
    (first | with_reducible exact HD | with_reducible exact HH21 | with_reducible exact HH22 | with_reducible exact HH23 | with_reducible exact HH24 | with_reducible exact HH25 | with_reducible trivial)
    (first
      | (go_at_call 26
         with_reducible refine ((csc_p (by assumption)).pair.own.equal (csc_q (by assumption)).pair.own).mono ?_
         rintro e W21 ⟨rfl, hb⟩
         have HP21 := Lib.hid ((csc_p (by assumption)).below hb)
         have HQ21 := Lib.hid ((csc_q (by assumption)).below hb)
         have HH21 := csc HP21.out HQ21.out
         unfold CSc at HH21
         clear hb)
      | (go_at_call 25
         with_reducible refine ((csc_p (by assumption)).pair.refSameA (csc_q (by assumption)).pair).mono ?_
         rintro e W22 ⟨rfl, hb⟩
         have HP22 := Lib.hid ((csc_p (by assumption)).below hb)
         have HQ22 := Lib.hid ((csc_q (by assumption)).below hb)
         have HH22 := csc HP22.out HQ22.out
         unfold CSc at HH22
         clear hb)
      | (go_at_call 26
         with_reducible refine ((csc_q (by assumption)).pair.own.equal (csc_p (by assumption)).pair.own).mono ?_
         rintro e W23 ⟨rfl, hb⟩
         have HP23 := Lib.hid ((csc_p (by assumption)).below hb)
         have HQ23 := Lib.hid ((csc_q (by assumption)).below hb)
         have HH23 := csc HP23.out HQ23.out
         unfold CSc at HH23
         clear hb)
      | (go_at_call 25
         with_reducible refine ((csc_q (by assumption)).pair.refSameA (csc_p (by assumption)).pair).mono ?_
         rintro e W24 ⟨rfl, hb⟩
         have HP24 := Lib.hid ((csc_p (by assumption)).below hb)
         have HQ24 := Lib.hid ((csc_q (by assumption)).below hb)
         have HH24 := csc HP24.out HQ24.out
         unfold CSc at HH24
         clear hb)
      | (go_at_call 26
         with_reducible refine (equal_pn _ p m S' (csc_p (by assumption)).pair.pool).mono ?_
         rintro e W25 ⟨rfl, rfl⟩))
  rename_i hHeld
  clear hHeld HD HH21 HH22 HH23 HH24 HP21 HQ21 HP22 HQ22 HP23 HQ23 HQ24 HS6 HQ6 hee1 hee2
  go_wp2_with fail
  refine (HP24.out.pair.own.clone).mono ?_
  rintro e W26 ⟨c, mc, rfl, hc26, hcw, hmcw, hb⟩
  have HC26 := Lib.hid hc26
  have HP26 := Lib.hid (HP24.out.below hb)
  have hpl : p < W24.heap.size := HP24.out.pair.pool.lt
  have hml : m < W24.heap.size := HP24.out.pair.pool.2.lt
  have hb8l : b8 < W24.heap.size := blk_lt HP24.out.x
  have hw24 : w.heap.size ≤ W24.heap.size := HP24.out.b.size
  clear hb hc26 HP24
  go_wp2_with fail
  refine (HC26.out.equal HP26.out.pair.own).mono ?_
  rw [eqF_self]
  rintro e W27 ⟨rfl, hb⟩
  have HC27 := Lib.hid (HC26.out.below hb)
  have HP27 := Lib.hid (HP26.out.below hb)
  have hw27 : W24.heap.size ≤ W27.heap.size := by have := HC27.out.pool.lt; omega
  clear hb HC26 HP26
  obtain ⟨x0, x1, x2, x3, x4, x5⟩ := sixV HP27.out.x
  go_wp2_with fail
  have HP28 := Lib.hid (HP27.out.below ((Below.refl _ _).alloc (Nat.le_refl _) (.cells #[.string S'.owner, .slice V'.a0 V'.l0.length V'.c0, .slice V'.a1 V'.l1.length V'.c1, .slice V'.a2 V'.l2.length V'.c2, .slice ao2 S'.L.length cap2, .int .i64 S'.req] 38)))
  have HC28 : Hid (BSq w w (W27.alloc (.cells #[.string S'.owner, .slice V'.a0 V'.l0.length V'.c0, .slice V'.a1 V'.l1.length V'.c1, .slice V'.a2 V'.l2.length V'.c2, .slice ao2 S'.L.length cap2, .int .i64 S'.req] 38)) c mc V' S' (.slice ao2 S'.L.length cap2) W27.heap.size) := Lib.hid
    ⟨((HC27.out.pair HP27.out.pair.row).below ((Below.refl _ _).alloc (Nat.le_refl _) _)), blk_new _ _, HP28.out.b⟩
  obtain ⟨bc, hbce⟩ : ∃ bc, W27.heap.size = bc := ⟨_, rfl⟩
  have hbc : W24.heap.size ≤ bc := by omega
  rw [hbce] at HC28
  simp only [hbce]
  clear hbce HP27 HC27 x0 x1 x2 x3 x4 x5
  generalize W27.alloc (.cells #[.string S'.owner, .slice V'.a0 V'.l0.length V'.c0, .slice V'.a1 V'.l1.length V'.c1, .slice V'.a2 V'.l2.length V'.c2, .slice ao2 S'.L.length cap2, .int .i64 S'.req] 38) = W28 at HP28 HC28 ⊢
  generalize hsp : (Value.slice ao2 S'.L.length cap2) = slp at HP28
  have HSLP := Lib.hid hsp
  clear hsp
  go_loopw [13] (fun v13 wr => ∃ k : Nat, k ≤ l2.length ∧ k ≤ 30 ∧ v13 = .int .i64 k ∧ Hid (∃ m' V2 S2 sl2, BSq w w wr c m' V2 S2 sl2 bc ∧ BSq w w wr p m V' S' slp b8 ∧ W24.heap.size ≤ m')) (fun v13 _ => 30 - (intOf v13).toNat)
  case atStart => exact ⟨0, Nat.zero_le _, by omega, rfl, Lib.hid ⟨mc, V', S', _, HC28.out, HP28.out, hmcw⟩⟩
  case round =>
    obtain ⟨k, hk, hk30, rfl, HR⟩ := hrel
    by_cases hlt : k < l2.length ∧ k < 30
    · obtain ⟨hlt, hlt3⟩ := hlt
      obtain ⟨m', Vc, Sc, slc, hr, hpr, hm'⟩ := HR.out
      have HOo := Lib.hid (HOK.out l2[k] (List.getElem_mem hlt))
      obtain ⟨a, ha, hab, hac⟩ := HC.out k hlt
      subst ha
      have HAC := Lib.hid hac
      generalize l2[k] = o at HOo HAC
      obtain ⟨ao9, cap9, hsl9, -⟩ := row_open hr.pair.row
      subst hsl9
      have HS := Lib.hid hr
      have HPR := Lib.hid hpr
      obtain ⟨X, hX⟩ : ∃ X, X = doF o Vc Sc := ⟨_, rfl⟩
      have HNX := Lib.hid hX
      clear hr hac HR hX hpr
      have HD0 := Lib.hid (D3q.mk (wr := wr) (p := c) (m := m') HS.out.x (Fr.refl _ _ _) HS.out.pair.base)
      have HPA := HS.out.pair.below (Below.refl _ _).drew
      have HPB := fun ob => HS.out.pair.below (((Below.refl _ _).alloc (Nat.le_refl _) ob).drew)
      have HD : D3qc w wr wr.drew c m' Vc Sc (.slice ao9 Sc.L.length cap9) bc a k o := (HD0.out.below (Below.refl _ _).drew).cells hab HAC.out
      have HDB : ∀ ob, D3qc w wr (wr.alloc ob).drew c m' Vc Sc (.slice ao9 Sc.L.length cap9) bc a k o := fun ob => (HD0.out.below (((Below.refl _ _).alloc (Nat.le_refl _) ob).drew)).cells hab HAC.out
      unfold D3qc at HD HDB
      have hl8 : bc < wr.heap.size := blk_lt HS.out.x
      have hl0 : w.heap.size ≤ wr.heap.size := HS.out.pair.base.size
      have hlp : c < wr.heap.size := HS.out.pair.pool.lt
      have hlm : m' < wr.heap.size := HS.out.pair.pool.2.lt
      have hlpw : w.heap.size ≤ c := HS.out.pair.hp
      have hlmw : w.heap.size ≤ m' := HS.out.pair.hm
      go_upto_region 16 with fail
      go_region_held3 (fun W => W.cell? ⟨bc, 0, none⟩ = some (.string Sc.owner) ∧ W.cell? ⟨bc, 1, none⟩ = some (.slice Vc.a0 Vc.l0.length Vc.c0) ∧ W.cell? ⟨bc, 2, none⟩ = some (.slice Vc.a1 Vc.l1.length Vc.c1) ∧ W.cell? ⟨bc, 3, none⟩ = some (.slice Vc.a2 Vc.l2.length Vc.c2) ∧ W.cell? ⟨bc, 4, none⟩ = some (.slice ao9 Sc.L.length cap9) ∧ W.cell? ⟨bc, 5, none⟩ = some (.int .i64 Sc.req) ∧
          W.cell? (a.add (k * 9)) = some (.int .u8 o.kd) ∧ W.cell? ⟨(a.add (k * 9)).block, (a.add (k * 9)).off + 1, none⟩ = some (.string o.ak) ∧ W.cell? ⟨(a.add (k * 9)).block, (a.add (k * 9)).off + 2, none⟩ = some (.int .i64 o.aq) ∧ W.cell? ⟨(a.add (k * 9)).block, (a.add (k * 9)).off + 3, none⟩ = some (.string o.bk) ∧ W.cell? ⟨(a.add (k * 9)).block, (a.add (k * 9)).off + 4, none⟩ = some (.int .i64 o.bq) ∧ W.cell? ⟨(a.add (k * 9)).block, (a.add (k * 9)).off + 5, none⟩ = some (.int .i64 o.n) ∧ W.cell? ⟨(a.add (k * 9)).block, (a.add (k * 9)).off + 6, none⟩ = some (.slice o.V.a0 o.V.l0.length o.V.c0) ∧ W.cell? ⟨(a.add (k * 9)).block, (a.add (k * 9)).off + 7, none⟩ = some (.slice o.V.a1 o.V.l1.length o.V.c1) ∧ W.cell? ⟨(a.add (k * 9)).block, (a.add (k * 9)).off + 8, none⟩ = some (.slice o.V.a2 o.V.l2.length o.V.c2) ∧ D3q w wr W c m' Vc Sc (.slice ao9 Sc.L.length cap9) bc)
        (first | with_reducible exact HD | with_reducible exact HDB _ | with_reducible exact HH4 | with_reducible exact HH4a _ | with_reducible exact HH5 | with_reducible trivial)
        (first
          | (go_at_call 15
             refine (do_calls w _ c m' Vc Sc (.slice ao9 Sc.L.length cap9) o (by first | with_reducible exact HPA | with_reducible exact HPB _) HOo.out.1 HOo.out.2).mono ?_
             rintro e W5 ⟨m2, sl2, rfl, hp5, hF5, hm5⟩
             have HK5 := Lib.hid (fun (b : Nat) (ob : Obj) (h : _ = some ob) (h1 : b ≠ c) (h2 : b ≠ m') => (hF5.block b (blk_lt h) h1 h2).trans h)
             have HD5 : Hid (D3q w wr W5 c m' Vc Sc (.slice ao9 Sc.L.length cap9) bc) := by
               first
                 | with_reducible exact Lib.hid ((HD0.out.below (Below.refl _ _).drew).go HPA.pool HS.out.pair.hp HS.out.pair.hm hF5)
                 | with_reducible exact Lib.hid ((HD0.out.below (((Below.refl _ _).alloc (Nat.le_refl _) _).drew)).go (HPB _).pool HS.out.pair.hp HS.out.pair.hm hF5)
             have HH4 : D3qc w wr W5 c m' Vc Sc (.slice ao9 Sc.L.length cap9) bc a k o := HD5.out.cells hab HAC.out
             have HH4a : ∀ ob, D3qc w wr (W5.alloc ob) c m' Vc Sc (.slice ao9 Sc.L.length cap9) bc a k o := fun ob => (HD5.out.below ((Below.refl _ _).alloc (Nat.le_refl _) ob)).cells hab HAC.out
             have HP5 := Lib.hid hp5
             have HM5 : Hid (m2 = m' ∨ wr.heap.size ≤ m2) := Lib.hid (by rcases hm5 with h | h; exact Or.inl h; right; simp at h; omega)
             obtain ⟨ao3, cap3, hsl3, -⟩ := row_open hp5.row
             subst hsl3
             unfold D3qc at HH4 HH4a
             obtain ⟨r2, hr2⟩ : ∃ r2, r2 = doF o Vc Sc := ⟨_, rfl⟩
             rw [← hr2] at HP5
             rw [← hr2]
             clear hr2
             obtain ⟨V2, S2⟩ := r2
             unfold rP VS.x0 VS.x1 VS.x2
             simp only at HP5 ⊢
             clear hp5 hm5 hF5
             first
               | (with_reducible have HZ0 := HK5.out _ _ (blk_drew (blk_new wr (.cells #[.string ⟨#[]⟩, .slice none 0 0, .slice none 0 0, .slice none 0 0, .slice none 0 0, .int .i64 0] 38)))
                  have HZ : Hid (W5.heap[wr.heap.size]? = some (.cells zeroP 38 (0, 0))) := Lib.hid (HZ0 (by omega) (by omega))
                  clear HZ0
                  obtain ⟨⟨d0, d1, d2, d3, d4, d5⟩, g0, g1, g2, g3, g4, g5⟩ := zcells HZ.out
                  have HD6 := Lib.hid (HD5.out.set (b := wr.heap.size) (Nat.le_refl _) hl8 hl0 (.string S2.owner) (.slice V2.a0 V2.l0.length V2.c0) (.slice V2.a1 V2.l1.length V2.c1) (.slice V2.a2 V2.l2.length V2.c2) (.slice ao3 S2.L.length cap3) (.int .i64 S2.req))
                  have HH5 : D3qc w wr _ c m' Vc Sc (.slice ao9 Sc.L.length cap9) bc a k o := HD6.out.cells hab HAC.out
                  unfold D3qc set6 at HH5)
               | skip))
      all_goals
        have hw5 : wr.heap.size ≤ W5.heap.size := HD5.out.fr.size
        rename_i hHeld
        clear hHeld
      · have HE : Hid (Pair w (W5.alloc (.cells #[.string S2.owner, .slice V2.a0 V2.l0.length V2.c0, .slice V2.a1 V2.l1.length V2.c1, .slice V2.a2 V2.l2.length V2.c2, .slice ao3 S2.L.length cap3, .int .i64 S2.req] 38)) c m2 V2 S2 (.slice ao3 S2.L.length cap3)) := Lib.hid (HP5.out.below ((Below.refl _ _).alloc (Nat.le_refl _) _))
        have HX11 : Hid (boxAt (W5.alloc (.cells #[.string S2.owner, .slice V2.a0 V2.l0.length V2.c0, .slice V2.a1 V2.l1.length V2.c1, .slice V2.a2 V2.l2.length V2.c2, .slice ao3 S2.L.length cap3, .int .i64 S2.req] 38)) W5.heap.size V2 S2 (.slice ao3 S2.L.length cap3)) := Lib.hid (blk_new _ _)
        have HX8 : Hid (boxAt (W5.alloc (.cells #[.string S2.owner, .slice V2.a0 V2.l0.length V2.c0, .slice V2.a1 V2.l1.length V2.c1, .slice V2.a2 V2.l2.length V2.c2, .slice ao3 S2.L.length cap3, .int .i64 S2.req] 38)) bc Vc Sc (.slice ao9 Sc.L.length cap9)) := Lib.hid (blk_alloc HD5.out.x _)
        have HR6 := Lib.hid (HD5.out.fr.alloc (.cells #[.string S2.owner, .slice V2.a0 V2.l0.length V2.c0, .slice V2.a1 V2.l1.length V2.c1, .slice V2.a2 V2.l2.length V2.c2, .slice ao3 S2.L.length cap3, .int .i64 S2.req] 38))
        clear HD HDB HH4 HH4a HPA HPB
        have hlb : wr.heap.size ≤ W5.heap.size := hw5
        generalize W5.alloc (.cells #[.string S2.owner, .slice V2.a0 V2.l0.length V2.c0, .slice V2.a1 V2.l1.length V2.c1, .slice V2.a2 V2.l2.length V2.c2, .slice ao3 S2.L.length cap3, .int .i64 S2.req] 38) = W6 at HE HX11 HX8 HR6 ⊢
        have HPR6 := Lib.hid (HPR.out.other HS.out.pair.pool HR6.out HE.out.base HE.out.base (by omega) (by omega) (by omega) (by omega))
        obtain ⟨x0, x1, x2, x3, x4, x5⟩ := sixV HX11.out
        obtain ⟨y0, y1, y2, y3, y4, y5⟩ := sixV HX8.out
        obtain ⟨f0, f1, f2, f3, f4, f5⟩ := fr6 HX8.out
        have hm2 : W24.heap.size ≤ m2 := by have := HM5.out; omega
        go_wp2_with fail
        have HE7 := Lib.hid (HE.out.set6 HX8.out (show w.heap.size ≤ bc by omega) (.string S2.owner) (.slice V2.a0 V2.l0.length V2.c0) (.slice V2.a1 V2.l1.length V2.c1) (.slice V2.a2 V2.l2.length V2.c2) (.slice ao3 S2.L.length cap3) (.int .i64 S2.req))
        have HX7 : Hid (boxAt _ bc V2 S2 (.slice ao3 S2.L.length cap3)) := Lib.hid (set6_over HX8.out (.string S2.owner) (.slice V2.a0 V2.l0.length V2.c0) (.slice V2.a1 V2.l1.length V2.c1) (.slice V2.a2 V2.l2.length V2.c2) (.slice ao3 S2.L.length cap3) (.int .i64 S2.req))
        have HP7 := Lib.hid (HPR6.out.set6 HX8.out (show w.heap.size ≤ bc by omega) (show w.heap.size ≤ bc by omega) (show b8 ≠ bc by omega) (.string S2.owner) (.slice V2.a0 V2.l0.length V2.c0) (.slice V2.a1 V2.l1.length V2.c1) (.slice V2.a2 V2.l2.length V2.c2) (.slice ao3 S2.L.length cap3) (.int .i64 S2.req))
        unfold set6 at HE7 HX7 HP7
        clear x0 x1 x2 x3 x4 x5 y0 y1 y2 y3 y4 y5 f0 f1 f2 f3 f4 f5
        generalize (((((W6.setCell _ _).setCell _ _).setCell _ _).setCell _ _).setCell _ _).setCell _ _ = W7 at HE7 HX7 HP7 ⊢
        go_wp2
        exact ⟨⟨k + 1, by omega, by omega, by go_num, Lib.hid ⟨m2, V2, S2, _, ⟨HE7.out, HX7.out, HE7.out.base⟩, HP7.out, hm2⟩⟩, by simp [intOf]; omega⟩
      · have HE := Lib.hid (HP5.out.set6 HZ.out hl0 (.string S2.owner) (.slice V2.a0 V2.l0.length V2.c0) (.slice V2.a1 V2.l1.length V2.c1) (.slice V2.a2 V2.l2.length V2.c2) (.slice ao3 S2.L.length cap3) (.int .i64 S2.req))
        have HX11 : Hid (boxAt _ wr.heap.size V2 S2 (.slice ao3 S2.L.length cap3)) := Lib.hid (set6_over HZ.out (.string S2.owner) (.slice V2.a0 V2.l0.length V2.c0) (.slice V2.a1 V2.l1.length V2.c1) (.slice V2.a2 V2.l2.length V2.c2) (.slice ao3 S2.L.length cap3) (.int .i64 S2.req))
        have HX8 : Hid (boxAt _ bc Vc Sc (.slice ao9 Sc.L.length cap9)) := Lib.hid (set6_keep HD5.out.x (show bc ≠ wr.heap.size by omega) (.string S2.owner) (.slice V2.a0 V2.l0.length V2.c0) (.slice V2.a1 V2.l1.length V2.c1) (.slice V2.a2 V2.l2.length V2.c2) (.slice ao3 S2.L.length cap3) (.int .i64 S2.req))
        have HR6 : Hid (Fr c m' wr (set6 W5 wr.heap.size (.string S2.owner) (.slice V2.a0 V2.l0.length V2.c0) (.slice V2.a1 V2.l1.length V2.c1) (.slice V2.a2 V2.l2.length V2.c2) (.slice ao3 S2.L.length cap3) (.int .i64 S2.req))) := Lib.hid ((HD5.out.set (b := wr.heap.size) (Nat.le_refl _) hl8 hl0 (.string S2.owner) (.slice V2.a0 V2.l0.length V2.c0) (.slice V2.a1 V2.l1.length V2.c1) (.slice V2.a2 V2.l2.length V2.c2) (.slice ao3 S2.L.length cap3) (.int .i64 S2.req)).fr)
        unfold set6 at HE HX11 HX8 HR6
        clear HD HDB HH4 HH4a HH5 HPA HPB d0 d1 d2 d3 d4 d5 g0 g1 g2 g3 g4 g5
        have hlb : wr.heap.size ≤ wr.heap.size := Nat.le_refl _
        generalize (((((W5.setCell _ _).setCell _ _).setCell _ _).setCell _ _).setCell _ _).setCell _ _ = W6 at HE HX11 HX8 HR6 ⊢
        have HPR6 := Lib.hid (HPR.out.other HS.out.pair.pool HR6.out HE.out.base HE.out.base (by omega) (by omega) (by omega) (by omega))
        obtain ⟨x0, x1, x2, x3, x4, x5⟩ := sixV HX11.out
        obtain ⟨y0, y1, y2, y3, y4, y5⟩ := sixV HX8.out
        obtain ⟨f0, f1, f2, f3, f4, f5⟩ := fr6 HX8.out
        have hm2 : W24.heap.size ≤ m2 := by have := HM5.out; omega
        go_wp2_with fail
        have HE7 := Lib.hid (HE.out.set6 HX8.out (show w.heap.size ≤ bc by omega) (.string S2.owner) (.slice V2.a0 V2.l0.length V2.c0) (.slice V2.a1 V2.l1.length V2.c1) (.slice V2.a2 V2.l2.length V2.c2) (.slice ao3 S2.L.length cap3) (.int .i64 S2.req))
        have HX7 : Hid (boxAt _ bc V2 S2 (.slice ao3 S2.L.length cap3)) := Lib.hid (set6_over HX8.out (.string S2.owner) (.slice V2.a0 V2.l0.length V2.c0) (.slice V2.a1 V2.l1.length V2.c1) (.slice V2.a2 V2.l2.length V2.c2) (.slice ao3 S2.L.length cap3) (.int .i64 S2.req))
        have HP7 := Lib.hid (HPR6.out.set6 HX8.out (show w.heap.size ≤ bc by omega) (show w.heap.size ≤ bc by omega) (show b8 ≠ bc by omega) (.string S2.owner) (.slice V2.a0 V2.l0.length V2.c0) (.slice V2.a1 V2.l1.length V2.c1) (.slice V2.a2 V2.l2.length V2.c2) (.slice ao3 S2.L.length cap3) (.int .i64 S2.req))
        unfold set6 at HE7 HX7 HP7
        clear x0 x1 x2 x3 x4 x5 y0 y1 y2 y3 y4 y5 f0 f1 f2 f3 f4 f5
        generalize (((((W6.setCell _ _).setCell _ _).setCell _ _).setCell _ _).setCell _ _).setCell _ _ = W7 at HE7 HX7 HP7 ⊢
        go_wp2
        exact ⟨⟨k + 1, by omega, by omega, by go_num, Lib.hid ⟨m2, V2, S2, _, ⟨HE7.out, HX7.out, HE7.out.base⟩, HP7.out, hm2⟩⟩, by simp [intOf]; omega⟩
    · have hx : ∃ m' V2 S2 sl2, BSq w w wr c m' V2 S2 sl2 bc ∧ BSq w w wr p m V' S' slp b8 := by
        obtain ⟨m', V2, S2, sl2, h1, h2, -⟩ := HR.out
        exact ⟨m', V2, S2, sl2, h1, h2⟩
      obtain ⟨m', Vc, Sc, slc, hr, hpr⟩ := hx
      obtain ⟨ao9, cap9, hsl9, -⟩ := row_open hr.pair.row
      subst hsl9
      obtain ⟨wq, rfl⟩ : ∃ wq, wq = wr := ⟨wr, rfl⟩
      have HC30 := Lib.hid hr
      have HP30 := Lib.hid hpr
      clear hr hpr HR
      have hlen3 := HP30.out.pair.sim.ok.len
      by_cases hkl : k < l2.length
      all_goals
        go_wp2_with fail
        refine (positions_calls _ p m S' HP30.out.pair.pool HP30.out.pair.sim.ok.len).mono ?_
        rintro e W31 ⟨v, rfl, hrow, hb⟩
        obtain ⟨a31, cap31, hsl31, -⟩ := pos_open hrow
        subst hsl31
        have HC31 := Lib.hid (HC30.out.below hb)
        have HP31 := Lib.hid (HP30.out.below hb)
        have HRW31 := Lib.hid hrow
        have hw31 := hb.size
        have HB31 := Lib.hid hb
        clear hb hrow
        go_wp2_with fail
        go_loopw [17] (fun v17 wl => ∃ k : Nat, k ≤ S'.L.length ∧ v17 = .int .i64 k ∧ Hid (∃ xs, wl.ownsRow wq.heap.size 62 2 (.slice a31 S'.L.length cap31) S'.L.length xs ∧ posInts xs S'.L.length ∧ Below wq.heap.size wq wl)) (fun v17 _ => S'.L.length - (intOf v17).toNat)
        case atStart => exact ⟨0, Nat.zero_le _, rfl, Lib.hid ⟨_, HRW31.out, posInts_row _, HB31.out⟩⟩
        case round =>
          obtain ⟨k2, hk2, rfl, HX⟩ := hrel
          obtain ⟨xs, hown, hints, hbl⟩ := HX.out
          have HOW2 := Lib.hid hown
          have HIN := Lib.hid hints
          have HBL := Lib.hid hbl
          clear HX hints hbl
          by_cases hlt2 : k2 < S'.L.length
          · obtain ⟨g, hg, hgb⟩ : ∃ g, a31 = some ⟨g, 0, none⟩ ∧ wq.heap.size ≤ g := by
              rcases hown.2 with ⟨e1, -⟩ | ⟨g, cap', cur, e1, e2, -⟩
              · simp only [Value.slice.injEq] at e1; omega
              · simp only [Value.slice.injEq] at e1; exact ⟨g, e1.1, e2⟩
            subst hg
            obtain ⟨qv, hqv⟩ := HIN.out k2 hlt2
            have hxl : xs.length = S'.L.length * 2 := hown.1
            have z1 : wr.cell? ⟨g, k2 * 2 + 1, none⟩ = some (.int .i64 qv) := (World.ownsRow.cellAt hown (k2 * 2 + 1) (by omega)).trans hqv
            have zf : wr.frozen? ⟨g, k2 * 2 + 1, none⟩ = false := World.ownsRow.frozenAt hown _
            have HST := Lib.hid (fun u => (World.ownsRow.stored hown (k2 * 2 + 1) u).1)
            clear hown hqv
            go_wp2
            refine ⟨⟨k2 + 1, by omega, by go_num, Lib.hid ⟨_, HST.out _, posInts_set HIN.out (by omega) _, HBL.out.setCell hgb _⟩⟩, by simp [intOf]; omega⟩
          · obtain rfl : k2 = S'.L.length := by omega
            have HC32 := Lib.hid (HC30.out.below HBL.out)
            have HP32 := Lib.hid (HP30.out.below HBL.out)
            clear hown HOW2 HIN
            obtain ⟨x0, x1, x2, x3, x4, x5⟩ := sixV HC32.out.x
            go_wp2_with fail
            refine (HC32.out.pair.same_calls).mono ?_
            rintro e W33 ⟨rfl, hb⟩
            have HP33 := Lib.hid (HP32.out.below hb)
            clear hb x0 x1 x2 x3 x4 x5 HC32 HP32
            obtain ⟨y0, y1, y2, y3, y4, y5⟩ := sixV HP33.out.x
            go_wp2_with fail
            refine (HP33.out.pair.same_calls).mono ?_
            rintro e W34 ⟨rfl, hb⟩
            have HP34 := Lib.hid (HP33.out.below hb)
            clear hb y0 y1 y2 y3 y4 y5 HP33
            go_wp2_with fail
            refine (known_calls _).mono ?_
            rintro e W40 ⟨rfl, hb⟩
            have HF40 := Lib.hid (bstep HP34.out.b hb (HP34.out.b).size)
            clear hb
            go_wp2_with fail
            go_ret
            exact ⟨rfl, HF40.out⟩
end Go.Proofs.YtjjnljfphaimgaaGreatDoor.C
/- For every valuation and every two lists of operations, girolaw34.CollateralClones returns true and leaves its arguments as they were. Conditions: the row's own (the listed package variables start as the program's text lays them; the card ties them to the text). -/
namespace Go.Proofs.YtjjnljfphaimgaaGreatDoor
open Go Go.RowKit Go.ChangeShapes Go.WideShapes Go.ChangeAt
open Go.Proofs.YtjjnljfphaimgaaGreatDoor.C

theorem ownRn : ownKnob Tryz.prog.godebug = none := by kernel_rfl
theorem laidOutRn : laidOutB Tryz.prog = true := by kernel_rfl
theorem doorRn (os : Os) (args : Array Value) : laidMetH Tryz.prog Rows.collateralClonesRow.laid ((World.doorLaid Tryz.prog 400 os).forCall (fun _ _ => 0) ⟨#[], args, []⟩).memory :=
  laidMetH_of_parts3 (fuel := 8) (laidMet_of_run' 8 (by kernel_rfl) (by kernel_rfl)) (by kernel_rfl) (by kernel_rfl)
theorem paramsRn : ∀ t ∈ Tryz.f9.params.toList, Tryz.prog.readableRec t = true ∧ t < Tryz.prog.types.size := by
  have h : (Tryz.f9.params.toList.all fun t => Tryz.prog.readableRec t && decide (t < Tryz.prog.types.size)) = true := by kernel_rfl
  intro t ht
  simpa using List.all_eq_true.1 h t ht
set_option maxRecDepth 100000 in
theorem liftedRn (os : Os) (started : os.Started) (H : Type) (enc : TypeId × Value → H) :
    ReturnsInHanded {} Tryz.checked os 9 .any (fun w args => (Rows.collateralClonesSpec.pre enc Tryz.prog Tryz.f9 [] false w args ∧ laidMetH Tryz.prog Rows.collateralClonesRow.laid w) ∧ sizedMet enc Tryz.prog Tryz.f9 (OpenSpec.ofChange Rows.collateralClonesSpec) false w args)
      (Rows.collateralClonesSpec.post enc Tryz.prog Tryz.f9 false true false false) := by
  refine returnsInHanded_of_change_and (C := Tryz.checked) (X := fun w _ => laidMetH Tryz.prog Rows.collateralClonesRow.laid w) (fun _ _ _ hh h => h.of_heap hh) ownRn started (by kernel_rfl) Tryz.func9
    (ChangeSpec.witness_shaped (enc := enc) (C := Tryz.checked) (os := os) (X := fun w _ => laidMetH Tryz.prog Rows.collateralClonesRow.laid w) false (World.doorLaid Tryz.prog 400 os) #[.agg #[.slice none 0 0, .slice none 0 0, .slice none 0 0], .slice none 0 0, .slice none 0 0] 8 rfl (World.shaped_of_RefB (by kernel_rfl) (by kernel_rfl)) (by kernel_rfl) (by kernel_rfl) (by kernel_rfl) (doorRn os _)) ?_
  intro W base args ds gs before hval0 hW _ _ _ _
  have hval : ∀ (j : Nat) t v, Tryz.f9.params[j]? = some t → args[j]? = some v → Value.okWide Tryz.prog W .any base t v := hval0
  have hW' := hW
  obtain ⟨p, q, hA0, hV, rfl, hfz, hnd⟩ := hW
  have hA : DataW.TrodAll enc Tryz.prog W 0 (fun _ => true) true Tryz.f9.params.toList args.toList ds p := hA0
  rw [Tryz.params9] at hA hval
  obtain ⟨v0, v1, v2, d0, d1, d2, p0, p1, p2, rfl, rfl, -, h0, h1, h2⟩ := trodAll_three hA
  obtain ⟨rfl, rfl⟩ := trodVars_none hV
  obtain ⟨cs0, rfl, -⟩ := okWide_struct Tryz.underlying26 (hval 0 26 v0 rfl rfl)
  obtain ⟨fuel0, h0⟩ := h0
  obtain ⟨V0, e0, g0⟩ := open_V h0
  obtain rfl : cs0 = #[V0.x0, V0.x1, V0.x2] := Array.ext' e0
  obtain ⟨a1, n1, c1, rfl⟩ := okWide_slice Tryz.underlying27 (hval 1 27 v1 rfl rfl)
  obtain ⟨fuel1, h1⟩ := h1
  obtain ⟨x1, l1, e1, g1⟩ := open_ops h1
  obtain rfl : Value.slice a1 n1 c1 = x1 := by simpa [Value.cells] using e1
  obtain ⟨a2, n2, c2, rfl⟩ := okWide_slice Tryz.underlying27 (hval 2 27 v2 rfl rfl)
  obtain ⟨fuel2, h2⟩ := h2
  obtain ⟨x2, l2, e2, g2⟩ := open_ops h2
  obtain rfl : Value.slice a2 n2 c2 = x2 := by simpa [Value.cells] using e2
  refine (clones_law W V0 _ l1 _ l2 g0 g1 g2).mono fun e W' ⟨he, hb⟩ => ?_
  subst he
  exact ⟨_, rfl, law_post laidOutRn rfl (by kernel_rfl) rfl paramsRn hW' hb⟩
theorem saidRn : Rows.CollateralClonesSaid :=
  OpenClaim.holds_of_wide 9 Tryz.f9 rfl rfl rfl rfl rfl rfl rfl ⟨rfl, rfl, rfl, rfl, rfl⟩ rfl rfl rfl rfl rfl (by kernel_rfl) Tryz.func9 (by kernel_rfl)
    (of_decide_eq_true (by kernel_rfl)) (by unfold Func.isWrapper; first | (rw [if_pos (by decide +kernel)]; kernel_rfl) | (rw [if_neg (by decide +kernel)]; exact ⟨rfl, rfl⟩))
    (fun os started H enc _ => liftedRn os started H enc)
theorem collateralClones_card : Rows.CollateralClonesCardSaid :=
  Claim7.holds_tied_plain_at .later [] [.data, .data, .data] true Rows.collateralClonesCard.stood.harness true
    saidRn (fun _ h => by cases h) (by kernel_rfl) (fun _ h => by cases h) collateralClones_row_tie rfl ⟨rfl, rfl⟩ (by kernel_rfl) rfl
    (fun f fn hf hfn => by
      obtain rfl : f = 9 := Option.some.inj ((show Tryz.prog.funcNamed "giro/girolaw34.CollateralClones" = some 9 by kernel_rfl).symm.trans hf) |>.symm
      obtain rfl : fn = Tryz.f9 := (Option.some.inj (Tryz.func9.symm.trans hfn)).symm
      exact ⟨by kernel_rfl, fun j t ht => by
        rw [Tryz.params9] at ht
        have hm : t ∈ [26, 27, 27] := by simpa using Array.mem_of_getElem? ht
        have hall : ([26, 27, 27].all fun u => !Tryz.prog.wantsStandIn u) = true := by kernel_rfl
        exact (show Tryz.prog.wantsStandIn t = false by simpa using List.all_eq_true.1 hall t hm)⟩)
    (by kernel_rfl)
#print axioms collateralClones_card
end Go.Proofs.YtjjnljfphaimgaaGreatDoor
