/- For every valuation and every list of operations, girolaw34.CollateralCover returns true and leaves its arguments as they were. Conditions: the row's own (the listed package variables start as the program's text lays them; the card ties them to the text). -/
import Derived.SevenTiedAt
import Derived.Test.YtjjnljfphaimgaaGreatDoorRows
import Derived.Test.YtjjnljfphaimgaaGreatDoorCards
import Derived.Test.YtjjnljfphaimgaaGreatDoorTie
import Derived.Test.YtjjnljfphaimgaaGreatDoorK15
set_option linter.all false
/- girolaw34.CollateralCover. (Printed by genlaw34.py.) -/
namespace Go.Proofs.YtjjnljfphaimgaaGreatDoor.C
open Go Go.RowKit Go.Shelf Go.Proofs

theorem cover_do {o : OpS} {V : VS} {S : PS} (hs : Sim (fV V) S) (hk : ¬ o.kd % 5 = 4) (k0 : 0 ≤ o.kd) (h : S.req ≤ S.value) : (doF o V S).2.req ≤ (doF o V S).2.value := by
  unfold doF
  by_cases h0 : o.kd % 5 = 0
  · rw [if_pos h0]; exact cover_pledge (fV_ok V) hs h _ _
  rw [if_neg h0]
  by_cases h1 : o.kd % 5 = 1
  · rw [if_pos h1]; exact cover_release h _ _
  rw [if_neg h1]
  by_cases h2 : o.kd % 5 = 2
  · rw [if_pos h2]; exact cover_require h _
  rw [if_neg h2]
  by_cases h3 : o.kd % 5 = 3
  · rw [if_pos h3]; exact cover_subst h _ _ _ _
  omega

set_option maxRecDepth 100000 in
set_option maxHeartbeats 16000000 in
theorem cover_law (w : World) (V : VS) (v : Value) (l : List OpS) (hv : VOk w V) (hl : OpsAt w w.heap.size v l) :
    Calls Tryz.prog 5 #[aggV V, v] w (LawPost w) := by
  obtain ⟨ao, cap, hsl, hc⟩ := hl.ex
  subst hsl
  have HC := Lib.hid hc
  have HOK := Lib.hid hl.ok
  have hlen := hl.len
  have HV := Lib.hid hv
  have HB := Lib.hid ((Below.refl w.heap.size w).alloc (Nat.le_refl _) (.cells #[V.x0, V.x1, V.x2] 26))
  have HX := Lib.hid (blk_new w (.cells #[V.x0, V.x1, V.x2] 26))
  clear hc hl hv
  unfold maxLen at hlen
  unfold aggV
  unfold VS.x0 VS.x1 VS.x2 at *
  go_enter Tryz.func5, Tryz.ntmps5
  go_wp2_with fail
  generalize w.alloc (.cells #[.slice V.a0 V.l0.length V.c0, .slice V.a1 V.l1.length V.c1, .slice V.a2 V.l2.length V.c2] 26) = W1 at HB HX ⊢
  have x0 := (blk_cell HX.out 0).trans rfl
  have x1 := (blk_cell HX.out 1).trans rfl
  have x2 := (blk_cell HX.out 2).trans rfl
  go_wp2_with fail
  refine (few_calls _ V HV.out.l0 HV.out.l1 HV.out.l2).mono ?_
  rintro e W2 ⟨rfl, hb⟩
  have HB2 := Lib.hid (bstep HB.out hb HB.out.size)
  have HX2 := Lib.hid (blk_keep hb HX.out (Nat.le_refl _))
  clear hb HB HX x0 x1 x2
  have x0 := (blk_cell HX2.out 0).trans rfl
  have x1 := (blk_cell HX2.out 1).trans rfl
  have x2 := (blk_cell HX2.out 2).trans rfl
  cases hfw : fewB V
  · clear hfw
    go_wp2_with fail
    refine (known_calls _).mono ?_
    rintro e W3 ⟨rfl, hb⟩
    have HB3 := Lib.hid (bstep HB2.out hb HB2.out.size)
    clear hb
    go_wp2_with fail
    go_ret
    exact ⟨rfl, HB3.out⟩
  · have HVA := Lib.hid (HV.out.rd.few hfw)
    clear hfw
    go_wp2_with fail
    refine (new_ok W2 bankA (by decide) 35 (.agg #[.slice V.a0 V.l0.length V.c0, .slice V.a1 V.l1.length V.c1, .slice V.a2 V.l2.length V.c2]) bankA_member).mono ?_
    rintro e W3 ⟨p, m, rfl, hP, hp, hm, hb⟩
    have HB3 := Lib.hid (bstep HB2.out hb HB2.out.size)
    have HX3 := Lib.hid (blk_keep hb HX2.out (Nat.le_refl _))
    have HP3 : Hid (Pair w W3 p m V (new0 V).2 (.slice none 0 0)) := Lib.hid ⟨hP, rfl, row_nil _ _, HVA.out, sim_new V, HB3.out, by have := HB2.out.size; omega, by have := HB2.out.size; omega⟩
    clear hb HB2 HX2 x0 x1 x2 hP hp hm
    have x0 := (blk_cell HX3.out 0).trans rfl
    have x1 := (blk_cell HX3.out 1).trans rfl
    have x2 := (blk_cell HX3.out 2).trans rfl
    go_wp2_with fail
    refine (refNew_calls W3 V bankA (by decide)).mono ?_
    rw [if_pos bankA_member]
    rintro e W4 ⟨rfl, hb⟩
    unfold VS.x0 VS.x1 VS.x2
    have HP4 := Lib.hid (HP3.out.below hb)
    have HB4 := Lib.hid (bstep HB3.out hb HB3.out.size)
    clear hb HB3 HX3 HP3 x0 x1 x2
    have HS5 : Hid (BSq w w (W4.alloc (.cells #[.string bankA, .slice V.a0 V.l0.length V.c0, .slice V.a1 V.l1.length V.c1, .slice V.a2 V.l2.length V.c2, .slice none 0 0, .int .i64 0] 38)) p m V (new0 V).2 (.slice none 0 0) W4.heap.size) := Lib.hid
      ⟨HP4.out.below ((Below.refl _ _).alloc (Nat.le_refl _) _), blk_new _ _, HB4.out.alloc HB4.out.size _⟩
    go_upto_region 5 with fail
    obtain ⟨b8, hb8e⟩ : ∃ b8, W4.heap.size = b8 := ⟨_, rfl⟩
    have hb8 : w.heap.size ≤ b8 := by have := HB4.out.size; omega
    rw [hb8e] at HS5
    simp only [hb8e]
    clear hb8e HP4
    generalize W4.alloc (.cells #[.string bankA, .slice V.a0 V.l0.length V.c0, .slice V.a1 V.l1.length V.c1, .slice V.a2 V.l2.length V.c2, .slice none 0 0, .int .i64 0] 38) = W5 at HS5 ⊢
    go_wp2_with fail
    go_loopw [9] (fun v9 wr => ∃ k : Nat, k ≤ l.length ∧ k ≤ 30 ∧ v9 = .int .i64 k ∧ Hid (∃ m' V' S' sl', BSq w w wr p m' V' S' sl' b8 ∧ S'.req ≤ S'.value)) (fun v9 _ => 30 - (intOf v9).toNat)
    case atStart => exact ⟨0, Nat.zero_le _, by omega, rfl, Lib.hid ⟨m, V, _, .slice none 0 0, HS5.out, Int.le_refl _⟩⟩
    case round =>
      obtain ⟨k, hk, hk30, rfl, HR⟩ := hrel
      by_cases hlt : k < l.length ∧ k < 30
      · obtain ⟨hlt, hlt3⟩ := hlt
        obtain ⟨m', V', S', sl', hr, hcov⟩ := HR.out
        have HOo := Lib.hid (HOK.out l[k] (List.getElem_mem hlt))
        obtain ⟨a, ha, hab, hac⟩ := HC.out k hlt
        subst ha
        have HAC := Lib.hid hac
        generalize l[k] = o at HOo HAC
        obtain ⟨ao2, cap2, hsl2, -⟩ := row_open hr.pair.row
        subst hsl2
        have HS0 := Lib.hid hr
        have HCOV := Lib.hid hcov
        clear hr hac HR hcov
        have z0 : wr.cell? (a.add (k * 9)) = some (.int .u8 o.kd) := by
          have h0 := HAC.out 0 (by omega)
          exact (HS0.out.pair.base.cell (by rw [add_block]; exact hab)).trans (h0.trans rfl)
        have k0 := HOo.out.1.k0
        have k1 := HOo.out.1.k1
        by_cases h4 : o.kd % 5 = 4
        · go_wp2_with fail
          exact ⟨⟨k + 1, by omega, by omega, by go_num, Lib.hid ⟨m', V', S', _, HS0.out, HCOV.out⟩⟩, by simp [intOf]; omega⟩
        have h4' : (o.kd % 5 == 4) = false := by simpa using h4
        have HN4 := Lib.hid h4
        clear h4
        go_wp2_with fail
        refine (HS0.out.pair.own.clone).mono ?_
        rintro e wc ⟨pb, mb, rfl, hc5, hpb, hmb, hb5⟩
        have HBF := Lib.hid hc5
        have HS := Lib.hid (HS0.out.below hb5)
        have hlp0 : p < wr.heap.size := HS0.out.pair.pool.lt
        have hlm0 : m' < wr.heap.size := HS0.out.pair.pool.2.lt
        obtain ⟨X, hX⟩ : ∃ X, X = doF o V' S' := ⟨_, rfl⟩
        have HNX := Lib.hid hX
        clear hc5 hb5 HS0 z0 h4' hX
        have HD0 := Lib.hid (D3q.mk (wr := wc) (p := p) (m := m') HS.out.x (Fr.refl _ _ _) HS.out.pair.base)
        have HPA := HS.out.pair.below (Below.refl _ _).drew
        have HPB := fun ob => HS.out.pair.below (((Below.refl _ _).alloc (Nat.le_refl _) ob).drew)
        have HD : D3qc w wc wc.drew p m' V' S' (.slice ao2 S'.L.length cap2) b8 a k o := (HD0.out.below (Below.refl _ _).drew).cells hab HAC.out
        have HDB : ∀ ob, D3qc w wc (wc.alloc ob).drew p m' V' S' (.slice ao2 S'.L.length cap2) b8 a k o := fun ob => (HD0.out.below (((Below.refl _ _).alloc (Nat.le_refl _) ob).drew)).cells hab HAC.out
        unfold D3qc at HD HDB
        have hl8 : b8 < wc.heap.size := blk_lt HS.out.x
        have hl0 : w.heap.size ≤ wc.heap.size := HS.out.pair.base.size
        have hlp : p < wc.heap.size := HS.out.pair.pool.lt
        have hlm : m' < wc.heap.size := HS.out.pair.pool.2.lt
        have hlpw : w.heap.size ≤ p := HS.out.pair.hp
        have hlmw : w.heap.size ≤ m' := HS.out.pair.hm
        go_upto_region 12 with fail
        go_region_held3 (fun W => W.cell? ⟨b8, 0, none⟩ = some (.string S'.owner) ∧ W.cell? ⟨b8, 1, none⟩ = some (.slice V'.a0 V'.l0.length V'.c0) ∧ W.cell? ⟨b8, 2, none⟩ = some (.slice V'.a1 V'.l1.length V'.c1) ∧ W.cell? ⟨b8, 3, none⟩ = some (.slice V'.a2 V'.l2.length V'.c2) ∧ W.cell? ⟨b8, 4, none⟩ = some (.slice ao2 S'.L.length cap2) ∧ W.cell? ⟨b8, 5, none⟩ = some (.int .i64 S'.req) ∧
            W.cell? (a.add (k * 9)) = some (.int .u8 o.kd) ∧ W.cell? ⟨(a.add (k * 9)).block, (a.add (k * 9)).off + 1, none⟩ = some (.string o.ak) ∧ W.cell? ⟨(a.add (k * 9)).block, (a.add (k * 9)).off + 2, none⟩ = some (.int .i64 o.aq) ∧ W.cell? ⟨(a.add (k * 9)).block, (a.add (k * 9)).off + 3, none⟩ = some (.string o.bk) ∧ W.cell? ⟨(a.add (k * 9)).block, (a.add (k * 9)).off + 4, none⟩ = some (.int .i64 o.bq) ∧ W.cell? ⟨(a.add (k * 9)).block, (a.add (k * 9)).off + 5, none⟩ = some (.int .i64 o.n) ∧ W.cell? ⟨(a.add (k * 9)).block, (a.add (k * 9)).off + 6, none⟩ = some (.slice o.V.a0 o.V.l0.length o.V.c0) ∧ W.cell? ⟨(a.add (k * 9)).block, (a.add (k * 9)).off + 7, none⟩ = some (.slice o.V.a1 o.V.l1.length o.V.c1) ∧ W.cell? ⟨(a.add (k * 9)).block, (a.add (k * 9)).off + 8, none⟩ = some (.slice o.V.a2 o.V.l2.length o.V.c2) ∧ D3q w wc W p m' V' S' (.slice ao2 S'.L.length cap2) b8)
          (first | with_reducible exact HD | with_reducible exact HDB _ | with_reducible exact HH4 | with_reducible exact HH4a _ | with_reducible exact HH5 | with_reducible trivial)
          (first
            | (go_at_call 15
               refine (do_calls w _ p m' V' S' (.slice ao2 S'.L.length cap2) o (by first | with_reducible exact HPA | with_reducible exact HPB _) HOo.out.1 HOo.out.2).mono ?_
               rintro e W5 ⟨m2, sl2, rfl, hp5, hF5, hm5⟩
               have HK5 := Lib.hid (fun (b : Nat) (ob : Obj) (h : _ = some ob) (h1 : b ≠ p) (h2 : b ≠ m') => (hF5.block b (blk_lt h) h1 h2).trans h)
               have HD5 : Hid (D3q w wc W5 p m' V' S' (.slice ao2 S'.L.length cap2) b8) := by
                 first
                   | with_reducible exact Lib.hid ((HD0.out.below (Below.refl _ _).drew).go HPA.pool HS.out.pair.hp HS.out.pair.hm hF5)
                   | with_reducible exact Lib.hid ((HD0.out.below (((Below.refl _ _).alloc (Nat.le_refl _) _).drew)).go (HPB _).pool HS.out.pair.hp HS.out.pair.hm hF5)
               have HH4 : D3qc w wc W5 p m' V' S' (.slice ao2 S'.L.length cap2) b8 a k o := HD5.out.cells hab HAC.out
               have HH4a : ∀ ob, D3qc w wc (W5.alloc ob) p m' V' S' (.slice ao2 S'.L.length cap2) b8 a k o := fun ob => (HD5.out.below ((Below.refl _ _).alloc (Nat.le_refl _) ob)).cells hab HAC.out
               have HP5 := Lib.hid hp5
               have HM5 : Hid (m2 = m' ∨ wc.heap.size ≤ m2) := Lib.hid (by rcases hm5 with h | h; exact Or.inl h; right; simp at h; omega)
               obtain ⟨ao3, cap3, hsl3, -⟩ := row_open hp5.row
               subst hsl3
               unfold D3qc at HH4 HH4a
               obtain ⟨r2, hr2⟩ : ∃ r2, r2 = doF o V' S' := ⟨_, rfl⟩
               have HY2 := Lib.hid hr2
               rw [← hr2] at HP5
               rw [← hr2]
               clear hr2
               obtain ⟨V2, S2⟩ := r2
               unfold rP VS.x0 VS.x1 VS.x2
               simp only at HP5 ⊢
               clear hp5 hm5 hF5
               first
                 | (with_reducible have HZ0 := HK5.out _ _ (blk_drew (blk_new wc (.cells #[.string ⟨#[]⟩, .slice none 0 0, .slice none 0 0, .slice none 0 0, .slice none 0 0, .int .i64 0] 38)))
                    have HZ : Hid (W5.heap[wc.heap.size]? = some (.cells zeroP 38 (0, 0))) := Lib.hid (HZ0 (by omega) (by omega))
                    clear HZ0
                    obtain ⟨⟨d0, d1, d2, d3, d4, d5⟩, g0, g1, g2, g3, g4, g5⟩ := zcells HZ.out
                    have HD6 := Lib.hid (HD5.out.set (b := wc.heap.size) (Nat.le_refl _) hl8 hl0 (.string S2.owner) (.slice V2.a0 V2.l0.length V2.c0) (.slice V2.a1 V2.l1.length V2.c1) (.slice V2.a2 V2.l2.length V2.c2) (.slice ao3 S2.L.length cap3) (.int .i64 S2.req))
                    have HH5 : D3qc w wc _ p m' V' S' (.slice ao2 S'.L.length cap2) b8 a k o := HD6.out.cells hab HAC.out
                    unfold D3qc set6 at HH5)
                 | skip))
        all_goals
          have hw5 : wc.heap.size ≤ W5.heap.size := HD5.out.fr.size
          rename_i hHeld
          clear hHeld
        · have HE : Hid (Pair w (W5.alloc (.cells #[.string S2.owner, .slice V2.a0 V2.l0.length V2.c0, .slice V2.a1 V2.l1.length V2.c1, .slice V2.a2 V2.l2.length V2.c2, .slice ao3 S2.L.length cap3, .int .i64 S2.req] 38)) p m2 V2 S2 (.slice ao3 S2.L.length cap3)) := Lib.hid (HP5.out.below ((Below.refl _ _).alloc (Nat.le_refl _) _))
          have HX11 : Hid (boxAt (W5.alloc (.cells #[.string S2.owner, .slice V2.a0 V2.l0.length V2.c0, .slice V2.a1 V2.l1.length V2.c1, .slice V2.a2 V2.l2.length V2.c2, .slice ao3 S2.L.length cap3, .int .i64 S2.req] 38)) W5.heap.size V2 S2 (.slice ao3 S2.L.length cap3)) := Lib.hid (blk_new _ _)
          have HX8 : Hid (boxAt (W5.alloc (.cells #[.string S2.owner, .slice V2.a0 V2.l0.length V2.c0, .slice V2.a1 V2.l1.length V2.c1, .slice V2.a2 V2.l2.length V2.c2, .slice ao3 S2.L.length cap3, .int .i64 S2.req] 38)) b8 V' S' (.slice ao2 S'.L.length cap2)) := Lib.hid (blk_alloc HD5.out.x _)
          have HR6 := Lib.hid (HD5.out.fr.alloc (.cells #[.string S2.owner, .slice V2.a0 V2.l0.length V2.c0, .slice V2.a1 V2.l1.length V2.c1, .slice V2.a2 V2.l2.length V2.c2, .slice ao3 S2.L.length cap3, .int .i64 S2.req] 38))
          clear HD HDB HH4 HH4a HPA HPB
          have hlb : wc.heap.size ≤ W5.heap.size := hw5
          generalize W5.alloc (.cells #[.string S2.owner, .slice V2.a0 V2.l0.length V2.c0, .slice V2.a1 V2.l1.length V2.c1, .slice V2.a2 V2.l2.length V2.c2, .slice ao3 S2.L.length cap3, .int .i64 S2.req] 38) = W6 at HE HX11 HX8 HR6 ⊢
          have HBF6 := Lib.hid (HBF.out.other HR6.out HE.out.base (by omega) (by omega) (by omega) (by omega))
          have HRW6 := Lib.hid (row_fr HS.out.pair.row HS.out.pair.pool HR6.out)
          have HCV2 : Hid (S2.req ≤ S2.value) := Lib.hid (by
            have h1 := cover_do (o := o) HS.out.pair.sim HN4.out k0 HCOV.out
            rw [← HY2.out] at h1
            exact h1)
          have r0 := HE.out.sim.ok.r0
          have r1 := HE.out.sim.ok.r1
          have v0 := HE.out.sim.ok.v0
          have v1 := HE.out.sim.ok.v1
          have hcv := HCV2.out
          have HEX := Lib.hid HE.out.own.excess
          have HVL := Lib.hid (value_calls W6 p m2 S2 HE.out.pool)
          have HRQ := Lib.hid (required_calls W6 p m2 S2 HE.out.pool)
          obtain ⟨x0, x1, x2, x3, x4, x5⟩ := sixV HX11.out
          obtain ⟨y0, y1, y2, y3, y4, y5⟩ := sixV HX8.out
          go_wp2_with fail
          refine HEX.out.mono ?_
          rintro e w' ⟨rfl, rfl⟩
          clear HEX
          go_wp2_with fail
          refine HVL.out.mono ?_
          rintro e w' ⟨rfl, rfl⟩
          clear HVL
          go_wp2_with fail
          refine HRQ.out.mono ?_
          rintro e w' ⟨rfl, rfl⟩
          go_wp2_with fail
          refine HRQ.out.mono ?_
          rintro e w' ⟨rfl, rfl⟩
          clear HRQ
          go_wp2_with fail
          refine (HE.out.refSame (HBF6.out.pair HRW6.out)).mono ?_
          rintro e W7 ⟨rfl, hb⟩
          have HE7 := Lib.hid (HE.out.below hb)
          have HBF7 := Lib.hid (HBF6.out.below hb)
          have HX17 : Hid (boxAt W7 _ V2 S2 (.slice ao3 S2.L.length cap3)) := Lib.hid (blk_keep hb HX11.out (Nat.le_refl _))
          have HX87 : Hid (boxAt W7 b8 V' S' (.slice ao2 S'.L.length cap2)) := Lib.hid (blk_keep hb HX8.out (Nat.le_refl _))
          clear hb x0 x1 x2 x3 x4 x5 y0 y1 y2 y3 y4 y5 HX11 HX8 HE HBF6 HRW6
          go_wp2_with fail
          refine (HE7.out.own.equal HBF7.out).mono ?_
          rintro e W8 ⟨rfl, hb⟩
          have HE8 := Lib.hid (HE7.out.below hb)
          have HX18 : Hid (boxAt W8 _ V2 S2 (.slice ao3 S2.L.length cap3)) := Lib.hid (blk_keep hb HX17.out (Nat.le_refl _))
          have HX88 : Hid (boxAt W8 b8 V' S' (.slice ao2 S'.L.length cap2)) := Lib.hid (blk_keep hb HX87.out (Nat.le_refl _))
          clear hb HX17 HX87 HE7 HBF7
          have hee : (eqF S2 S' != eqF S2 S') = false := by simp
          obtain ⟨x0, x1, x2, x3, x4, x5⟩ := sixV HX18.out
          obtain ⟨y0, y1, y2, y3, y4, y5⟩ := sixV HX88.out
          obtain ⟨f0, f1, f2, f3, f4, f5⟩ := fr6 HX88.out
          go_wp2_with fail
          have HE9 := Lib.hid (HE8.out.set6 HX88.out (show w.heap.size ≤ b8 by omega) (.string S2.owner) (.slice V2.a0 V2.l0.length V2.c0) (.slice V2.a1 V2.l1.length V2.c1) (.slice V2.a2 V2.l2.length V2.c2) (.slice ao3 S2.L.length cap3) (.int .i64 S2.req))
          have HX89 : Hid (boxAt _ b8 V2 S2 (.slice ao3 S2.L.length cap3)) := Lib.hid (set6_over HX88.out (.string S2.owner) (.slice V2.a0 V2.l0.length V2.c0) (.slice V2.a1 V2.l1.length V2.c1) (.slice V2.a2 V2.l2.length V2.c2) (.slice ao3 S2.L.length cap3) (.int .i64 S2.req))
          unfold set6 at HE9 HX89
          clear x0 x1 x2 x3 x4 x5 y0 y1 y2 y3 y4 y5 f0 f1 f2 f3 f4 f5 hee
          generalize (((((W8.setCell _ _).setCell _ _).setCell _ _).setCell _ _).setCell _ _).setCell _ _ = W9 at HE9 HX89 ⊢
          go_wp2
          exact ⟨⟨k + 1, by omega, by omega, by go_num, Lib.hid ⟨m2, V2, S2, _, ⟨HE9.out, HX89.out, HE9.out.base⟩, HCV2.out⟩⟩, by simp [intOf]; omega⟩
        · have HE := Lib.hid (HP5.out.set6 HZ.out hl0 (.string S2.owner) (.slice V2.a0 V2.l0.length V2.c0) (.slice V2.a1 V2.l1.length V2.c1) (.slice V2.a2 V2.l2.length V2.c2) (.slice ao3 S2.L.length cap3) (.int .i64 S2.req))
          have HX11 : Hid (boxAt _ wc.heap.size V2 S2 (.slice ao3 S2.L.length cap3)) := Lib.hid (set6_over HZ.out (.string S2.owner) (.slice V2.a0 V2.l0.length V2.c0) (.slice V2.a1 V2.l1.length V2.c1) (.slice V2.a2 V2.l2.length V2.c2) (.slice ao3 S2.L.length cap3) (.int .i64 S2.req))
          have HX8 : Hid (boxAt _ b8 V' S' (.slice ao2 S'.L.length cap2)) := Lib.hid (set6_keep HD5.out.x (show b8 ≠ wc.heap.size by omega) (.string S2.owner) (.slice V2.a0 V2.l0.length V2.c0) (.slice V2.a1 V2.l1.length V2.c1) (.slice V2.a2 V2.l2.length V2.c2) (.slice ao3 S2.L.length cap3) (.int .i64 S2.req))
          have HR6 : Hid (Fr p m' wc (set6 W5 wc.heap.size (.string S2.owner) (.slice V2.a0 V2.l0.length V2.c0) (.slice V2.a1 V2.l1.length V2.c1) (.slice V2.a2 V2.l2.length V2.c2) (.slice ao3 S2.L.length cap3) (.int .i64 S2.req))) := Lib.hid ((HD5.out.set (b := wc.heap.size) (Nat.le_refl _) hl8 hl0 (.string S2.owner) (.slice V2.a0 V2.l0.length V2.c0) (.slice V2.a1 V2.l1.length V2.c1) (.slice V2.a2 V2.l2.length V2.c2) (.slice ao3 S2.L.length cap3) (.int .i64 S2.req)).fr)
          unfold set6 at HE HX11 HX8 HR6
          clear HD HDB HH4 HH4a HH5 HPA HPB d0 d1 d2 d3 d4 d5 g0 g1 g2 g3 g4 g5
          have hlb : wc.heap.size ≤ wc.heap.size := Nat.le_refl _
          generalize (((((W5.setCell _ _).setCell _ _).setCell _ _).setCell _ _).setCell _ _).setCell _ _ = W6 at HE HX11 HX8 HR6 ⊢
          have HBF6 := Lib.hid (HBF.out.other HR6.out HE.out.base (by omega) (by omega) (by omega) (by omega))
          have HRW6 := Lib.hid (row_fr HS.out.pair.row HS.out.pair.pool HR6.out)
          have HCV2 : Hid (S2.req ≤ S2.value) := Lib.hid (by
            have h1 := cover_do (o := o) HS.out.pair.sim HN4.out k0 HCOV.out
            rw [← HY2.out] at h1
            exact h1)
          have r0 := HE.out.sim.ok.r0
          have r1 := HE.out.sim.ok.r1
          have v0 := HE.out.sim.ok.v0
          have v1 := HE.out.sim.ok.v1
          have hcv := HCV2.out
          have HEX := Lib.hid HE.out.own.excess
          have HVL := Lib.hid (value_calls W6 p m2 S2 HE.out.pool)
          have HRQ := Lib.hid (required_calls W6 p m2 S2 HE.out.pool)
          obtain ⟨x0, x1, x2, x3, x4, x5⟩ := sixV HX11.out
          obtain ⟨y0, y1, y2, y3, y4, y5⟩ := sixV HX8.out
          go_wp2_with fail
          refine HEX.out.mono ?_
          rintro e w' ⟨rfl, rfl⟩
          clear HEX
          go_wp2_with fail
          refine HVL.out.mono ?_
          rintro e w' ⟨rfl, rfl⟩
          clear HVL
          go_wp2_with fail
          refine HRQ.out.mono ?_
          rintro e w' ⟨rfl, rfl⟩
          go_wp2_with fail
          refine HRQ.out.mono ?_
          rintro e w' ⟨rfl, rfl⟩
          clear HRQ
          go_wp2_with fail
          refine (HE.out.refSame (HBF6.out.pair HRW6.out)).mono ?_
          rintro e W7 ⟨rfl, hb⟩
          have HE7 := Lib.hid (HE.out.below hb)
          have HBF7 := Lib.hid (HBF6.out.below hb)
          have HX17 : Hid (boxAt W7 _ V2 S2 (.slice ao3 S2.L.length cap3)) := Lib.hid (blk_keep hb HX11.out (Nat.le_refl _))
          have HX87 : Hid (boxAt W7 b8 V' S' (.slice ao2 S'.L.length cap2)) := Lib.hid (blk_keep hb HX8.out (Nat.le_refl _))
          clear hb x0 x1 x2 x3 x4 x5 y0 y1 y2 y3 y4 y5 HX11 HX8 HE HBF6 HRW6
          go_wp2_with fail
          refine (HE7.out.own.equal HBF7.out).mono ?_
          rintro e W8 ⟨rfl, hb⟩
          have HE8 := Lib.hid (HE7.out.below hb)
          have HX18 : Hid (boxAt W8 _ V2 S2 (.slice ao3 S2.L.length cap3)) := Lib.hid (blk_keep hb HX17.out (Nat.le_refl _))
          have HX88 : Hid (boxAt W8 b8 V' S' (.slice ao2 S'.L.length cap2)) := Lib.hid (blk_keep hb HX87.out (Nat.le_refl _))
          clear hb HX17 HX87 HE7 HBF7
          have hee : (eqF S2 S' != eqF S2 S') = false := by simp
          obtain ⟨x0, x1, x2, x3, x4, x5⟩ := sixV HX18.out
          obtain ⟨y0, y1, y2, y3, y4, y5⟩ := sixV HX88.out
          obtain ⟨f0, f1, f2, f3, f4, f5⟩ := fr6 HX88.out
          go_wp2_with fail
          have HE9 := Lib.hid (HE8.out.set6 HX88.out (show w.heap.size ≤ b8 by omega) (.string S2.owner) (.slice V2.a0 V2.l0.length V2.c0) (.slice V2.a1 V2.l1.length V2.c1) (.slice V2.a2 V2.l2.length V2.c2) (.slice ao3 S2.L.length cap3) (.int .i64 S2.req))
          have HX89 : Hid (boxAt _ b8 V2 S2 (.slice ao3 S2.L.length cap3)) := Lib.hid (set6_over HX88.out (.string S2.owner) (.slice V2.a0 V2.l0.length V2.c0) (.slice V2.a1 V2.l1.length V2.c1) (.slice V2.a2 V2.l2.length V2.c2) (.slice ao3 S2.L.length cap3) (.int .i64 S2.req))
          unfold set6 at HE9 HX89
          clear x0 x1 x2 x3 x4 x5 y0 y1 y2 y3 y4 y5 f0 f1 f2 f3 f4 f5 hee
          generalize (((((W8.setCell _ _).setCell _ _).setCell _ _).setCell _ _).setCell _ _).setCell _ _ = W9 at HE9 HX89 ⊢
          go_wp2
          exact ⟨⟨k + 1, by omega, by omega, by go_num, Lib.hid ⟨m2, V2, S2, _, ⟨HE9.out, HX89.out, HE9.out.base⟩, HCV2.out⟩⟩, by simp [intOf]; omega⟩
      · obtain ⟨m', V', S', sl', hr, -⟩ := HR.out
        have HBr := Lib.hid hr.b
        clear hr HR
        by_cases hkl : k < l.length
        all_goals go_wp2_with fail
        all_goals
          refine (known_calls _).mono ?_
          rintro e W7 ⟨rfl, hb⟩
          have HB7 := Lib.hid (bstep HBr.out hb HBr.out.size)
          clear hb
          go_wp2_with fail
          go_ret
          exact ⟨rfl, HB7.out⟩
end Go.Proofs.YtjjnljfphaimgaaGreatDoor.C
/- For every valuation and every list of operations, girolaw34.CollateralCover returns true and leaves its arguments as they were. Conditions: the row's own (the listed package variables start as the program's text lays them; the card ties them to the text). -/
namespace Go.Proofs.YtjjnljfphaimgaaGreatDoor
open Go Go.RowKit Go.ChangeShapes Go.WideShapes Go.ChangeAt
open Go.Proofs.YtjjnljfphaimgaaGreatDoor.C

theorem ownRc : ownKnob Tryz.prog.godebug = none := by kernel_rfl
theorem laidOutRc : laidOutB Tryz.prog = true := by kernel_rfl
theorem doorRc (os : Os) (args : Array Value) : laidMetH Tryz.prog Rows.collateralCoverRow.laid ((World.doorLaid Tryz.prog 400 os).forCall (fun _ _ => 0) ⟨#[], args, []⟩).memory :=
  laidMetH_of_parts3 (fuel := 8) (laidMet_of_run' 8 (by kernel_rfl) (by kernel_rfl)) (by kernel_rfl) (by kernel_rfl)
theorem paramsRc : ∀ t ∈ Tryz.f5.params.toList, Tryz.prog.readableRec t = true ∧ t < Tryz.prog.types.size := by
  have h : (Tryz.f5.params.toList.all fun t => Tryz.prog.readableRec t && decide (t < Tryz.prog.types.size)) = true := by kernel_rfl
  intro t ht
  simpa using List.all_eq_true.1 h t ht
set_option maxRecDepth 100000 in
theorem liftedRc (os : Os) (started : os.Started) (H : Type) (enc : TypeId × Value → H) :
    ReturnsInHanded {} Tryz.checked os 5 .any (fun w args => (Rows.collateralCoverSpec.pre enc Tryz.prog Tryz.f5 [] false w args ∧ laidMetH Tryz.prog Rows.collateralCoverRow.laid w) ∧ sizedMet enc Tryz.prog Tryz.f5 (OpenSpec.ofChange Rows.collateralCoverSpec) false w args)
      (Rows.collateralCoverSpec.post enc Tryz.prog Tryz.f5 false true false false) := by
  refine returnsInHanded_of_change_and (C := Tryz.checked) (X := fun w _ => laidMetH Tryz.prog Rows.collateralCoverRow.laid w) (fun _ _ _ hh h => h.of_heap hh) ownRc started (by kernel_rfl) Tryz.func5
    (ChangeSpec.witness_shaped (enc := enc) (C := Tryz.checked) (os := os) (X := fun w _ => laidMetH Tryz.prog Rows.collateralCoverRow.laid w) false (World.doorLaid Tryz.prog 400 os) #[.agg #[.slice none 0 0, .slice none 0 0, .slice none 0 0], .slice none 0 0] 8 rfl (World.shaped_of_RefB (by kernel_rfl) (by kernel_rfl)) (by kernel_rfl) (by kernel_rfl) (by kernel_rfl) (doorRc os _)) ?_
  intro W base args ds gs before hval0 hW _ _ _ _
  have hval : ∀ (j : Nat) t v, Tryz.f5.params[j]? = some t → args[j]? = some v → Value.okWide Tryz.prog W .any base t v := hval0
  have hW' := hW
  obtain ⟨p, q, hA0, hV, rfl, hfz, hnd⟩ := hW
  have hA : DataW.TrodAll enc Tryz.prog W 0 (fun _ => true) true Tryz.f5.params.toList args.toList ds p := hA0
  rw [Tryz.params5] at hA hval
  obtain ⟨v0, v1, d0, d1, p0, p1, rfl, rfl, -, h0, h1⟩ := trodAll_two hA
  obtain ⟨rfl, rfl⟩ := trodVars_none hV
  obtain ⟨cs0, rfl, -⟩ := okWide_struct Tryz.underlying26 (hval 0 26 v0 rfl rfl)
  obtain ⟨fuel0, h0⟩ := h0
  obtain ⟨V0, e0, g0⟩ := open_V h0
  obtain rfl : cs0 = #[V0.x0, V0.x1, V0.x2] := Array.ext' e0
  obtain ⟨a1, n1, c1, rfl⟩ := okWide_slice Tryz.underlying27 (hval 1 27 v1 rfl rfl)
  obtain ⟨fuel1, h1⟩ := h1
  obtain ⟨x1, l1, e1, g1⟩ := open_ops h1
  obtain rfl : Value.slice a1 n1 c1 = x1 := by simpa [Value.cells] using e1
  refine (cover_law W V0 _ l1 g0 g1).mono fun e W' ⟨he, hb⟩ => ?_
  subst he
  exact ⟨_, rfl, law_post laidOutRc rfl (by kernel_rfl) rfl paramsRc hW' hb⟩
theorem saidRc : Rows.CollateralCoverSaid :=
  OpenClaim.holds_of_wide 5 Tryz.f5 rfl rfl rfl rfl rfl rfl rfl ⟨rfl, rfl, rfl, rfl, rfl⟩ rfl rfl rfl rfl rfl (by kernel_rfl) Tryz.func5 (by kernel_rfl)
    (of_decide_eq_true (by kernel_rfl)) (by unfold Func.isWrapper; first | (rw [if_pos (by decide +kernel)]; kernel_rfl) | (rw [if_neg (by decide +kernel)]; exact ⟨rfl, rfl⟩))
    (fun os started H enc _ => liftedRc os started H enc)
theorem collateralCover_card : Rows.CollateralCoverCardSaid :=
  Claim7.holds_tied_plain_at .later [] [.data, .data, .data] true Rows.collateralCoverCard.stood.harness true
    saidRc (fun _ h => by cases h) (by kernel_rfl) (fun _ h => by cases h) collateralCover_row_tie rfl ⟨rfl, rfl⟩ (by kernel_rfl) rfl
    (fun f fn hf hfn => by
      obtain rfl : f = 5 := Option.some.inj ((show Tryz.prog.funcNamed "giro/girolaw34.CollateralCover" = some 5 by kernel_rfl).symm.trans hf) |>.symm
      obtain rfl : fn = Tryz.f5 := (Option.some.inj (Tryz.func5.symm.trans hfn)).symm
      exact ⟨by kernel_rfl, fun j t ht => by
        rw [Tryz.params5] at ht
        have hm : t ∈ [26, 27] := by simpa using Array.mem_of_getElem? ht
        have hall : ([26, 27].all fun u => !Tryz.prog.wantsStandIn u) = true := by kernel_rfl
        exact (show Tryz.prog.wantsStandIn t = false by simpa using List.all_eq_true.1 hall t hm)⟩)
    (by kernel_rfl)
#print axioms collateralCover_card
end Go.Proofs.YtjjnljfphaimgaaGreatDoor
