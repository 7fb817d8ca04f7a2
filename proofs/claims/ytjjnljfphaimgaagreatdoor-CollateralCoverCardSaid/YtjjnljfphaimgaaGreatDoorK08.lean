/- Contracts and plain laws, without conditions beyond each theorem's own: giroref34.Pledge. (Printed by genref.py.) giroref34.Require. (Printed by genref.py.) giroref34.Revalue. (Printed by genref.py.) giroref34.New. -/
import Derived.Test.YtjjnljfphaimgaaGreatDoorK07
set_option linter.all false
/- giroref34.Pledge. (Printed by genref.py.) -/
namespace Go.Proofs.YtjjnljfphaimgaaGreatDoor.C
open Go Go.RowKit Go.Shelf Go.Proofs

set_option maxRecDepth 100000 in
set_option maxHeartbeats 8000000 in
theorem refPledge_calls (w : World) (B : Nat) (V : VS) (S : PS) (sl : Value) (k : ByteArray) (n : Int) (hr : RowAt w B sl S.L) (hv : VAt w B V) (hB : B ≤ w.heap.size) (hL : LOk S.L) (hk : k.size ≤ maxLen)
    (hn0 : -9223372036854775808 ≤ n) (hn1 : n ≤ 9223372036854775807) :
    Calls Tryz.prog 39 #[rP V S sl, .string k, .int .i64 n] w (RefPost V B w (refPledge (fV V) S k n)) := by
  obtain ⟨q0, q1⟩ := hL.qty k
  obtain ⟨ao, cap, hsl, -⟩ := row_open hr
  have HS := Lib.hid (RSt.new w V S sl B hr hv hB)
  have HL := Lib.hid hL
  have hlen := hL.len
  clear hr hv hL
  subst hsl
  unfold rP
  unfold pBox zeroP at HS
  unfold VS.x0 VS.x1 VS.x2 at *
  go_enter Tryz.func39, Tryz.ntmps39
  go_wp2_with fail
  generalize (w.alloc (.cells #[.string S.owner, .slice V.a0 V.l0.length V.c0, .slice V.a1 V.l1.length V.c1, .slice V.a2 V.l2.length V.c2, .slice ao S.L.length cap, .int .i64 S.req] 38)).alloc (.cells #[.string ⟨#[]⟩, .slice none 0 0, .slice none 0 0, .slice none 0 0, .slice none 0 0, .int .i64 0] 38) = W1 at HS ⊢
  refine (rvalid_calls _ _ _ (Or.inl rfl) hk).mono ?_
  rintro e W2 ⟨rfl, hb⟩
  have HS2 := Lib.hid (HS.out.step hb)
  clear hb HS
  have hvb : validB 0 k = isinB k := rfl
  rw [hvb]
  clear hvb
  cases his : isinB k
  · have HR : Hid (refPledge (fV V) S k n = (6, S)) := Lib.hid (by unfold refPledge; rw [if_pos his])
    clear his
    obtain ⟨c0, c1, c2, c3, c4, c5⟩ := HS2.out.box
    obtain ⟨⟨d0, d1, d2, d3, d4, d5⟩, g0, g1, g2, g3, g4, g5⟩ := zcells HS2.out.y
    go_wp2_with fail
    have z6 := six (set6_blk HS2.out.y (.string S.owner) (.slice V.a0 V.l0.length V.c0) (.slice V.a1 V.l1.length V.c1) (.slice V.a2 V.l2.length V.c2) (.slice ao S.L.length cap) (.int .i64 S.req))
    have HF := Lib.hid (HS2.out.post (r := refPledge (fV V) S k n) HR.out (by omega) (.string S.owner) (.slice V.a0 V.l0.length V.c0) (.slice V.a1 V.l1.length V.c1) (.slice V.a2 V.l2.length V.c2) (.slice ao S.L.length cap) (.int .i64 S.req))
    unfold set6 at z6 HF
    clear c0 c1 c2 c3 c4 c5 d0 d1 d2 d3 d4 d5 g0 g1 g2 g3 g4 g5
    generalize (((((W2.setCell _ _).setCell _ _).setCell _ _).setCell _ _).setCell _ _).setCell _ _ = WF at z6 HF ⊢
    obtain ⟨z0, z1, z2, z3, z4, z5⟩ := z6
    refine bodyPost_ret (v := .tuple #[.agg #[.string S.owner, .slice V.a0 V.l0.length V.c0, .slice V.a1 V.l1.length V.c1, .slice V.a2 V.l2.length V.c2, .slice ao S.L.length cap, .int .i64 S.req], .int .i64 6]) ?_ rfl HF.out
    simp [results, Tryz.results39, go_sem, z0, z1, z2, z3, z4, z5]
  · have HI : Hid (¬ isinB k = false) := Lib.hid (by rw [his]; simp)
    clear his
    by_cases ha : 1 ≤ n ∧ n ≤ 1000000000000000
    · have HA := Lib.hid ha
      have hwd : decide (1 ≤ n ∧ n ≤ 1000000000000000) = true := decide_eq_true ha
      have HWD := Lib.hid hwd
      clear hwd
      obtain ⟨a0, a1⟩ := ha
      obtain ⟨c0, c1, c2, c3, c4, c5⟩ := HS2.out.box
      go_wp2_with (go_at_call 53; refine (within_calls _ _).mono ?_; rintro e w' ⟨rfl, rfl⟩; rw [HWD.out])
      refine (rquantity_calls _ B V S (.slice ao S.L.length cap) k HS2.out.r (by omega)).mono ?_
      rintro e W3 ⟨rfl, hb⟩
      have HS3 := Lib.hid (HS2.out.step hb)
      clear hb HS2 c0 c1 c2 c3 c4 c5
      by_cases hov : 1000000000000000 < qty S.L k + n
      · have HR : Hid (refPledge (fV V) S k n = (12, S)) := Lib.hid (by unfold refPledge; rw [if_neg HI.out, if_neg (by simp [HA.out]), if_pos hov])
        obtain ⟨c0, c1, c2, c3, c4, c5⟩ := HS3.out.box
        obtain ⟨⟨d0, d1, d2, d3, d4, d5⟩, g0, g1, g2, g3, g4, g5⟩ := zcells HS3.out.y
        go_wp2_with fail
        have z6 := six (set6_blk HS3.out.y (.string S.owner) (.slice V.a0 V.l0.length V.c0) (.slice V.a1 V.l1.length V.c1) (.slice V.a2 V.l2.length V.c2) (.slice ao S.L.length cap) (.int .i64 S.req))
        have HF := Lib.hid (HS3.out.post (r := refPledge (fV V) S k n) HR.out (by omega) (.string S.owner) (.slice V.a0 V.l0.length V.c0) (.slice V.a1 V.l1.length V.c1) (.slice V.a2 V.l2.length V.c2) (.slice ao S.L.length cap) (.int .i64 S.req))
        unfold set6 at z6 HF
        clear c0 c1 c2 c3 c4 c5 d0 d1 d2 d3 d4 d5 g0 g1 g2 g3 g4 g5
        generalize (((((W3.setCell _ _).setCell _ _).setCell _ _).setCell _ _).setCell _ _).setCell _ _ = WF at z6 HF ⊢
        obtain ⟨z0, z1, z2, z3, z4, z5⟩ := z6
        refine bodyPost_ret (v := .tuple #[.agg #[.string S.owner, .slice V.a0 V.l0.length V.c0, .slice V.a1 V.l1.length V.c1, .slice V.a2 V.l2.length V.c2, .slice ao S.L.length cap, .int .i64 S.req], .int .i64 12]) ?_ rfl HF.out
        simp [results, Tryz.results39, go_sem, z0, z1, z2, z3, z4, z5]
      · obtain ⟨c0, c1, c2, c3, c4, c5⟩ := HS3.out.box
        have HOV := Lib.hid hov
        go_wp2_with fail
        refine (with_calls _ B V S (.slice ao S.L.length cap) ⟨k, qty S.L k + n, (fV V k (qty S.L k + n)).1⟩ HS3.out.r (by omega) hk HL.out.key).mono ?_
        rintro e W4 ⟨sl2, rfl, hr2, hb⟩
        have HS4 := Lib.hid (HS3.out.step hb)
        have HR4 := Lib.hid (row_mono hr2 (Nat.le_trans hB HS3.out.b.size))
        clear hb hr2 HS3 c0 c1 c2 c3 c4 c5
        have hRl := wrest_len ⟨k, qty S.L k + n, (fV V k (qty S.L k + n)).1⟩ (qty S.L k + n == 0) S.L
        obtain ⟨ao2, cap2, hsl2, -⟩ := row_open HR4.out
        have HREQ : Hid (refPledge (fV V) S k n = if 1024 < (wrest ⟨k, qty S.L k + n, (fV V k (qty S.L k + n)).1⟩ (qty S.L k + n == 0) S.L).length then (8, S)
            else if (fV V k (qty S.L k + n)).2 ≠ 0 then ((fV V k (qty S.L k + n)).2, S)
            else if (totF (fV V) (wrest ⟨k, qty S.L k + n, (fV V k (qty S.L k + n)).1⟩ (qty S.L k + n == 0) S.L)).2 ≠ 0 then ((totF (fV V) (wrest ⟨k, qty S.L k + n, (fV V k (qty S.L k + n)).1⟩ (qty S.L k + n == 0) S.L)).2, S)
            else (0, { S with L := wrest ⟨k, qty S.L k + n, (fV V k (qty S.L k + n)).1⟩ (qty S.L k + n == 0) S.L, value := (totF (fV V) (wrest ⟨k, qty S.L k + n, (fV V k (qty S.L k + n)).1⟩ (qty S.L k + n == 0) S.L)).1 })) := Lib.hid (by
          unfold refPledge; rw [if_neg HI.out, if_neg (by simp [HA.out]), if_neg (by have := HOV.out; omega)])
        have HRQ : Hid (∀ x ∈ wrest ⟨k, qty S.L k + n, (fV V k (qty S.L k + n)).1⟩ (qty S.L k + n == 0) S.L, 0 ≤ x.q ∧ x.q ≤ 1000000000000000) := Lib.hid (wrest_mem (P := fun x => 0 ≤ x.q ∧ x.q ≤ 1000000000000000) ⟨by show 0 ≤ qty S.L k + n; omega, by show qty S.L k + n ≤ _; omega⟩ _ _ HL.out.q)
        generalize wrest ⟨k, qty S.L k + n, (fV V k (qty S.L k + n)).1⟩ (qty S.L k + n == 0) S.L = R at HR4 hRl hsl2 HREQ HRQ ⊢
        subst hsl2
        unfold rP
        unfold VS.x0 VS.x1 VS.x2
        go_upto_region 9 with fail
        have HS5 := Lib.hid (HS4.out.step ((Below.refl W4.heap.size W4).alloc (Nat.le_refl _) (.cells #[.string S.owner, .slice V.a0 V.l0.length V.c0, .slice V.a1 V.l1.length V.c1, .slice V.a2 V.l2.length V.c2, .slice ao2 R.length cap2, .int .i64 S.req] 38)))
        have HR5 := Lib.hid (ownsRow_below HR4.out ((Below.refl W4.heap.size W4).alloc (Nat.le_refl _) (.cells #[.string S.owner, .slice V.a0 V.l0.length V.c0, .slice V.a1 V.l1.length V.c1, .slice V.a2 V.l2.length V.c2, .slice ao2 R.length cap2, .int .i64 S.req] 38)) (Nat.le_refl _))
        have HB5 := Lib.hid (blk_new W4 (.cells #[.string S.owner, .slice V.a0 V.l0.length V.c0, .slice V.a1 V.l1.length V.c1, .slice V.a2 V.l2.length V.c2, .slice ao2 R.length cap2, .int .i64 S.req] 38))
        generalize W4.alloc (.cells #[.string S.owner, .slice V.a0 V.l0.length V.c0, .slice V.a1 V.l1.length V.c1, .slice V.a2 V.l2.length V.c2, .slice ao2 R.length cap2, .int .i64 S.req] 38) = W5 at HS5 HR5 HB5 ⊢
        generalize W4.heap.size = b2 at HB5 ⊢
        by_cases hbig : 1024 < R.length
        · have HR : Hid (refPledge (fV V) S k n = (8, S)) := Lib.hid (by rw [HREQ.out, if_pos hbig])
          obtain ⟨e0, e1, e2, e3, e4, e5⟩ := six HB5.out
          obtain ⟨c0, c1, c2, c3, c4, c5⟩ := HS5.out.box
          obtain ⟨⟨d0, d1, d2, d3, d4, d5⟩, g0, g1, g2, g3, g4, g5⟩ := zcells HS5.out.y
          go_wp2_with fail
          have z6 := six (set6_blk HS5.out.y (.string S.owner) (.slice V.a0 V.l0.length V.c0) (.slice V.a1 V.l1.length V.c1) (.slice V.a2 V.l2.length V.c2) (.slice ao S.L.length cap) (.int .i64 S.req))
          have HF := Lib.hid (HS5.out.post (r := refPledge (fV V) S k n) HR.out (by omega) (.string S.owner) (.slice V.a0 V.l0.length V.c0) (.slice V.a1 V.l1.length V.c1) (.slice V.a2 V.l2.length V.c2) (.slice ao S.L.length cap) (.int .i64 S.req))
          unfold set6 at z6 HF
          clear c0 c1 c2 c3 c4 c5 d0 d1 d2 d3 d4 d5 g0 g1 g2 g3 g4 g5
          generalize (((((W5.setCell _ _).setCell _ _).setCell _ _).setCell _ _).setCell _ _).setCell _ _ = WF at z6 HF ⊢
          obtain ⟨z0, z1, z2, z3, z4, z5⟩ := z6
          refine bodyPost_ret (v := .tuple #[.agg #[.string S.owner, .slice V.a0 V.l0.length V.c0, .slice V.a1 V.l1.length V.c1, .slice V.a2 V.l2.length V.c2, .slice ao S.L.length cap, .int .i64 S.req], .int .i64 8]) ?_ rfl HF.out
          simp [results, Tryz.results39, go_sem, z0, z1, z2, z3, z4, z5]
        · obtain ⟨e0, e1, e2, e3, e4, e5⟩ := six HB5.out
          have HBIG : Hid (¬ 1024 < R.length) := Lib.hid hbig
          obtain ⟨c0, c1, c2, c3, c4, c5⟩ := HS5.out.box
          go_wp2_with fail
          refine (rvalue_calls _ B V k (qty S.L k + n) HS5.out.v (Nat.le_trans HS5.out.h HS5.out.b.size) (by omega) (by omega)).mono ?_
          rintro e W6 ⟨rfl, hb⟩
          have HS6 := Lib.hid (HS5.out.step hb)
          have HR6 := Lib.hid (ownsRow_below HR5.out hb (Nat.le_refl _))
          have HB6 := Lib.hid (blk_keep hb HB5.out (Nat.le_refl _))
          clear hb HS5 HR5 HB5 c0 c1 c2 c3 c4 c5 e0 e1 e2 e3 e4 e5
          have hfe := fV_err V k (qty S.L k + n)
          generalize fV V k (qty S.L k + n) = vv at HREQ hfe ⊢
          obtain ⟨va, ve⟩ := vv
          simp only at HREQ hfe
          by_cases hve : ve = 0
          · subst hve
            obtain ⟨e0, e1, e2, e3, e4, e5⟩ := six HB6.out
            go_wp2_with fail
            refine (rtotal_calls _ B V { S with L := R } (.slice ao2 R.length cap2) HR6.out (by show R.length ≤ 2000; omega) HS6.out.v (Nat.le_trans HS6.out.h HS6.out.b.size) HRQ.out).mono ?_
            rintro e W7 ⟨rfl, hb⟩
            have HS7 := Lib.hid (HS6.out.step hb)
            have HR7 := Lib.hid (ownsRow_below HR6.out hb (Nat.le_refl _))
            have HB7 := Lib.hid (blk_keep hb HB6.out (Nat.le_refl _))
            clear hb HS6 HR6 HB6 e0 e1 e2 e3 e4 e5
            simp only
            generalize totF (fV V) R = tt at HREQ ⊢
            obtain ⟨ta, te⟩ := tt
            simp only at HREQ
            by_cases hte : te = 0
            · subst hte
              have HR : Hid (refPledge (fV V) S k n = (0, { S with L := R, value := ta })) := Lib.hid (by rw [HREQ.out, if_neg HBIG.out, if_neg (by simp), if_neg (by simp)])
              obtain ⟨c0, c1, c2, c3, c4, c5⟩ := six HB7.out
              obtain ⟨⟨d0, d1, d2, d3, d4, d5⟩, g0, g1, g2, g3, g4, g5⟩ := zcells HS7.out.y
              go_wp2_with fail
              have z6 := six (set6_blk HS7.out.y (.string S.owner) (.slice V.a0 V.l0.length V.c0) (.slice V.a1 V.l1.length V.c1) (.slice V.a2 V.l2.length V.c2) (.slice ao2 R.length cap2) (.int .i64 S.req))
              have HF := Lib.hid (And.intro (set6_row HS7.out.y HR7.out (.string S.owner) (.slice V.a0 V.l0.length V.c0) (.slice V.a1 V.l1.length V.c1) (.slice V.a2 V.l2.length V.c2) (.slice ao2 R.length cap2) (.int .i64 S.req)) (set6_below HS7.out.b (B := w.heap.size) (b := w.heap.size + 1) (by omega) (.string S.owner) (.slice V.a0 V.l0.length V.c0) (.slice V.a1 V.l1.length V.c1) (.slice V.a2 V.l2.length V.c2) (.slice ao2 R.length cap2) (.int .i64 S.req)))
              unfold set6 at z6 HF
              clear c0 c1 c2 c3 c4 c5 d0 d1 d2 d3 d4 d5 g0 g1 g2 g3 g4 g5
              generalize (((((W7.setCell _ _).setCell _ _).setCell _ _).setCell _ _).setCell _ _).setCell _ _ = WF at z6 HF ⊢
              obtain ⟨z0, z1, z2, z3, z4, z5⟩ := z6
              refine bodyPost_ret (v := .tuple #[.agg #[.string S.owner, .slice V.a0 V.l0.length V.c0, .slice V.a1 V.l1.length V.c1, .slice V.a2 V.l2.length V.c2, .slice ao2 R.length cap2, .int .i64 S.req], .int .i64 0]) ?_ rfl ?_
              · simp [results, Tryz.results39, go_sem, z0, z1, z2, z3, z4, z5]
              · rw [HR.out]
                exact ⟨.slice ao2 R.length cap2, rfl, HF.out.1, HF.out.2⟩
            · have HR : Hid (refPledge (fV V) S k n = (te, S)) := Lib.hid (by rw [HREQ.out, if_neg HBIG.out, if_neg (by simp), if_pos hte])
              have hz1 : (te != 0) = true := by simp [hte]
              obtain ⟨c0, c1, c2, c3, c4, c5⟩ := HS7.out.box
              obtain ⟨⟨d0, d1, d2, d3, d4, d5⟩, g0, g1, g2, g3, g4, g5⟩ := zcells HS7.out.y
              go_wp2_with fail
              have z6 := six (set6_blk HS7.out.y (.string S.owner) (.slice V.a0 V.l0.length V.c0) (.slice V.a1 V.l1.length V.c1) (.slice V.a2 V.l2.length V.c2) (.slice ao S.L.length cap) (.int .i64 S.req))
              have HF := Lib.hid (HS7.out.post (r := refPledge (fV V) S k n) HR.out (by omega) (.string S.owner) (.slice V.a0 V.l0.length V.c0) (.slice V.a1 V.l1.length V.c1) (.slice V.a2 V.l2.length V.c2) (.slice ao S.L.length cap) (.int .i64 S.req))
              unfold set6 at z6 HF
              clear c0 c1 c2 c3 c4 c5 d0 d1 d2 d3 d4 d5 g0 g1 g2 g3 g4 g5
              generalize (((((W7.setCell _ _).setCell _ _).setCell _ _).setCell _ _).setCell _ _).setCell _ _ = WF at z6 HF ⊢
              obtain ⟨z0, z1, z2, z3, z4, z5⟩ := z6
              refine bodyPost_ret (v := .tuple #[.agg #[.string S.owner, .slice V.a0 V.l0.length V.c0, .slice V.a1 V.l1.length V.c1, .slice V.a2 V.l2.length V.c2, .slice ao S.L.length cap, .int .i64 S.req], .int .i64 te]) ?_ rfl HF.out
              simp [results, Tryz.results39, go_sem, z0, z1, z2, z3, z4, z5]
          · have HR : Hid (refPledge (fV V) S k n = (ve, S)) := Lib.hid (by rw [HREQ.out, if_neg HBIG.out, if_pos hve])
            have hz1 : (ve != 0) = true := by simp [hve]
            obtain ⟨c0, c1, c2, c3, c4, c5⟩ := HS6.out.box
            obtain ⟨⟨d0, d1, d2, d3, d4, d5⟩, g0, g1, g2, g3, g4, g5⟩ := zcells HS6.out.y
            go_wp2_with fail
            have z6 := six (set6_blk HS6.out.y (.string S.owner) (.slice V.a0 V.l0.length V.c0) (.slice V.a1 V.l1.length V.c1) (.slice V.a2 V.l2.length V.c2) (.slice ao S.L.length cap) (.int .i64 S.req))
            have HF := Lib.hid (HS6.out.post (r := refPledge (fV V) S k n) HR.out (by omega) (.string S.owner) (.slice V.a0 V.l0.length V.c0) (.slice V.a1 V.l1.length V.c1) (.slice V.a2 V.l2.length V.c2) (.slice ao S.L.length cap) (.int .i64 S.req))
            unfold set6 at z6 HF
            clear c0 c1 c2 c3 c4 c5 d0 d1 d2 d3 d4 d5 g0 g1 g2 g3 g4 g5
            generalize (((((W6.setCell _ _).setCell _ _).setCell _ _).setCell _ _).setCell _ _).setCell _ _ = WF at z6 HF ⊢
            obtain ⟨z0, z1, z2, z3, z4, z5⟩ := z6
            refine bodyPost_ret (v := .tuple #[.agg #[.string S.owner, .slice V.a0 V.l0.length V.c0, .slice V.a1 V.l1.length V.c1, .slice V.a2 V.l2.length V.c2, .slice ao S.L.length cap, .int .i64 S.req], .int .i64 ve]) ?_ rfl HF.out
            simp [results, Tryz.results39, go_sem, z0, z1, z2, z3, z4, z5]
    · have HR : Hid (refPledge (fV V) S k n = (2, S)) := Lib.hid (by unfold refPledge; rw [if_neg HI.out, if_pos ha])
      have HWD : Hid (decide (1 ≤ n ∧ n ≤ 1000000000000000) = false) := Lib.hid (decide_eq_false ha)
      clear ha
      obtain ⟨c0, c1, c2, c3, c4, c5⟩ := HS2.out.box
      obtain ⟨⟨d0, d1, d2, d3, d4, d5⟩, g0, g1, g2, g3, g4, g5⟩ := zcells HS2.out.y
      go_wp2_with (go_at_call 53; refine (within_calls _ _).mono ?_; rintro e w' ⟨rfl, rfl⟩; rw [HWD.out])
      have z6 := six (set6_blk HS2.out.y (.string S.owner) (.slice V.a0 V.l0.length V.c0) (.slice V.a1 V.l1.length V.c1) (.slice V.a2 V.l2.length V.c2) (.slice ao S.L.length cap) (.int .i64 S.req))
      have HF := Lib.hid (HS2.out.post (r := refPledge (fV V) S k n) HR.out (by omega) (.string S.owner) (.slice V.a0 V.l0.length V.c0) (.slice V.a1 V.l1.length V.c1) (.slice V.a2 V.l2.length V.c2) (.slice ao S.L.length cap) (.int .i64 S.req))
      unfold set6 at z6 HF
      clear c0 c1 c2 c3 c4 c5 d0 d1 d2 d3 d4 d5 g0 g1 g2 g3 g4 g5
      generalize (((((W2.setCell _ _).setCell _ _).setCell _ _).setCell _ _).setCell _ _).setCell _ _ = WF at z6 HF ⊢
      obtain ⟨z0, z1, z2, z3, z4, z5⟩ := z6
      refine bodyPost_ret (v := .tuple #[.agg #[.string S.owner, .slice V.a0 V.l0.length V.c0, .slice V.a1 V.l1.length V.c1, .slice V.a2 V.l2.length V.c2, .slice ao S.L.length cap, .int .i64 S.req], .int .i64 2]) ?_ rfl HF.out
      simp [results, Tryz.results39, go_sem, z0, z1, z2, z3, z4, z5]
end Go.Proofs.YtjjnljfphaimgaaGreatDoor.C
/- giroref34.Require. (Printed by genref.py.) -/
namespace Go.Proofs.YtjjnljfphaimgaaGreatDoor.C
open Go Go.RowKit Go.Shelf Go.Proofs

def refRequire (f : ByteArray → Int → Int × Int) (S : PS) (n : Int) : Int × PS :=
  if n < 0 ∨ 1000000000000000 < n then (2, S) else if coverF f S.L n ≠ 0 then (coverF f S.L n, S) else (0, { S with req := n })
set_option maxRecDepth 100000 in
set_option maxHeartbeats 8000000 in
theorem refRequire_calls (w : World) (B : Nat) (V : VS) (S : PS) (sl : Value) (n : Int) (hr : RowAt w B sl S.L) (hv : VAt w B V) (hB : B ≤ w.heap.size) (hL : LOk S.L)
    (hn0 : -9223372036854775808 ≤ n) (hn1 : n ≤ 9223372036854775807) :
    Calls Tryz.prog 40 #[rP V S sl, .int .i64 n] w (RefPost V B w (refRequire (fV V) S n)) := by
  obtain ⟨ao, cap, hsl, -⟩ := row_open hr
  have HS := Lib.hid (RSt.new w V S sl B hr hv hB)
  have HL := Lib.hid hL
  have hlen := hL.len
  clear hr hv hL
  subst hsl
  unfold rP
  unfold pBox zeroP at HS
  unfold VS.x0 VS.x1 VS.x2 at *
  go_enter Tryz.func40, Tryz.ntmps40
  go_upto_region 1 with fail
  generalize (w.alloc (.cells #[.string S.owner, .slice V.a0 V.l0.length V.c0, .slice V.a1 V.l1.length V.c1, .slice V.a2 V.l2.length V.c2, .slice ao S.L.length cap, .int .i64 S.req] 38)).alloc (.cells #[.string ⟨#[]⟩, .slice none 0 0, .slice none 0 0, .slice none 0 0, .slice none 0 0, .int .i64 0] 38) = W1 at HS ⊢
  by_cases ha : n < 0 ∨ 1000000000000000 < n
  · have HR : Hid (refRequire (fV V) S n = (2, S)) := Lib.hid (by unfold refRequire; rw [if_pos ha])
    obtain ⟨c0, c1, c2, c3, c4, c5⟩ := HS.out.box
    obtain ⟨⟨d0, d1, d2, d3, d4, d5⟩, g0, g1, g2, g3, g4, g5⟩ := zcells HS.out.y
    have z6 := six (set6_blk HS.out.y (.string S.owner) (.slice V.a0 V.l0.length V.c0) (.slice V.a1 V.l1.length V.c1) (.slice V.a2 V.l2.length V.c2) (.slice ao S.L.length cap) (.int .i64 S.req))
    have HZ6 := Lib.hid z6
    clear z6
    have HF := Lib.hid (HS.out.post (r := refRequire (fV V) S n) HR.out (by omega) (.string S.owner) (.slice V.a0 V.l0.length V.c0) (.slice V.a1 V.l1.length V.c1) (.slice V.a2 V.l2.length V.c2) (.slice ao S.L.length cap) (.int .i64 S.req))
    unfold set6 at HZ6 HF
    by_cases ha1 : n < 0
    · go_wp2_with fail
      clear c0 c1 c2 c3 c4 c5 d0 d1 d2 d3 d4 d5 g0 g1 g2 g3 g4 g5
      generalize (((((W1.setCell _ _).setCell _ _).setCell _ _).setCell _ _).setCell _ _).setCell _ _ = WF at HZ6 HF ⊢
      obtain ⟨z0, z1, z2, z3, z4, z5⟩ := HZ6.out
      refine bodyPost_ret (v := .tuple #[.agg #[.string S.owner, .slice V.a0 V.l0.length V.c0, .slice V.a1 V.l1.length V.c1, .slice V.a2 V.l2.length V.c2, .slice ao S.L.length cap, .int .i64 S.req], .int .i64 2]) ?_ rfl HF.out
      simp [results, Tryz.results40, go_sem, z0, z1, z2, z3, z4, z5]
    · have ha2 : 1000000000000000 < n := by omega
      go_wp2_with fail
      clear c0 c1 c2 c3 c4 c5 d0 d1 d2 d3 d4 d5 g0 g1 g2 g3 g4 g5
      generalize (((((W1.setCell _ _).setCell _ _).setCell _ _).setCell _ _).setCell _ _).setCell _ _ = WF at HZ6 HF ⊢
      obtain ⟨z0, z1, z2, z3, z4, z5⟩ := HZ6.out
      refine bodyPost_ret (v := .tuple #[.agg #[.string S.owner, .slice V.a0 V.l0.length V.c0, .slice V.a1 V.l1.length V.c1, .slice V.a2 V.l2.length V.c2, .slice ao S.L.length cap, .int .i64 S.req], .int .i64 2]) ?_ rfl HF.out
      simp [results, Tryz.results40, go_sem, z0, z1, z2, z3, z4, z5]
  · have HN := Lib.hid ha
    have a0 : 0 ≤ n := by omega
    have a1 : n ≤ 1000000000000000 := by omega
    clear ha
    obtain ⟨c0, c1, c2, c3, c4, c5⟩ := HS.out.box
    go_upto_region 5 with fail
    have HS5 := Lib.hid (HS.out.step ((Below.refl W1.heap.size W1).alloc (Nat.le_refl _) (.cells #[.string S.owner, .slice V.a0 V.l0.length V.c0, .slice V.a1 V.l1.length V.c1, .slice V.a2 V.l2.length V.c2, .slice ao S.L.length cap, .int .i64 n] 38)))
    have HB5 := Lib.hid (blk_new W1 (.cells #[.string S.owner, .slice V.a0 V.l0.length V.c0, .slice V.a1 V.l1.length V.c1, .slice V.a2 V.l2.length V.c2, .slice ao S.L.length cap, .int .i64 n] 38))
    clear c0 c1 c2 c3 c4 c5 HS
    generalize W1.alloc (.cells #[.string S.owner, .slice V.a0 V.l0.length V.c0, .slice V.a1 V.l1.length V.c1, .slice V.a2 V.l2.length V.c2, .slice ao S.L.length cap, .int .i64 n] 38) = W5 at HS5 HB5 ⊢
    generalize W1.heap.size = b2 at HB5 ⊢
    obtain ⟨e0, e1, e2, e3, e4, e5⟩ := six HB5.out
    go_wp2_with fail
    refine (covers_calls _ B V { S with req := n } (.slice ao S.L.length cap) HS5.out.r (by show S.L.length ≤ 2000; omega) HS5.out.v (Nat.le_trans HS5.out.h HS5.out.b.size) HL.out.q).mono ?_
    rintro e W7 ⟨rfl, hb⟩
    have HS7 := Lib.hid (HS5.out.step hb)
    have HB7 := Lib.hid (blk_keep hb HB5.out (Nat.le_refl _))
    have HR7 : Hid (RowAt W7 B (.slice ao S.L.length cap) S.L) := Lib.hid HS7.out.r
    clear hb HS5 HB5 e0 e1 e2 e3 e4 e5
    have HREQ : Hid (refRequire (fV V) S n = if coverF (fV V) S.L n ≠ 0 then (coverF (fV V) S.L n, S) else (0, { S with req := n })) := Lib.hid (by unfold refRequire; rw [if_neg HN.out])
    simp only
    generalize coverF (fV V) S.L n = te at HREQ ⊢
    by_cases hte : te = 0
    · subst hte
      have HR : Hid (refRequire (fV V) S n = (0, { S with req := n })) := Lib.hid (by rw [HREQ.out, if_neg (by simp)])
      obtain ⟨c0, c1, c2, c3, c4, c5⟩ := six HB7.out
      obtain ⟨⟨d0, d1, d2, d3, d4, d5⟩, g0, g1, g2, g3, g4, g5⟩ := zcells HS7.out.y
      go_wp2_with fail
      have z6 := six (set6_blk HS7.out.y (.string S.owner) (.slice V.a0 V.l0.length V.c0) (.slice V.a1 V.l1.length V.c1) (.slice V.a2 V.l2.length V.c2) (.slice ao S.L.length cap) (.int .i64 n))
      have HF := Lib.hid (And.intro (set6_row HS7.out.y HR7.out (.string S.owner) (.slice V.a0 V.l0.length V.c0) (.slice V.a1 V.l1.length V.c1) (.slice V.a2 V.l2.length V.c2) (.slice ao S.L.length cap) (.int .i64 n)) (set6_below HS7.out.b (B := w.heap.size) (b := w.heap.size + 1) (by omega) (.string S.owner) (.slice V.a0 V.l0.length V.c0) (.slice V.a1 V.l1.length V.c1) (.slice V.a2 V.l2.length V.c2) (.slice ao S.L.length cap) (.int .i64 n)))
      unfold set6 at z6 HF
      clear c0 c1 c2 c3 c4 c5 d0 d1 d2 d3 d4 d5 g0 g1 g2 g3 g4 g5
      generalize (((((W7.setCell _ _).setCell _ _).setCell _ _).setCell _ _).setCell _ _).setCell _ _ = WF at z6 HF ⊢
      obtain ⟨z0, z1, z2, z3, z4, z5⟩ := z6
      refine bodyPost_ret (v := .tuple #[.agg #[.string S.owner, .slice V.a0 V.l0.length V.c0, .slice V.a1 V.l1.length V.c1, .slice V.a2 V.l2.length V.c2, .slice ao S.L.length cap, .int .i64 n], .int .i64 0]) ?_ rfl ?_
      · simp [results, Tryz.results40, go_sem, z0, z1, z2, z3, z4, z5]
      · rw [HR.out]
        exact ⟨.slice ao S.L.length cap, rfl, HF.out.1, HF.out.2⟩
    · have HR : Hid (refRequire (fV V) S n = (te, S)) := Lib.hid (by rw [HREQ.out, if_pos hte])
      have hz1 : (te != 0) = true := by simp [hte]
      obtain ⟨c0, c1, c2, c3, c4, c5⟩ := HS7.out.box
      obtain ⟨⟨d0, d1, d2, d3, d4, d5⟩, g0, g1, g2, g3, g4, g5⟩ := zcells HS7.out.y
      go_wp2_with fail
      have z6 := six (set6_blk HS7.out.y (.string S.owner) (.slice V.a0 V.l0.length V.c0) (.slice V.a1 V.l1.length V.c1) (.slice V.a2 V.l2.length V.c2) (.slice ao S.L.length cap) (.int .i64 S.req))
      have HF := Lib.hid (HS7.out.post (r := refRequire (fV V) S n) HR.out (by omega) (.string S.owner) (.slice V.a0 V.l0.length V.c0) (.slice V.a1 V.l1.length V.c1) (.slice V.a2 V.l2.length V.c2) (.slice ao S.L.length cap) (.int .i64 S.req))
      unfold set6 at z6 HF
      clear c0 c1 c2 c3 c4 c5 d0 d1 d2 d3 d4 d5 g0 g1 g2 g3 g4 g5
      generalize (((((W7.setCell _ _).setCell _ _).setCell _ _).setCell _ _).setCell _ _).setCell _ _ = WF at z6 HF ⊢
      obtain ⟨z0, z1, z2, z3, z4, z5⟩ := z6
      refine bodyPost_ret (v := .tuple #[.agg #[.string S.owner, .slice V.a0 V.l0.length V.c0, .slice V.a1 V.l1.length V.c1, .slice V.a2 V.l2.length V.c2, .slice ao S.L.length cap, .int .i64 S.req], .int .i64 te]) ?_ rfl HF.out
      simp [results, Tryz.results40, go_sem, z0, z1, z2, z3, z4, z5]
end Go.Proofs.YtjjnljfphaimgaaGreatDoor.C
/- giroref34.Revalue. (Printed by genref.py.) -/
namespace Go.Proofs.YtjjnljfphaimgaaGreatDoor.C
open Go Go.RowKit Go.Shelf Go.Proofs

def refRevalue (f : ByteArray → Int → Int × Int) (S : PS) : Int × PS :=
  if (totF f S.L).2 ≠ 0 then ((totF f S.L).2, S) else (0, { S with value := (totF f S.L).1 })
def RevPost (V V2 : VS) (B : Nat) (w : World) (r : Int × PS) (e : Ending) (w' : World) : Prop := RefPost (if r.1 = 0 then V2 else V) B w r e w'
theorem RSt.new3 (w : World) (V V2 : VS) (S : PS) (sl : Value) (B : Nat) (hr : RowAt w B sl S.L) (hv : VAt w B V) (hB : B ≤ w.heap.size) :
    RSt w (((w.alloc (pBox V S sl)).alloc (.cells #[V2.x0, V2.x1, V2.x2] 26)).alloc (.cells zeroP 38)) (w.heap.size + 1 + 1) V S sl B := by
  refine ⟨blk_alloc (blk_alloc (blk_new w (pBox V S sl)) _) _, ?_, (((Below.refl _ _).alloc (Nat.le_refl _) _).alloc (by simp) _).alloc (by simp; omega) _, ?_, hv.below ((((Below.refl _ _).alloc hB _).alloc (by simp; omega) _).alloc (by simp; omega) _), hB⟩
  · have := blk_new ((w.alloc (pBox V S sl)).alloc (.cells #[V2.x0, V2.x1, V2.x2] 26)) (.cells zeroP 38)
    rw [show ((w.alloc (pBox V S sl)).alloc (.cells #[V2.x0, V2.x1, V2.x2] 26)).heap.size = w.heap.size + 1 + 1 from by simp] at this
    exact this
  · exact ownsRow_below hr ((((Below.refl w.heap.size w).alloc (Nat.le_refl _) _).alloc (by simp) _).alloc (by simp; omega) _) (Nat.le_refl _)
theorem vbox_new (w : World) (V2 : VS) (o p : Obj) : (((w.alloc o).alloc (.cells #[V2.x0, V2.x1, V2.x2] 26)).alloc p).heap[w.heap.size + 1]? = some (.cells #[V2.x0, V2.x1, V2.x2] 26 (0, 0)) := by
  have := blk_alloc (blk_new (w.alloc o) (.cells #[V2.x0, V2.x1, V2.x2] 26)) p
  rw [show (w.alloc o).heap.size = w.heap.size + 1 from by simp] at this
  exact this
set_option maxRecDepth 100000 in
set_option maxHeartbeats 8000000 in
theorem refRevalue_calls (w : World) (B : Nat) (V V2 : VS) (S : PS) (sl : Value) (hr : RowAt w B sl S.L) (hv : VAt w B V) (hv2 : VAt w B V2) (hB : B ≤ w.heap.size) (hL : LOk S.L) :
    Calls Tryz.prog 30 #[rP V S sl, .agg #[V2.x0, V2.x1, V2.x2]] w (RevPost V V2 B w (refRevalue (fV V2) S)) := by
  have HV2 := Lib.hid hv2
  clear hv2
  obtain ⟨ao, cap, hsl, -⟩ := row_open hr
  have HS := Lib.hid (RSt.new3 w V V2 S sl B hr hv hB)
  have HL := Lib.hid hL
  have hlen := hL.len
  clear hr hv hL
  subst hsl
  have HY := Lib.hid (vbox_new w V2 (pBox V S (.slice ao S.L.length cap)) (.cells zeroP 38))
  unfold rP
  unfold pBox zeroP at HS HY
  unfold VS.x0 VS.x1 VS.x2 at *
  go_enter Tryz.func30, Tryz.ntmps30
  go_upto_region 1 with fail
  generalize ((w.alloc (.cells #[.string S.owner, .slice V.a0 V.l0.length V.c0, .slice V.a1 V.l1.length V.c1, .slice V.a2 V.l2.length V.c2, .slice ao S.L.length cap, .int .i64 S.req] 38)).alloc (.cells #[.slice V2.a0 V2.l0.length V2.c0, .slice V2.a1 V2.l1.length V2.c1, .slice V2.a2 V2.l2.length V2.c2] 26)).alloc (.cells #[.string ⟨#[]⟩, .slice none 0 0, .slice none 0 0, .slice none 0 0, .slice none 0 0, .int .i64 0] 38) = W1 at HS HY ⊢
  obtain ⟨c0, c1, c2, c3, c4, c5⟩ := HS.out.box
  have y0 := fun o => cell_alloc (o := o) ((blk_cell HY.out 0).trans rfl)
  have y1 := fun o => cell_alloc (o := o) ((blk_cell HY.out 1).trans rfl)
  have y2 := fun o => cell_alloc (o := o) ((blk_cell HY.out 2).trans rfl)
  go_upto_region 3 with fail
  have HS5 := Lib.hid (HS.out.step ((Below.refl W1.heap.size W1).alloc (Nat.le_refl _) (.cells #[.string S.owner, .slice V2.a0 V2.l0.length V2.c0, .slice V2.a1 V2.l1.length V2.c1, .slice V2.a2 V2.l2.length V2.c2, .slice ao S.L.length cap, .int .i64 S.req] 38)))
  have HB5 := Lib.hid (blk_new W1 (.cells #[.string S.owner, .slice V2.a0 V2.l0.length V2.c0, .slice V2.a1 V2.l1.length V2.c1, .slice V2.a2 V2.l2.length V2.c2, .slice ao S.L.length cap, .int .i64 S.req] 38))
  have HV5 := Lib.hid (HV2.out.below (HS5.out.b.mono hB))
  clear c0 c1 c2 c3 c4 c5 HS y0 y1 y2 HY
  generalize W1.alloc (.cells #[.string S.owner, .slice V2.a0 V2.l0.length V2.c0, .slice V2.a1 V2.l1.length V2.c1, .slice V2.a2 V2.l2.length V2.c2, .slice ao S.L.length cap, .int .i64 S.req] 38) = W5 at HS5 HB5 HV5 ⊢
  generalize W1.heap.size = b2 at HB5 ⊢
  obtain ⟨e0, e1, e2, e3, e4, e5⟩ := six HB5.out
  go_wp2_with fail
  refine (rtotal_calls _ B V2 S (.slice ao S.L.length cap) HS5.out.r (by omega) HV5.out (Nat.le_trans HS5.out.h HS5.out.b.size) HL.out.q).mono ?_
  rintro e W7 ⟨rfl, hb⟩
  have HS7 := Lib.hid (HS5.out.step hb)
  have HB7 := Lib.hid (blk_keep hb HB5.out (Nat.le_refl _))
  have HR7 : Hid (RowAt W7 B (.slice ao S.L.length cap) S.L) := Lib.hid HS7.out.r
  clear hb HS5 HB5 e0 e1 e2 e3 e4 e5
  have HREQ : Hid (refRevalue (fV V2) S = if (totF (fV V2) S.L).2 ≠ 0 then ((totF (fV V2) S.L).2, S) else (0, { S with value := (totF (fV V2) S.L).1 })) := Lib.hid (by unfold refRevalue; rfl)
  generalize totF (fV V2) S.L = tt at HREQ ⊢
  obtain ⟨ta, te⟩ := tt
  simp only at HREQ
  by_cases hte : te = 0
  · subst hte
    have HR : Hid (refRevalue (fV V2) S = (0, { S with value := ta })) := Lib.hid (by rw [HREQ.out, if_neg (by simp)])
    obtain ⟨c0, c1, c2, c3, c4, c5⟩ := six HB7.out
    obtain ⟨⟨d0, d1, d2, d3, d4, d5⟩, g0, g1, g2, g3, g4, g5⟩ := zcells HS7.out.y
    go_wp2_with fail
    have z6 := six (set6_blk HS7.out.y (.string S.owner) (.slice V2.a0 V2.l0.length V2.c0) (.slice V2.a1 V2.l1.length V2.c1) (.slice V2.a2 V2.l2.length V2.c2) (.slice ao S.L.length cap) (.int .i64 S.req))
    have HF := Lib.hid (And.intro (set6_row HS7.out.y HR7.out (.string S.owner) (.slice V2.a0 V2.l0.length V2.c0) (.slice V2.a1 V2.l1.length V2.c1) (.slice V2.a2 V2.l2.length V2.c2) (.slice ao S.L.length cap) (.int .i64 S.req)) (set6_below HS7.out.b (B := w.heap.size) (b := w.heap.size + 1 + 1) (by omega) (.string S.owner) (.slice V2.a0 V2.l0.length V2.c0) (.slice V2.a1 V2.l1.length V2.c1) (.slice V2.a2 V2.l2.length V2.c2) (.slice ao S.L.length cap) (.int .i64 S.req)))
    unfold set6 at z6 HF
    clear c0 c1 c2 c3 c4 c5 d0 d1 d2 d3 d4 d5 g0 g1 g2 g3 g4 g5
    generalize (((((W7.setCell _ _).setCell _ _).setCell _ _).setCell _ _).setCell _ _).setCell _ _ = WF at z6 HF ⊢
    obtain ⟨z0, z1, z2, z3, z4, z5⟩ := z6
    refine bodyPost_ret (v := .tuple #[.agg #[.string S.owner, .slice V2.a0 V2.l0.length V2.c0, .slice V2.a1 V2.l1.length V2.c1, .slice V2.a2 V2.l2.length V2.c2, .slice ao S.L.length cap, .int .i64 S.req], .int .i64 0]) ?_ rfl ?_
    · simp [results, Tryz.results30, go_sem, z0, z1, z2, z3, z4, z5]
    · unfold RevPost; rw [HR.out, if_pos rfl]
      exact ⟨.slice ao S.L.length cap, rfl, HF.out.1, HF.out.2⟩
  · have HR : Hid (refRevalue (fV V2) S = (te, S)) := Lib.hid (by rw [HREQ.out, if_pos hte])
    have hz1 : (te != 0) = true := by simp [hte]
    obtain ⟨c0, c1, c2, c3, c4, c5⟩ := HS7.out.box
    obtain ⟨⟨d0, d1, d2, d3, d4, d5⟩, g0, g1, g2, g3, g4, g5⟩ := zcells HS7.out.y
    go_wp2_with fail
    have z6 := six (set6_blk HS7.out.y (.string S.owner) (.slice V.a0 V.l0.length V.c0) (.slice V.a1 V.l1.length V.c1) (.slice V.a2 V.l2.length V.c2) (.slice ao S.L.length cap) (.int .i64 S.req))
    have HF := Lib.hid (HS7.out.post (r := refRevalue (fV V2) S) HR.out (by omega) (.string S.owner) (.slice V.a0 V.l0.length V.c0) (.slice V.a1 V.l1.length V.c1) (.slice V.a2 V.l2.length V.c2) (.slice ao S.L.length cap) (.int .i64 S.req))
    unfold set6 at z6 HF
    clear c0 c1 c2 c3 c4 c5 d0 d1 d2 d3 d4 d5 g0 g1 g2 g3 g4 g5
    generalize (((((W7.setCell _ _).setCell _ _).setCell _ _).setCell _ _).setCell _ _).setCell _ _ = WF at z6 HF ⊢
    obtain ⟨z0, z1, z2, z3, z4, z5⟩ := z6
    refine bodyPost_ret (v := .tuple #[.agg #[.string S.owner, .slice V.a0 V.l0.length V.c0, .slice V.a1 V.l1.length V.c1, .slice V.a2 V.l2.length V.c2, .slice ao S.L.length cap, .int .i64 S.req], .int .i64 te]) ?_ rfl (by unfold RevPost; rw [show (if (refRevalue (fV V2) S).1 = 0 then V2 else V) = V from by rw [HR.out, if_neg hte]]; exact HF.out)
    simp [results, Tryz.results30, go_sem, z0, z1, z2, z3, z4, z5]
end Go.Proofs.YtjjnljfphaimgaaGreatDoor.C
/- giroref34.New. -/
namespace Go.Proofs.YtjjnljfphaimgaaGreatDoor.C
open Go Go.RowKit Go.Shelf Go.Proofs

set_option maxRecDepth 100000 in
set_option maxHeartbeats 8000000 in
theorem refNew_calls (w : World) (V : VS) (owner : ByteArray) (ho : owner.size ≤ maxLen) :
    Calls Tryz.prog 13 #[.string owner, .agg #[V.x0, V.x1, V.x2]] w fun e w' =>
      e = .returned (if memberB owner = true then .tuple #[.agg #[.string owner, V.x0, V.x1, V.x2, .slice none 0 0, .int .i64 0], .int .i64 0] else .tuple #[.agg zeroP, .int .i64 6]) ∧ Below w.heap.size w w' := by
  have HB := Lib.hid (((Below.refl w.heap.size w).alloc (Nat.le_refl _) (.cells #[V.x0, V.x1, V.x2] 26)).alloc (by simp) (.cells zeroP 38))
  have HX := Lib.hid (blk_alloc (blk_new w (.cells #[V.x0, V.x1, V.x2] 26)) (.cells zeroP 38))
  have HY : Hid (((w.alloc (.cells #[V.x0, V.x1, V.x2] 26)).alloc (.cells zeroP 38)).heap[w.heap.size + 1]? = some (.cells zeroP 38 (0, 0))) := by
    have := blk_new (w.alloc (.cells #[V.x0, V.x1, V.x2] 26)) (.cells zeroP 38)
    rw [show (w.alloc (.cells #[V.x0, V.x1, V.x2] 26)).heap.size = w.heap.size + 1 from by simp] at this
    exact this
  unfold VS.x0 VS.x1 VS.x2 zeroP at *
  obtain ⟨rb, hrb⟩ : ∃ rb : Value, rb = (if memberB owner = true then Value.tuple #[.agg #[.string owner, .slice V.a0 V.l0.length V.c0, .slice V.a1 V.l1.length V.c1, .slice V.a2 V.l2.length V.c2, .slice none 0 0, .int .i64 0], .int .i64 0] else .tuple #[.agg #[.string ⟨#[]⟩, .slice none 0 0, .slice none 0 0, .slice none 0 0, .slice none 0 0, .int .i64 0], .int .i64 6]) := ⟨_, rfl⟩
  rw [← hrb]
  have HRB := Lib.hid hrb
  clear hrb
  go_enter Tryz.func13, Tryz.ntmps13
  go_wp2_with fail
  generalize (w.alloc (.cells #[.slice V.a0 V.l0.length V.c0, .slice V.a1 V.l1.length V.c1, .slice V.a2 V.l2.length V.c2] 26)).alloc (.cells #[.string ⟨#[]⟩, .slice none 0 0, .slice none 0 0, .slice none 0 0, .slice none 0 0, .int .i64 0] 38) = W1 at HB HX HY ⊢
  refine (rvalid_calls _ _ _ (Or.inr rfl) ho).mono ?_
  rintro e W2 ⟨rfl, hb⟩
  have HB2 := Lib.hid (bstep HB.out hb HB.out.size)
  have HX2 := Lib.hid (blk_keep hb HX.out (Nat.le_refl _))
  have HY2 := Lib.hid (blk_keep hb HY.out (Nat.le_refl _))
  clear hb HB HX HY
  have hvb : validB 1 owner = memberB owner := rfl
  rw [hvb]
  clear hvb
  obtain ⟨⟨d0, d1, d2, d3, d4, d5⟩, g0, g1, g2, g3, g4, g5⟩ := zcells HY2.out
  have y0 := (blk_cell HX2.out 0).trans rfl
  have y1 := (blk_cell HX2.out 1).trans rfl
  have y2 := (blk_cell HX2.out 2).trans rfl
  cases hm : memberB owner
  · rw [hm] at HRB
    clear hm
    go_wp2_with fail
    have z6 := six (set6_blk HY2.out (.string ⟨#[]⟩) (.slice none 0 0) (.slice none 0 0) (.slice none 0 0) (.slice none 0 0) (.int .i64 0))
    have HF := Lib.hid (set6_below HB2.out (B := w.heap.size) (b := w.heap.size + 1) (by omega) (.string ⟨#[]⟩) (.slice none 0 0) (.slice none 0 0) (.slice none 0 0) (.slice none 0 0) (.int .i64 0))
    unfold set6 at z6 HF
    clear d0 d1 d2 d3 d4 d5 g0 g1 g2 g3 g4 g5 y0 y1 y2
    generalize (((((W2.setCell _ _).setCell _ _).setCell _ _).setCell _ _).setCell _ _).setCell _ _ = WF at z6 HF ⊢
    obtain ⟨z0, z1, z2, z3, z4, z5⟩ := z6
    refine bodyPost_ret (v := .tuple #[.agg #[.string ⟨#[]⟩, .slice none 0 0, .slice none 0 0, .slice none 0 0, .slice none 0 0, .int .i64 0], .int .i64 6]) ?_ rfl ⟨by rw [HRB.out]; rfl, HF.out⟩
    simp [results, Tryz.results13, go_sem, z0, z1, z2, z3, z4, z5]
  · rw [hm] at HRB
    clear hm
    go_wp2_with fail
    have z6 := six (set6_blk HY2.out (.string owner) (.slice V.a0 V.l0.length V.c0) (.slice V.a1 V.l1.length V.c1) (.slice V.a2 V.l2.length V.c2) (.slice none 0 0) (.int .i64 0))
    have HF := Lib.hid (set6_below HB2.out (B := w.heap.size) (b := w.heap.size + 1) (by omega) (.string owner) (.slice V.a0 V.l0.length V.c0) (.slice V.a1 V.l1.length V.c1) (.slice V.a2 V.l2.length V.c2) (.slice none 0 0) (.int .i64 0))
    unfold set6 at z6 HF
    clear d0 d1 d2 d3 d4 d5 g0 g1 g2 g3 g4 g5 y0 y1 y2
    generalize (((((W2.setCell _ _).setCell _ _).setCell _ _).setCell _ _).setCell _ _).setCell _ _ = WF at z6 HF ⊢
    obtain ⟨z0, z1, z2, z3, z4, z5⟩ := z6
    refine bodyPost_ret (v := .tuple #[.agg #[.string owner, .slice V.a0 V.l0.length V.c0, .slice V.a1 V.l1.length V.c1, .slice V.a2 V.l2.length V.c2, .slice none 0 0, .int .i64 0], .int .i64 0]) ?_ rfl ⟨by rw [HRB.out]; rfl, HF.out⟩
    simp [results, Tryz.results13, go_sem, z0, z1, z2, z3, z4, z5]
end Go.Proofs.YtjjnljfphaimgaaGreatDoor.C
