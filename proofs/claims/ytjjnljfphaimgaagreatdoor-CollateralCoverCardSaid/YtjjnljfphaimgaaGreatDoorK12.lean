/- Contracts and plain laws, without conditions beyond each theorem's own: giroref34.Substitute. (Printed by genref.py.) -/
import Derived.Test.YtjjnljfphaimgaaGreatDoorK09
set_option linter.all false
/- giroref34.Substitute. (Printed by genref.py.) -/
namespace Go.Proofs.YtjjnljfphaimgaaGreatDoor.C
open Go Go.RowKit Go.Shelf Go.Proofs

noncomputable def refSubst (f : ByteArray → Int → Int × Int) (S : PS) (ok : ByteArray) (oq : Int) (ik : ByteArray) (iq : Int) : Int × PS :=
  if takesF S.L ok oq ≠ 0 then (takesF S.L ok oq, S)
  else if isinB ik = false then (6, S)
  else if ik = ok then (7, S)
  else if ¬ (1 ≤ iq ∧ iq ≤ 1000000000000000) then (2, S)
  else if 1000000000000000 < qty S.L ik + iq then (12, S)
  else
    let R := wrest ⟨ik, qty S.L ik + iq, (f ik (qty S.L ik + iq)).1⟩ (qty S.L ik + iq == 0) (wrest ⟨ok, qty S.L ok - oq, (f ok (qty S.L ok - oq)).1⟩ (qty S.L ok - oq == 0) S.L)
    if 1024 < R.length then (8, S)
    else if 0 < qty R ok ∧ (f ok (qty R ok)).2 ≠ 0 then ((f ok (qty R ok)).2, S)
    else if (f ik (qty S.L ik + iq)).2 ≠ 0 then ((f ik (qty S.L ik + iq)).2, S)
    else if coverF f R S.req ≠ 0 then (coverF f R S.req, S)
    else (0, { S with L := R, value := (totF f R).1 })
/-- The two boxes of Substitute's arguments. -/
abbrev OI (W : World) (b : Nat) (ok : ByteArray) (oq : Int) (ik : ByteArray) (iq : Int) : Prop :=
  W.heap[b + 1]? = some (.cells #[.string ok, .int .i64 oq] 45 (0, 0)) ∧ W.heap[b + 1 + 1]? = some (.cells #[.string ik, .int .i64 iq] 45 (0, 0))
theorem OI.step {W W' : World} {b : Nat} {ok ik : ByteArray} {oq iq : Int} (h : OI W b ok oq ik iq) (hb : Below W.heap.size W W') : OI W' b ok oq ik iq := ⟨blk_keep hb h.1 (Nat.le_refl _), blk_keep hb h.2 (Nat.le_refl _)⟩
theorem OI.cells {W : World} {b : Nat} {ok ik : ByteArray} {oq iq : Int} (h : OI W b ok oq ik iq) : W.cell? ⟨b + 1, 0, none⟩ = some (.string ok) ∧ W.cell? ⟨b + 1, 1, none⟩ = some (.int .i64 oq) ∧ W.cell? ⟨b + 1 + 1, 0, none⟩ = some (.string ik) ∧ W.cell? ⟨b + 1 + 1, 1, none⟩ = some (.int .i64 iq) :=
  ⟨(blk_cell h.1 0).trans rfl, (blk_cell h.1 1).trans rfl, (blk_cell h.2 0).trans rfl, (blk_cell h.2 1).trans rfl⟩
theorem RSt.new5 (w : World) (V : VS) (S : PS) (sl : Value) (B : Nat) (ok : ByteArray) (oq : Int) (ik : ByteArray) (iq : Int) (hr : RowAt w B sl S.L) (hv : VAt w B V) (hB : B ≤ w.heap.size) :
    RSt w ((((w.alloc (pBox V S sl)).alloc (.cells #[.string ok, .int .i64 oq] 45)).alloc (.cells #[.string ik, .int .i64 iq] 45)).alloc (.cells zeroP 38)) (w.heap.size + 1 + 1 + 1) V S sl B ∧
    OI ((((w.alloc (pBox V S sl)).alloc (.cells #[.string ok, .int .i64 oq] 45)).alloc (.cells #[.string ik, .int .i64 iq] 45)).alloc (.cells zeroP 38)) w.heap.size ok oq ik iq := by
  have e1 : (w.alloc (pBox V S sl)).heap.size = w.heap.size + 1 := by simp
  have e2 : ((w.alloc (pBox V S sl)).alloc (.cells #[.string ok, .int .i64 oq] 45)).heap.size = w.heap.size + 1 + 1 := by simp
  have e3 : (((w.alloc (pBox V S sl)).alloc (.cells #[.string ok, .int .i64 oq] 45)).alloc (.cells #[.string ik, .int .i64 iq] 45)).heap.size = w.heap.size + 1 + 1 + 1 := by simp
  have hb := fun (B : Nat) (hB : B ≤ w.heap.size) => ((((Below.refl B w).alloc hB (pBox V S sl)).alloc (by omega) (.cells #[.string ok, .int .i64 oq] 45)).alloc (by omega) (.cells #[.string ik, .int .i64 iq] 45)).alloc (by omega) (.cells zeroP 38)
  refine ⟨⟨blk_alloc (blk_alloc (blk_alloc (blk_new w (pBox V S sl)) _) _) _, ?_, hb _ (Nat.le_refl _), ownsRow_below hr (hb _ (Nat.le_refl _)) (Nat.le_refl _), hv.below (hb _ hB), hB⟩, ?_, ?_⟩
  · have := blk_new (((w.alloc (pBox V S sl)).alloc (.cells #[.string ok, .int .i64 oq] 45)).alloc (.cells #[.string ik, .int .i64 iq] 45)) (.cells zeroP 38)
    rw [e3] at this
    exact this
  · have := blk_alloc (blk_alloc (blk_new (w.alloc (pBox V S sl)) (.cells #[.string ok, .int .i64 oq] 45)) (.cells #[.string ik, .int .i64 iq] 45)) (.cells zeroP 38)
    rw [e1] at this
    exact this
  · have := blk_alloc (blk_new ((w.alloc (pBox V S sl)).alloc (.cells #[.string ok, .int .i64 oq] 45)) (.cells #[.string ik, .int .i64 iq] 45)) (.cells zeroP 38)
    rw [e2] at this
    exact this
abbrev Held2 (w W : World) (b1 : Nat) (V : VS) (S : PS) (sl : Value) (B : Nat) (ok : ByteArray) (oq : Int) (ik : ByteArray) (iq : Int) : Prop :=
  W.cell? ⟨w.heap.size, 0, none⟩ = some (.string S.owner) ∧ W.cell? ⟨w.heap.size, 1, none⟩ = some (.slice V.a0 V.l0.length V.c0) ∧ W.cell? ⟨w.heap.size, 2, none⟩ = some (.slice V.a1 V.l1.length V.c1) ∧
    W.cell? ⟨w.heap.size, 3, none⟩ = some (.slice V.a2 V.l2.length V.c2) ∧ W.cell? ⟨w.heap.size, 4, none⟩ = some sl ∧ W.cell? ⟨w.heap.size, 5, none⟩ = some (.int .i64 S.req) ∧
    W.cell? ⟨w.heap.size + 1, 0, none⟩ = some (.string ok) ∧ W.cell? ⟨w.heap.size + 1, 1, none⟩ = some (.int .i64 oq) ∧ W.cell? ⟨w.heap.size + 1 + 1, 0, none⟩ = some (.string ik) ∧ W.cell? ⟨w.heap.size + 1 + 1, 1, none⟩ = some (.int .i64 iq) ∧
    OI W w.heap.size ok oq ik iq ∧ RSt w W b1 V S sl B
section
variable {w W W' : World} {b1 b2 : Nat} {V : VS} {S : PS} {sl : Value} {B : Nat} {ok ik : ByteArray} {oq iq : Int} {o : Obj}
theorem held2_of (h : RSt w W b1 V S sl B) (g : OI W w.heap.size ok oq ik iq) : Held2 w W b1 V S sl B ok oq ik iq := by
  obtain ⟨c0, c1, c2, c3, c4, c5⟩ := h.box
  obtain ⟨o0, o1, i0, i1⟩ := OI.cells g
  exact ⟨c0, c1, c2, c3, c4, c5, o0, o1, i0, i1, g, h⟩
theorem h2r (h : Held2 w W b1 V S sl B ok oq ik iq) : RSt w W b1 V S sl B := h.2.2.2.2.2.2.2.2.2.2.2
theorem h2o (h : Held2 w W b1 V S sl B ok oq ik iq) : OI W w.heap.size ok oq ik iq := h.2.2.2.2.2.2.2.2.2.2.1
theorem h2step (h : Held2 w W b1 V S sl B ok oq ik iq) (hb : Below W.heap.size W W') : Held2 w W' b1 V S sl B ok oq ik iq := held2_of ((h2r h).step hb) (OI.step (h2o h) hb)
theorem h2drew (h : Held2 w W b1 V S sl B ok oq ik iq) : Held2 w W.drew b1 V S sl B ok oq ik iq := h2step h (Below.refl _ _).drew
theorem h2alloc (h : Held2 w W b1 V S sl B ok oq ik iq) : Held2 w (W.alloc o) b1 V S sl B ok oq ik iq := h2step h ((Below.refl _ _).alloc (Nat.le_refl _) _)
theorem h2adr (h : Held2 w W.drew b1 V S sl B ok oq ik iq) : Held2 w (W.alloc o).drew b1 V S sl B ok oq ik iq := by
  have h1 : Below W.drew.heap.size W.drew (W.alloc o).drew := ((Below.refl _ _).alloc (Nat.le_refl _) o : Below W.drew.heap.size W.drew (W.drew.alloc o))
  exact h2step h h1
theorem h2y (h : Held2 w W b1 V S sl B ok oq ik iq) : b1 < W.heap.size ∧ w.heap.size < W.heap.size := ⟨blk_lt (h2r h).y, blk_lt (h2r h).x⟩
theorem h2set6 (h : Held2 w W b1 V S sl B ok oq ik iq) (hz : W.heap[b2]? = some (.cells zeroP 38 (0, 0))) (hb1 : b1 = w.heap.size + 1 + 1 + 1) (h1 : b1 < b2) (v0 v1 v2 v3 v4 v5 : Value) : Held2 w (set6 W b2 v0 v1 v2 v3 v4 v5) b1 V S sl B ok oq ik iq := by
  have hr := h2r h
  have ho := h2o h
  have hBh := hr.h
  exact held2_of ⟨set6_keep hr.x (by omega) _ _ _ _ _ _, set6_keep hr.y (by omega) _ _ _ _ _ _, set6_below hr.b (by omega) _ _ _ _ _ _, set6_row hz hr.r _ _ _ _ _ _, hr.v.below (set6_below (Below.refl B W) (by omega) _ _ _ _ _ _), hr.h⟩
    ⟨set6_keep ho.1 (by omega) _ _ _ _ _ _, set6_keep ho.2 (by omega) _ _ _ _ _ _⟩
end
set_option maxRecDepth 100000 in
set_option maxHeartbeats 8000000 in
theorem refSubst_calls (w : World) (B : Nat) (V : VS) (S : PS) (sl : Value) (ok : ByteArray) (oq : Int) (ik : ByteArray) (iq : Int) (hr : RowAt w B sl S.L) (hv : VAt w B V) (hB : B ≤ w.heap.size) (hL : LOk S.L) (hk : ok.size ≤ maxLen) (hki : ik.size ≤ maxLen)
    (hn0 : -9223372036854775808 ≤ oq) (hn1 : oq ≤ 9223372036854775807) (hm0 : -9223372036854775808 ≤ iq) (hm1 : iq ≤ 9223372036854775807) :
    Calls Tryz.prog 29 #[rP V S sl, .agg #[.string ok, .int .i64 oq], .agg #[.string ik, .int .i64 iq]] w (RefPost V B w (refSubst (fV V) S ok oq ik iq)) := by
  obtain ⟨q0, q1⟩ := hL.qty ok
  obtain ⟨p0, p1⟩ := hL.qty ik
  obtain ⟨ao, cap, hsl, -⟩ := row_open hr
  obtain ⟨hs, ho⟩ := RSt.new5 w V S sl B ok oq ik iq hr hv hB
  have HS := Lib.hid hs
  have HO := Lib.hid ho
  have HL := Lib.hid hL
  have hlen := hL.len
  clear hr hv hL hs ho
  subst hsl
  unfold rP
  unfold pBox zeroP at HS HO
  unfold VS.x0 VS.x1 VS.x2 at *
  go_enter Tryz.func29, Tryz.ntmps29
  go_upto_region 1 with fail
  generalize (((w.alloc (.cells #[.string S.owner, .slice V.a0 V.l0.length V.c0, .slice V.a1 V.l1.length V.c1, .slice V.a2 V.l2.length V.c2, .slice ao S.L.length cap, .int .i64 S.req] 38)).alloc (.cells #[.string ok, .int .i64 oq] 45)).alloc (.cells #[.string ik, .int .i64 iq] 45)).alloc (.cells #[.string ⟨#[]⟩, .slice none 0 0, .slice none 0 0, .slice none 0 0, .slice none 0 0, .int .i64 0] 38) = W1 at HS HO ⊢
  obtain ⟨c0, c1, c2, c3, c4, c5⟩ := HS.out.box
  obtain ⟨o0, o1, i0, i1⟩ := OI.cells HO.out
  go_wp2_with fail
  refine (takes_calls _ B V S (.slice ao S.L.length cap) ok oq HS.out.r (by omega)).mono ?_
  rintro e W2 ⟨rfl, hb⟩
  have HS2 := Lib.hid (HS.out.step hb)
  have HO2 := Lib.hid (OI.step HO.out hb)
  clear hb HS HO c0 c1 c2 c3 c4 c5 o0 o1 i0 i1
  by_cases htk : takesF S.L ok oq = 0
  · have HTK := Lib.hid htk
    obtain ⟨n0, n1, n2⟩ := takes_zero htk
    rw [htk]
    clear htk
    obtain ⟨o0, o1, i0, i1⟩ := OI.cells HO2.out
    go_wp2_with fail
    refine (rvalid_calls _ _ _ (Or.inl rfl) hki).mono ?_
    rintro e W3 ⟨rfl, hb⟩
    have HS3 := Lib.hid (HS2.out.step hb)
    have HO3 := Lib.hid (OI.step HO2.out hb)
    clear hb HS2 HO2 o0 o1 i0 i1
    have hvb : validB 0 ik = isinB ik := rfl
    rw [hvb]
    clear hvb
    cases his : isinB ik
    · have HR : Hid (refSubst (fV V) S ok oq ik iq = (6, S)) := Lib.hid (by unfold refSubst; rw [if_neg (by simp [HTK.out]), if_pos his])
      clear his
      obtain ⟨c0, c1, c2, c3, c4, c5⟩ := HS3.out.box
      obtain ⟨⟨d0, d1, d2, d3, d4, d5⟩, g0, g1, g2, g3, g4, g5⟩ := zcells HS3.out.y
      go_wp2_with fail
      have z6 := six (set6_blk HS3.out.y (.string S.owner) (.slice V.a0 V.l0.length V.c0) (.slice V.a1 V.l1.length V.c1) (.slice V.a2 V.l2.length V.c2) (.slice ao S.L.length cap) (.int .i64 S.req))
      have HF := Lib.hid (HS3.out.post (r := refSubst (fV V) S ok oq ik iq) HR.out (by omega) (.string S.owner) (.slice V.a0 V.l0.length V.c0) (.slice V.a1 V.l1.length V.c1) (.slice V.a2 V.l2.length V.c2) (.slice ao S.L.length cap) (.int .i64 S.req))
      unfold set6 at z6 HF
      clear c0 c1 c2 c3 c4 c5 d0 d1 d2 d3 d4 d5 g0 g1 g2 g3 g4 g5
      generalize (((((W3.setCell _ _).setCell _ _).setCell _ _).setCell _ _).setCell _ _).setCell _ _ = WF at z6 HF ⊢
      obtain ⟨z0, z1, z2, z3, z4, z5⟩ := z6
      refine bodyPost_ret (v := .tuple #[.agg #[.string S.owner, .slice V.a0 V.l0.length V.c0, .slice V.a1 V.l1.length V.c1, .slice V.a2 V.l2.length V.c2, .slice ao S.L.length cap, .int .i64 S.req], .int .i64 6]) ?_ rfl HF.out
      simp [results, Tryz.results29, go_sem, z0, z1, z2, z3, z4, z5]
    · have HI : Hid (¬ isinB ik = false) := Lib.hid (by rw [his]; simp)
      clear his
      obtain ⟨o0, o1, i0, i1⟩ := OI.cells HO3.out
      by_cases hkk : ik = ok
      · have HR : Hid (refSubst (fV V) S ok oq ik iq = (7, S)) := Lib.hid (by unfold refSubst; rw [if_neg (by simp [HTK.out]), if_neg HI.out, if_pos hkk])
        have t1 : (ik == ok) = true := by rw [ba_beq']; exact decide_eq_true hkk
        have t2 : (ik.toList == ok.toList) = true := by rw [ba_beq2]; exact decide_eq_true hkk
        clear hkk
        obtain ⟨c0, c1, c2, c3, c4, c5⟩ := HS3.out.box
        obtain ⟨⟨d0, d1, d2, d3, d4, d5⟩, g0, g1, g2, g3, g4, g5⟩ := zcells HS3.out.y
        go_wp2_with fail
        have z6 := six (set6_blk HS3.out.y (.string S.owner) (.slice V.a0 V.l0.length V.c0) (.slice V.a1 V.l1.length V.c1) (.slice V.a2 V.l2.length V.c2) (.slice ao S.L.length cap) (.int .i64 S.req))
        have HF := Lib.hid (HS3.out.post (r := refSubst (fV V) S ok oq ik iq) HR.out (by omega) (.string S.owner) (.slice V.a0 V.l0.length V.c0) (.slice V.a1 V.l1.length V.c1) (.slice V.a2 V.l2.length V.c2) (.slice ao S.L.length cap) (.int .i64 S.req))
        unfold set6 at z6 HF
        clear c0 c1 c2 c3 c4 c5 d0 d1 d2 d3 d4 d5 g0 g1 g2 g3 g4 g5
        generalize (((((W3.setCell _ _).setCell _ _).setCell _ _).setCell _ _).setCell _ _).setCell _ _ = WF at z6 HF ⊢
        obtain ⟨z0, z1, z2, z3, z4, z5⟩ := z6
        refine bodyPost_ret (v := .tuple #[.agg #[.string S.owner, .slice V.a0 V.l0.length V.c0, .slice V.a1 V.l1.length V.c1, .slice V.a2 V.l2.length V.c2, .slice ao S.L.length cap, .int .i64 S.req], .int .i64 7]) ?_ rfl HF.out
        simp [results, Tryz.results29, go_sem, z0, z1, z2, z3, z4, z5]
      · have HKK := Lib.hid hkk
        have t1 : (ik == ok) = false := by rw [ba_beq']; exact decide_eq_false hkk
        have t2 : (ik.toList == ok.toList) = false := by rw [ba_beq2]; exact decide_eq_false hkk
        clear hkk
        by_cases ha : 1 ≤ iq ∧ iq ≤ 1000000000000000
        · have HA := Lib.hid ha
          have HWD : Hid (decide (1 ≤ iq ∧ iq ≤ 1000000000000000) = true) := Lib.hid (decide_eq_true ha)
          obtain ⟨a0, a1⟩ := ha
          have hwa : IntKind.i64.wrap (qty S.L ik + iq) = qty S.L ik + iq := by rw [IntKind.wrap_i64]; omega
          go_wp2_with (go_at_call 53; refine (within_calls _ _).mono ?_; rintro e w' ⟨rfl, rfl⟩; rw [HWD.out])
          have HD := h2drew (held2_of HS3.out HO3.out)
          clear o0 o1 i0 i1
          go_cut [9] (fun s9 wx => s9 = .int .i64 (qty S.L ik + iq) ∧ Hid (RSt w wx (w.heap.size + 1 + 1 + 1) V S (.slice ao S.L.length cap) B) ∧ Hid (OI wx w.heap.size ok oq ik iq))
          case first =>
            go_region_held3 (fun w' => w'.cell? ⟨w.heap.size, 0, none⟩ = some (.string S.owner) ∧ w'.cell? ⟨w.heap.size, 1, none⟩ = some (.slice V.a0 V.l0.length V.c0) ∧ w'.cell? ⟨w.heap.size, 2, none⟩ = some (.slice V.a1 V.l1.length V.c1) ∧ w'.cell? ⟨w.heap.size, 3, none⟩ = some (.slice V.a2 V.l2.length V.c2) ∧ w'.cell? ⟨w.heap.size, 4, none⟩ = some (.slice ao S.L.length cap) ∧ w'.cell? ⟨w.heap.size, 5, none⟩ = some (.int .i64 S.req) ∧ w'.cell? ⟨w.heap.size + 1, 0, none⟩ = some (.string ok) ∧ w'.cell? ⟨w.heap.size + 1, 1, none⟩ = some (.int .i64 oq) ∧ w'.cell? ⟨w.heap.size + 1 + 1, 0, none⟩ = some (.string ik) ∧ w'.cell? ⟨w.heap.size + 1 + 1, 1, none⟩ = some (.int .i64 iq) ∧ OI w' w.heap.size ok oq ik iq ∧ RSt w w' (w.heap.size + 1 + 1 + 1) V S (.slice ao S.L.length cap) B)
              (first | with_reducible exact HD | with_reducible exact HH4 | with_reducible trivial)
              (first
                | (go_at_call 18
                   refine (rquantity_calls _ B V S (.slice ao S.L.length cap) ik ((h2r (by assumption)).r) (by omega)).mono ?_
                   rintro e W4 ⟨rfl, hb⟩
                   have HH4 := h2step (by assumption) hb
                   clear hb))
            all_goals
              go_wp2_with fail
              go_meet
              exact ⟨rfl, Lib.hid (h2r HH4), Lib.hid (h2o HH4)⟩
          case rest =>
            obtain ⟨rfl, HS4, HO4⟩ := hcut
            clear HS3 HO3 HD
            by_cases hov : 1000000000000000 < qty S.L ik + iq
            · have HR : Hid (refSubst (fV V) S ok oq ik iq = (12, S)) := Lib.hid (by unfold refSubst; rw [if_neg (by simp [HTK.out]), if_neg HI.out, if_neg HKK.out, if_neg (by simp [HA.out]), if_pos hov])
              obtain ⟨c0, c1, c2, c3, c4, c5⟩ := HS4.out.box
              obtain ⟨⟨d0, d1, d2, d3, d4, d5⟩, g0, g1, g2, g3, g4, g5⟩ := zcells HS4.out.y
              go_wp2_with fail
              have z6 := six (set6_blk HS4.out.y (.string S.owner) (.slice V.a0 V.l0.length V.c0) (.slice V.a1 V.l1.length V.c1) (.slice V.a2 V.l2.length V.c2) (.slice ao S.L.length cap) (.int .i64 S.req))
              have HF := Lib.hid (HS4.out.post (r := refSubst (fV V) S ok oq ik iq) HR.out (by omega) (.string S.owner) (.slice V.a0 V.l0.length V.c0) (.slice V.a1 V.l1.length V.c1) (.slice V.a2 V.l2.length V.c2) (.slice ao S.L.length cap) (.int .i64 S.req))
              unfold set6 at z6 HF
              clear c0 c1 c2 c3 c4 c5 d0 d1 d2 d3 d4 d5 g0 g1 g2 g3 g4 g5
              generalize (((((wc.setCell _ _).setCell _ _).setCell _ _).setCell _ _).setCell _ _).setCell _ _ = WF at z6 HF ⊢
              obtain ⟨z0, z1, z2, z3, z4, z5⟩ := z6
              refine bodyPost_ret (v := .tuple #[.agg #[.string S.owner, .slice V.a0 V.l0.length V.c0, .slice V.a1 V.l1.length V.c1, .slice V.a2 V.l2.length V.c2, .slice ao S.L.length cap, .int .i64 S.req], .int .i64 12]) ?_ rfl HF.out
              simp [results, Tryz.results29, go_sem, z0, z1, z2, z3, z4, z5]
            · have HOV := Lib.hid hov
              obtain ⟨R1, hR1⟩ : ∃ R1, R1 = wrest ⟨ok, qty S.L ok - oq, (fV V ok (qty S.L ok - oq)).1⟩ (qty S.L ok - oq == 0) S.L := ⟨_, rfl⟩
              obtain ⟨R, hR⟩ : ∃ R, R = wrest ⟨ik, qty S.L ik + iq, (fV V ik (qty S.L ik + iq)).1⟩ (qty S.L ik + iq == 0) R1 := ⟨_, rfl⟩
              have HRE1 := Lib.hid hR1
              have HRE := Lib.hid hR
              have hRl1 : R1.length ≤ S.L.length + 1 := by rw [hR1]; exact wrest_len _ _ _
              have hRl : R.length ≤ R1.length + 1 := by rw [hR]; exact wrest_len _ _ _
              have HRQ1 : Hid (∀ x ∈ R1, 0 ≤ x.q ∧ x.q ≤ 1000000000000000) := Lib.hid (by
                rw [hR1]
                exact wrest_mem (P := fun x => 0 ≤ x.q ∧ x.q ≤ 1000000000000000) ⟨by show 0 ≤ qty S.L ok - oq; omega, by show qty S.L ok - oq ≤ _; omega⟩ _ _ HL.out.q)
              have HRQ : Hid (∀ x ∈ R, 0 ≤ x.q ∧ x.q ≤ 1000000000000000) := Lib.hid (by
                rw [hR]
                exact wrest_mem (P := fun x => 0 ≤ x.q ∧ x.q ≤ 1000000000000000) ⟨by show 0 ≤ qty S.L ik + iq; omega, by show qty S.L ik + iq ≤ _; omega⟩ _ _ HRQ1.out)
              have HRK1 : Hid (∀ x ∈ R1, x.key.size ≤ maxLen) := Lib.hid (by
                rw [hR1]
                exact wrest_mem (P := fun x => x.key.size ≤ maxLen) hk _ _ HL.out.key)
              have HREQ : Hid (refSubst (fV V) S ok oq ik iq = if 1024 < R.length then (8, S) else if 0 < qty R ok ∧ (fV V ok (qty R ok)).2 ≠ 0 then ((fV V ok (qty R ok)).2, S)
                  else if (fV V ik (qty S.L ik + iq)).2 ≠ 0 then ((fV V ik (qty S.L ik + iq)).2, S)
                  else if coverF (fV V) R S.req ≠ 0 then (coverF (fV V) R S.req, S) else (0, { S with L := R, value := (totF (fV V) R).1 })) := Lib.hid (by
                rw [hR, hR1]; unfold refSubst; rw [if_neg (by simp [HTK.out]), if_neg HI.out, if_neg HKK.out, if_neg (by simp [HA.out]), if_neg HOV.out])
              clear hR1 hR
              have hws : IntKind.i64.wrap (qty S.L ok - oq) = qty S.L ok - oq := by rw [IntKind.wrap_i64]; omega
              have HD := h2drew (held2_of HS4.out HO4.out)
              go_upto_region 13 with fail
              go_cut [10] (fun s10 wx => ∃ (b2 : Nat) (ao2 : Option Addr) (cap2 : Nat), s10 = .pointer (some ⟨b2, 0, none⟩) ∧ Hid (RSt w wx (w.heap.size + 1 + 1 + 1) V S (.slice ao S.L.length cap) B) ∧ Hid (OI wx w.heap.size ok oq ik iq) ∧ Hid (RowAt wx B (.slice ao2 R.length cap2) R) ∧ Hid (wx.heap[b2]? = some (.cells #[.string S.owner, .slice V.a0 V.l0.length V.c0, .slice V.a1 V.l1.length V.c1, .slice V.a2 V.l2.length V.c2, .slice ao2 R.length cap2, .int .i64 S.req] 38 (0, 0))))
              case first =>
                go_region_held3 (fun w' => w'.cell? ⟨w.heap.size, 0, none⟩ = some (.string S.owner) ∧ w'.cell? ⟨w.heap.size, 1, none⟩ = some (.slice V.a0 V.l0.length V.c0) ∧ w'.cell? ⟨w.heap.size, 2, none⟩ = some (.slice V.a1 V.l1.length V.c1) ∧ w'.cell? ⟨w.heap.size, 3, none⟩ = some (.slice V.a2 V.l2.length V.c2) ∧ w'.cell? ⟨w.heap.size, 4, none⟩ = some (.slice ao S.L.length cap) ∧ w'.cell? ⟨w.heap.size, 5, none⟩ = some (.int .i64 S.req) ∧ w'.cell? ⟨w.heap.size + 1, 0, none⟩ = some (.string ok) ∧ w'.cell? ⟨w.heap.size + 1, 1, none⟩ = some (.int .i64 oq) ∧ w'.cell? ⟨w.heap.size + 1 + 1, 0, none⟩ = some (.string ik) ∧ w'.cell? ⟨w.heap.size + 1 + 1, 1, none⟩ = some (.int .i64 iq) ∧ OI w' w.heap.size ok oq ik iq ∧ RSt w w' (w.heap.size + 1 + 1 + 1) V S (.slice ao S.L.length cap) B)
                  (first | with_reducible exact HD | with_reducible exact HH5 | with_reducible exact HHC | with_reducible exact HHB | with_reducible exact HHA | with_reducible exact h2alloc (by assumption) | with_reducible exact h2adr (by assumption) | with_reducible trivial)
                  (first
                | (go_at_call 18
                   refine (rquantity_calls _ B V S (.slice ao S.L.length cap) ok ((h2r (by assumption)).r) (by omega)).mono ?_
                   rintro e WA ⟨rfl, hb⟩
                   have HHA := h2step (by assumption) hb
                   have HKA := Lib.hid (fun (b : Nat) (o : Obj) (h : _ = some o) => blk_keep (b := b) hb h (Nat.le_refl _))
                   clear hb)
                | (go_at_call_of 45 (Value.agg #[.string S.owner, .slice V.a0 V.l0.length V.c0, .slice V.a1 V.l1.length V.c1, .slice V.a2 V.l2.length V.c2, .slice ao S.L.length cap, .int .i64 S.req])
                   refine (with_calls _ B V S (.slice ao S.L.length cap) ⟨ok, qty S.L ok - oq, (fV V ok (qty S.L ok - oq)).1⟩ ((h2r (by assumption)).r) (by omega) hk HL.out.key).mono ?_
                   rintro e WB ⟨sl1, rfl, hr2, hb⟩
                   have HHB := h2step (by assumption) hb
                   have HRB : Hid (RowAt WB B sl1 (wrest ⟨ok, qty S.L ok - oq, (fV V ok (qty S.L ok - oq)).1⟩ (qty S.L ok - oq == 0) S.L)) := Lib.hid (row_mono hr2 (Nat.le_trans hB (Nat.le_of_lt (h2y (by assumption)).2)))
                   have HKB := Lib.hid (fun (b : Nat) (o : Obj) (h : _ = some o) => blk_keep (b := b) hb h (Nat.le_refl _))
                   rw [← HRE1.out] at HRB
                   obtain ⟨ao1, cap1, hsl1, -⟩ := row_open HRB.out
                   subst hsl1
                   unfold rP
                   unfold VS.x0 VS.x1 VS.x2
                   clear hb hr2)
                | (go_at_call 45
                   refine (with_calls _ B V { S with L := R1 } (.slice ao1 R1.length cap1) ⟨ik, qty S.L ik + iq, (fV V ik (qty S.L ik + iq)).1⟩ (by first | with_reducible exact HRB.out | with_reducible exact World.ownsRow.alloc HRB.out _) (by show R1.length ≤ 2000; omega) hki HRK1.out).mono ?_
                   rintro e WC ⟨sl2, rfl, hr2, hb⟩
                   have HHC := h2step (by assumption) hb
                   have HRC : Hid (RowAt WC B sl2 (wrest ⟨ik, qty S.L ik + iq, (fV V ik (qty S.L ik + iq)).1⟩ (qty S.L ik + iq == 0) R1)) := Lib.hid (row_mono hr2 (Nat.le_trans hB (Nat.le_of_lt (h2y (by assumption)).2)))
                   have HKC := Lib.hid (fun (b : Nat) (o : Obj) (h : _ = some o) => blk_keep (b := b) hb h (Nat.le_refl _))
                   rw [← HRE.out] at HRC
                   obtain ⟨ao2, cap2, hsl2, -⟩ := row_open HRC.out
                   subst hsl2
                   unfold rP
                   unfold VS.x0 VS.x1 VS.x2
                   have HLD := Lib.hid (h2y HD)
                   have HLA := Lib.hid (h2y HHA)
                   have HLB := Lib.hid (h2y HHB)
                   clear hb hr2
                   try
                     with_reducible have HZ0 := HKC.out _ _ (HKB.out _ _ (HKA.out _ _ (blk_drew (blk_new wc (.cells #[.string ⟨#[]⟩, .slice none 0 0, .slice none 0 0, .slice none 0 0, .slice none 0 0, .int .i64 0] 38)))))
                     have HZ : Hid (WC.heap[wc.heap.size]? = some (.cells zeroP 38 (0, 0))) := Lib.hid HZ0
                     clear HZ0
                     obtain ⟨⟨d0, d1, d2, d3, d4, d5⟩, g0, g1, g2, g3, g4, g5⟩ := zcells HZ.out
                     have HH5 := h2set6 HHC HZ.out rfl HLD.out.1 (.string S.owner) (.slice V.a0 V.l0.length V.c0) (.slice V.a1 V.l1.length V.c1) (.slice V.a2 V.l2.length V.c2) (.slice ao2 R.length cap2) (.int .i64 S.req)
                     unfold set6 at HH5
                   try
                     with_reducible have HZ0 := HKC.out _ _ (HKB.out _ _ (blk_new WA (.cells #[.string ⟨#[]⟩, .slice none 0 0, .slice none 0 0, .slice none 0 0, .slice none 0 0, .int .i64 0] 38)))
                     have HZ : Hid (WC.heap[WA.heap.size]? = some (.cells zeroP 38 (0, 0))) := Lib.hid HZ0
                     clear HZ0
                     obtain ⟨⟨d0, d1, d2, d3, d4, d5⟩, g0, g1, g2, g3, g4, g5⟩ := zcells HZ.out
                     have HH5 := h2set6 HHC HZ.out rfl HLA.out.1 (.string S.owner) (.slice V.a0 V.l0.length V.c0) (.slice V.a1 V.l1.length V.c1) (.slice V.a2 V.l2.length V.c2) (.slice ao2 R.length cap2) (.int .i64 S.req)
                     unfold set6 at HH5
                   try
                     with_reducible have HZ0 := HKC.out _ _ (blk_new WB (.cells #[.string ⟨#[]⟩, .slice none 0 0, .slice none 0 0, .slice none 0 0, .slice none 0 0, .int .i64 0] 38))
                     have HZ : Hid (WC.heap[WB.heap.size]? = some (.cells zeroP 38 (0, 0))) := Lib.hid HZ0
                     clear HZ0
                     obtain ⟨⟨d0, d1, d2, d3, d4, d5⟩, g0, g1, g2, g3, g4, g5⟩ := zcells HZ.out
                     have HH5 := h2set6 HHC HZ.out rfl HLB.out.1 (.string S.owner) (.slice V.a0 V.l0.length V.c0) (.slice V.a1 V.l1.length V.c1) (.slice V.a2 V.l2.length V.c2) (.slice ao2 R.length cap2) (.int .i64 S.req)
                     unfold set6 at HH5))
                all_goals
                  go_wp2_with fail
                  go_meet
                  first
                    | exact ⟨_, ao2, cap2, rfl, Lib.hid (h2r HH5), Lib.hid (h2o HH5), Lib.hid (set6_row HZ.out HRC.out (.string S.owner) (.slice V.a0 V.l0.length V.c0) (.slice V.a1 V.l1.length V.c1) (.slice V.a2 V.l2.length V.c2) (.slice ao2 R.length cap2) (.int .i64 S.req)), Lib.hid (set6_blk HZ.out (.string S.owner) (.slice V.a0 V.l0.length V.c0) (.slice V.a1 V.l1.length V.c1) (.slice V.a2 V.l2.length V.c2) (.slice ao2 R.length cap2) (.int .i64 S.req))⟩
                    | exact ⟨WC.heap.size, ao2, cap2, rfl, Lib.hid (h2r (h2alloc HHC)), Lib.hid (h2o (h2alloc HHC)), Lib.hid (World.ownsRow.alloc HRC.out _), Lib.hid (blk_new WC _)⟩
              case rest =>
                obtain ⟨b2, ao2, cap2, rfl, HS5, HO5, HR5, HB5⟩ := hcut
                clear HS4 HO4 HD hws hwa
                obtain ⟨r0, r1⟩ := qty_rng HRQ.out ok
                by_cases hbig : 1024 < R.length
                · have HR : Hid (refSubst (fV V) S ok oq ik iq = (8, S)) := Lib.hid (by rw [HREQ.out, if_pos hbig])
                  obtain ⟨e0, e1, e2, e3, e4, e5⟩ := six HB5.out
                  obtain ⟨c0, c1, c2, c3, c4, c5⟩ := HS5.out.box
                  obtain ⟨⟨d0, d1, d2, d3, d4, d5⟩, g0, g1, g2, g3, g4, g5⟩ := zcells HS5.out.y
                  go_wp2_with fail
                  have z6 := six (set6_blk HS5.out.y (.string S.owner) (.slice V.a0 V.l0.length V.c0) (.slice V.a1 V.l1.length V.c1) (.slice V.a2 V.l2.length V.c2) (.slice ao S.L.length cap) (.int .i64 S.req))
                  have HF := Lib.hid (HS5.out.post (r := refSubst (fV V) S ok oq ik iq) HR.out (by omega) (.string S.owner) (.slice V.a0 V.l0.length V.c0) (.slice V.a1 V.l1.length V.c1) (.slice V.a2 V.l2.length V.c2) (.slice ao S.L.length cap) (.int .i64 S.req))
                  unfold set6 at z6 HF
                  clear c0 c1 c2 c3 c4 c5 d0 d1 d2 d3 d4 d5 g0 g1 g2 g3 g4 g5
                  generalize (((((wc.setCell _ _).setCell _ _).setCell _ _).setCell _ _).setCell _ _).setCell _ _ = WF at z6 HF ⊢
                  obtain ⟨z0, z1, z2, z3, z4, z5⟩ := z6
                  refine bodyPost_ret (v := .tuple #[.agg #[.string S.owner, .slice V.a0 V.l0.length V.c0, .slice V.a1 V.l1.length V.c1, .slice V.a2 V.l2.length V.c2, .slice ao S.L.length cap, .int .i64 S.req], .int .i64 8]) ?_ rfl HF.out
                  simp [results, Tryz.results29, go_sem, z0, z1, z2, z3, z4, z5]
                · have HBIG := Lib.hid hbig
                  obtain ⟨e0, e1, e2, e3, e4, e5⟩ := six HB5.out
                  obtain ⟨o0, o1, i0, i1⟩ := OI.cells HO5.out
                  go_wp2_with fail
                  refine (rquantity_calls _ B V { S with L := R } (.slice ao2 R.length cap2) ok HR5.out (by show R.length ≤ 2000; omega)).mono ?_
                  rintro e W6 ⟨rfl, hb⟩
                  have HS6 := Lib.hid (HS5.out.step hb)
                  have HO6 := Lib.hid (OI.step HO5.out hb)
                  have HR6 := Lib.hid (ownsRow_below HR5.out hb (Nat.le_refl _))
                  have HB6 := Lib.hid (blk_keep hb HB5.out (Nat.le_refl _))
                  clear hb HS5 HO5 HR5 HB5 e0 e1 e2 e3 e4 e5 o0 o1 i0 i1
                  have HREQ : Hid (refSubst (fV V) S ok oq ik iq = if 0 < qty R ok ∧ (fV V ok (qty R ok)).2 ≠ 0 then ((fV V ok (qty R ok)).2, S)
                    else if (fV V ik (qty S.L ik + iq)).2 ≠ 0 then ((fV V ik (qty S.L ik + iq)).2, S)
                    else if coverF (fV V) R S.req ≠ 0 then (coverF (fV V) R S.req, S) else (0, { S with L := R, value := (totF (fV V) R).1 })) := Lib.hid (by rw [HREQ.out, if_neg (by have := HBIG.out; omega)])
                  simp only
                  generalize qty R ok = qr at HREQ r0 r1 ⊢
                  obtain ⟨e0, e1, e2, e3, e4, e5⟩ := six HB6.out
                  obtain ⟨c0, c1, c2, c3, c4, c5⟩ := HS6.out.box
                  obtain ⟨o0, o1, i0, i1⟩ := OI.cells HO6.out
                  by_cases hqr : 0 < qr
                  · go_wp2_with fail
                    refine (rvalue_calls _ B V ok qr HS6.out.v (Nat.le_trans HS6.out.h HS6.out.b.size) (by omega) (by omega)).mono ?_
                    rintro e W7 ⟨rfl, hb⟩
                    have HS7 := Lib.hid (HS6.out.step hb)
                    have HO7 := Lib.hid (OI.step HO6.out hb)
                    have HR7 := Lib.hid (ownsRow_below HR6.out hb (Nat.le_refl _))
                    have HB7 := Lib.hid (blk_keep hb HB6.out (Nat.le_refl _))
                    clear hb HS6 HO6 HR6 HB6 e0 e1 e2 e3 e4 e5 c0 c1 c2 c3 c4 c5 o0 o1 i0 i1
                    have hfe := fV_err V ok qr
                    generalize fV V ok qr = vv at HREQ hfe ⊢
                    obtain ⟨va, ve⟩ := vv
                    simp only at HREQ hfe
                    by_cases hve : ve = 0
                    · subst hve
                      have HREQ : Hid (refSubst (fV V) S ok oq ik iq = if (fV V ik (qty S.L ik + iq)).2 ≠ 0 then ((fV V ik (qty S.L ik + iq)).2, S)
                        else if coverF (fV V) R S.req ≠ 0 then (coverF (fV V) R S.req, S) else (0, { S with L := R, value := (totF (fV V) R).1 })) := Lib.hid (by rw [HREQ.out, if_neg (by simp)])
                      obtain ⟨e0, e1, e2, e3, e4, e5⟩ := six HB7.out
                      obtain ⟨c0, c1, c2, c3, c4, c5⟩ := HS7.out.box
                      obtain ⟨o0, o1, i0, i1⟩ := OI.cells HO7.out
                      go_wp2_with fail
                      refine (rvalue_calls _ B V ik (qty S.L ik + iq) HS7.out.v (Nat.le_trans HS7.out.h HS7.out.b.size) (by omega) (by omega)).mono ?_
                      rintro e W8 ⟨rfl, hb⟩
                      have HS8 := Lib.hid (HS7.out.step hb)
                      have HR8 := Lib.hid (ownsRow_below HR7.out hb (Nat.le_refl _))
                      have HB8 := Lib.hid (blk_keep hb HB7.out (Nat.le_refl _))
                      clear hb HS7 HO7 HR7 HB7 e0 e1 e2 e3 e4 e5 c0 c1 c2 c3 c4 c5 o0 o1 i0 i1
                      have hfe2 := fV_err V ik (qty S.L ik + iq)
                      generalize fV V ik (qty S.L ik + iq) = vw at HREQ hfe2 ⊢
                      obtain ⟨wa, we⟩ := vw
                      simp only at HREQ hfe2
                      by_cases hwe : we = 0
                      · subst hwe
                        have HREQ : Hid (refSubst (fV V) S ok oq ik iq = if coverF (fV V) R S.req ≠ 0 then (coverF (fV V) R S.req, S) else (0, { S with L := R, value := (totF (fV V) R).1 })) := Lib.hid (by rw [HREQ.out, if_neg (by simp)])
                        obtain ⟨e0, e1, e2, e3, e4, e5⟩ := six HB8.out
                        go_wp2_with fail
                        refine (covers_calls _ B V { S with L := R } (.slice ao2 R.length cap2) HR8.out (by show R.length ≤ 2000; omega) HS8.out.v (Nat.le_trans HS8.out.h HS8.out.b.size) HRQ.out).mono ?_
                        rintro e W9 ⟨rfl, hb⟩
                        have HS9 := Lib.hid (HS8.out.step hb)
                        have HR9 := Lib.hid (ownsRow_below HR8.out hb (Nat.le_refl _))
                        have HB9 := Lib.hid (blk_keep hb HB8.out (Nat.le_refl _))
                        clear hb HS8 HR8 HB8 e0 e1 e2 e3 e4 e5
                        simp only
                        generalize coverF (fV V) R S.req = te at HREQ ⊢
                        by_cases hte : te = 0
                        · subst hte
                          have HR : Hid (refSubst (fV V) S ok oq ik iq = (0, { S with L := R, value := (totF (fV V) R).1 })) := Lib.hid (by rw [HREQ.out, if_neg (by simp)])
                          obtain ⟨c0, c1, c2, c3, c4, c5⟩ := six HB9.out
                          obtain ⟨⟨d0, d1, d2, d3, d4, d5⟩, g0, g1, g2, g3, g4, g5⟩ := zcells HS9.out.y
                          go_wp2_with fail
                          have z6 := six (set6_blk HS9.out.y (.string S.owner) (.slice V.a0 V.l0.length V.c0) (.slice V.a1 V.l1.length V.c1) (.slice V.a2 V.l2.length V.c2) (.slice ao2 R.length cap2) (.int .i64 S.req))
                          have HF := Lib.hid (And.intro (set6_row HS9.out.y HR9.out (.string S.owner) (.slice V.a0 V.l0.length V.c0) (.slice V.a1 V.l1.length V.c1) (.slice V.a2 V.l2.length V.c2) (.slice ao2 R.length cap2) (.int .i64 S.req)) (set6_below HS9.out.b (B := w.heap.size) (b := w.heap.size + 1 + 1 + 1) (by omega) (.string S.owner) (.slice V.a0 V.l0.length V.c0) (.slice V.a1 V.l1.length V.c1) (.slice V.a2 V.l2.length V.c2) (.slice ao2 R.length cap2) (.int .i64 S.req)))
                          unfold set6 at z6 HF
                          clear c0 c1 c2 c3 c4 c5 d0 d1 d2 d3 d4 d5 g0 g1 g2 g3 g4 g5
                          generalize (((((W9.setCell _ _).setCell _ _).setCell _ _).setCell _ _).setCell _ _).setCell _ _ = WF at z6 HF ⊢
                          obtain ⟨z0, z1, z2, z3, z4, z5⟩ := z6
                          refine bodyPost_ret (v := .tuple #[.agg #[.string S.owner, .slice V.a0 V.l0.length V.c0, .slice V.a1 V.l1.length V.c1, .slice V.a2 V.l2.length V.c2, .slice ao2 R.length cap2, .int .i64 S.req], .int .i64 0]) ?_ rfl ?_
                          · simp [results, Tryz.results29, go_sem, z0, z1, z2, z3, z4, z5]
                          · rw [HR.out]
                            exact ⟨.slice ao2 R.length cap2, rfl, HF.out.1, HF.out.2⟩
                        · have HR : Hid (refSubst (fV V) S ok oq ik iq = (te, S)) := Lib.hid (by rw [HREQ.out, if_pos hte])
                          have hz1 : (te != 0) = true := by simp [hte]
                          obtain ⟨c0, c1, c2, c3, c4, c5⟩ := HS9.out.box
                          obtain ⟨⟨d0, d1, d2, d3, d4, d5⟩, g0, g1, g2, g3, g4, g5⟩ := zcells HS9.out.y
                          go_wp2_with fail
                          have z6 := six (set6_blk HS9.out.y (.string S.owner) (.slice V.a0 V.l0.length V.c0) (.slice V.a1 V.l1.length V.c1) (.slice V.a2 V.l2.length V.c2) (.slice ao S.L.length cap) (.int .i64 S.req))
                          have HF := Lib.hid (HS9.out.post (r := refSubst (fV V) S ok oq ik iq) HR.out (by omega) (.string S.owner) (.slice V.a0 V.l0.length V.c0) (.slice V.a1 V.l1.length V.c1) (.slice V.a2 V.l2.length V.c2) (.slice ao S.L.length cap) (.int .i64 S.req))
                          unfold set6 at z6 HF
                          clear c0 c1 c2 c3 c4 c5 d0 d1 d2 d3 d4 d5 g0 g1 g2 g3 g4 g5
                          generalize (((((W9.setCell _ _).setCell _ _).setCell _ _).setCell _ _).setCell _ _).setCell _ _ = WF at z6 HF ⊢
                          obtain ⟨z0, z1, z2, z3, z4, z5⟩ := z6
                          refine bodyPost_ret (v := .tuple #[.agg #[.string S.owner, .slice V.a0 V.l0.length V.c0, .slice V.a1 V.l1.length V.c1, .slice V.a2 V.l2.length V.c2, .slice ao S.L.length cap, .int .i64 S.req], .int .i64 te]) ?_ rfl HF.out
                          simp [results, Tryz.results29, go_sem, z0, z1, z2, z3, z4, z5]
                      · have HR : Hid (refSubst (fV V) S ok oq ik iq = (we, S)) := Lib.hid (by rw [HREQ.out, if_pos hwe])
                        have hz1 : (we != 0) = true := by simp [hwe]
                        obtain ⟨c0, c1, c2, c3, c4, c5⟩ := HS8.out.box
                        obtain ⟨⟨d0, d1, d2, d3, d4, d5⟩, g0, g1, g2, g3, g4, g5⟩ := zcells HS8.out.y
                        go_wp2_with fail
                        have z6 := six (set6_blk HS8.out.y (.string S.owner) (.slice V.a0 V.l0.length V.c0) (.slice V.a1 V.l1.length V.c1) (.slice V.a2 V.l2.length V.c2) (.slice ao S.L.length cap) (.int .i64 S.req))
                        have HF := Lib.hid (HS8.out.post (r := refSubst (fV V) S ok oq ik iq) HR.out (by omega) (.string S.owner) (.slice V.a0 V.l0.length V.c0) (.slice V.a1 V.l1.length V.c1) (.slice V.a2 V.l2.length V.c2) (.slice ao S.L.length cap) (.int .i64 S.req))
                        unfold set6 at z6 HF
                        clear c0 c1 c2 c3 c4 c5 d0 d1 d2 d3 d4 d5 g0 g1 g2 g3 g4 g5
                        generalize (((((W8.setCell _ _).setCell _ _).setCell _ _).setCell _ _).setCell _ _).setCell _ _ = WF at z6 HF ⊢
                        obtain ⟨z0, z1, z2, z3, z4, z5⟩ := z6
                        refine bodyPost_ret (v := .tuple #[.agg #[.string S.owner, .slice V.a0 V.l0.length V.c0, .slice V.a1 V.l1.length V.c1, .slice V.a2 V.l2.length V.c2, .slice ao S.L.length cap, .int .i64 S.req], .int .i64 we]) ?_ rfl HF.out
                        simp [results, Tryz.results29, go_sem, z0, z1, z2, z3, z4, z5]
                    · have HR : Hid (refSubst (fV V) S ok oq ik iq = (ve, S)) := Lib.hid (by rw [HREQ.out, if_pos ⟨hqr, hve⟩])
                      have hz1 : (ve != 0) = true := by simp [hve]
                      obtain ⟨c0, c1, c2, c3, c4, c5⟩ := HS7.out.box
                      obtain ⟨⟨d0, d1, d2, d3, d4, d5⟩, g0, g1, g2, g3, g4, g5⟩ := zcells HS7.out.y
                      go_wp2_with fail
                      have z6 := six (set6_blk HS7.out.y (.string S.owner) (.slice V.a0 V.l0.length V.c0) (.slice V.a1 V.l1.length V.c1) (.slice V.a2 V.l2.length V.c2) (.slice ao S.L.length cap) (.int .i64 S.req))
                      have HF := Lib.hid (HS7.out.post (r := refSubst (fV V) S ok oq ik iq) HR.out (by omega) (.string S.owner) (.slice V.a0 V.l0.length V.c0) (.slice V.a1 V.l1.length V.c1) (.slice V.a2 V.l2.length V.c2) (.slice ao S.L.length cap) (.int .i64 S.req))
                      unfold set6 at z6 HF
                      clear c0 c1 c2 c3 c4 c5 d0 d1 d2 d3 d4 d5 g0 g1 g2 g3 g4 g5
                      generalize (((((W7.setCell _ _).setCell _ _).setCell _ _).setCell _ _).setCell _ _).setCell _ _ = WF at z6 HF ⊢
                      obtain ⟨z0, z1, z2, z3, z4, z5⟩ := z6
                      refine bodyPost_ret (v := .tuple #[.agg #[.string S.owner, .slice V.a0 V.l0.length V.c0, .slice V.a1 V.l1.length V.c1, .slice V.a2 V.l2.length V.c2, .slice ao S.L.length cap, .int .i64 S.req], .int .i64 ve]) ?_ rfl HF.out
                      simp [results, Tryz.results29, go_sem, z0, z1, z2, z3, z4, z5]
                  · have HREQ : Hid (refSubst (fV V) S ok oq ik iq = if (fV V ik (qty S.L ik + iq)).2 ≠ 0 then ((fV V ik (qty S.L ik + iq)).2, S)
                      else if coverF (fV V) R S.req ≠ 0 then (coverF (fV V) R S.req, S) else (0, { S with L := R, value := (totF (fV V) R).1 })) := Lib.hid (by rw [HREQ.out, if_neg (by omega)])
                    clear e0 e1 e2 e3 e4 e5 c0 c1 c2 c3 c4 c5 o0 o1 i0 i1
                    obtain ⟨e0, e1, e2, e3, e4, e5⟩ := six HB6.out
                    obtain ⟨c0, c1, c2, c3, c4, c5⟩ := HS6.out.box
                    obtain ⟨o0, o1, i0, i1⟩ := OI.cells HO6.out
                    go_wp2_with fail
                    refine (rvalue_calls _ B V ik (qty S.L ik + iq) HS6.out.v (Nat.le_trans HS6.out.h HS6.out.b.size) (by omega) (by omega)).mono ?_
                    rintro e W8 ⟨rfl, hb⟩
                    have HS8 := Lib.hid (HS6.out.step hb)
                    have HR8 := Lib.hid (ownsRow_below HR6.out hb (Nat.le_refl _))
                    have HB8 := Lib.hid (blk_keep hb HB6.out (Nat.le_refl _))
                    clear hb HS6 HO6 HR6 HB6 e0 e1 e2 e3 e4 e5 c0 c1 c2 c3 c4 c5 o0 o1 i0 i1
                    have hfe2 := fV_err V ik (qty S.L ik + iq)
                    generalize fV V ik (qty S.L ik + iq) = vw at HREQ hfe2 ⊢
                    obtain ⟨wa, we⟩ := vw
                    simp only at HREQ hfe2
                    by_cases hwe : we = 0
                    · subst hwe
                      have HREQ : Hid (refSubst (fV V) S ok oq ik iq = if coverF (fV V) R S.req ≠ 0 then (coverF (fV V) R S.req, S) else (0, { S with L := R, value := (totF (fV V) R).1 })) := Lib.hid (by rw [HREQ.out, if_neg (by simp)])
                      obtain ⟨e0, e1, e2, e3, e4, e5⟩ := six HB8.out
                      go_wp2_with fail
                      refine (covers_calls _ B V { S with L := R } (.slice ao2 R.length cap2) HR8.out (by show R.length ≤ 2000; omega) HS8.out.v (Nat.le_trans HS8.out.h HS8.out.b.size) HRQ.out).mono ?_
                      rintro e W9 ⟨rfl, hb⟩
                      have HS9 := Lib.hid (HS8.out.step hb)
                      have HR9 := Lib.hid (ownsRow_below HR8.out hb (Nat.le_refl _))
                      have HB9 := Lib.hid (blk_keep hb HB8.out (Nat.le_refl _))
                      clear hb HS8 HR8 HB8 e0 e1 e2 e3 e4 e5
                      simp only
                      generalize coverF (fV V) R S.req = te at HREQ ⊢
                      by_cases hte : te = 0
                      · subst hte
                        have HR : Hid (refSubst (fV V) S ok oq ik iq = (0, { S with L := R, value := (totF (fV V) R).1 })) := Lib.hid (by rw [HREQ.out, if_neg (by simp)])
                        obtain ⟨c0, c1, c2, c3, c4, c5⟩ := six HB9.out
                        obtain ⟨⟨d0, d1, d2, d3, d4, d5⟩, g0, g1, g2, g3, g4, g5⟩ := zcells HS9.out.y
                        go_wp2_with fail
                        have z6 := six (set6_blk HS9.out.y (.string S.owner) (.slice V.a0 V.l0.length V.c0) (.slice V.a1 V.l1.length V.c1) (.slice V.a2 V.l2.length V.c2) (.slice ao2 R.length cap2) (.int .i64 S.req))
                        have HF := Lib.hid (And.intro (set6_row HS9.out.y HR9.out (.string S.owner) (.slice V.a0 V.l0.length V.c0) (.slice V.a1 V.l1.length V.c1) (.slice V.a2 V.l2.length V.c2) (.slice ao2 R.length cap2) (.int .i64 S.req)) (set6_below HS9.out.b (B := w.heap.size) (b := w.heap.size + 1 + 1 + 1) (by omega) (.string S.owner) (.slice V.a0 V.l0.length V.c0) (.slice V.a1 V.l1.length V.c1) (.slice V.a2 V.l2.length V.c2) (.slice ao2 R.length cap2) (.int .i64 S.req)))
                        unfold set6 at z6 HF
                        clear c0 c1 c2 c3 c4 c5 d0 d1 d2 d3 d4 d5 g0 g1 g2 g3 g4 g5
                        generalize (((((W9.setCell _ _).setCell _ _).setCell _ _).setCell _ _).setCell _ _).setCell _ _ = WF at z6 HF ⊢
                        obtain ⟨z0, z1, z2, z3, z4, z5⟩ := z6
                        refine bodyPost_ret (v := .tuple #[.agg #[.string S.owner, .slice V.a0 V.l0.length V.c0, .slice V.a1 V.l1.length V.c1, .slice V.a2 V.l2.length V.c2, .slice ao2 R.length cap2, .int .i64 S.req], .int .i64 0]) ?_ rfl ?_
                        · simp [results, Tryz.results29, go_sem, z0, z1, z2, z3, z4, z5]
                        · rw [HR.out]
                          exact ⟨.slice ao2 R.length cap2, rfl, HF.out.1, HF.out.2⟩
                      · have HR : Hid (refSubst (fV V) S ok oq ik iq = (te, S)) := Lib.hid (by rw [HREQ.out, if_pos hte])
                        have hz1 : (te != 0) = true := by simp [hte]
                        obtain ⟨c0, c1, c2, c3, c4, c5⟩ := HS9.out.box
                        obtain ⟨⟨d0, d1, d2, d3, d4, d5⟩, g0, g1, g2, g3, g4, g5⟩ := zcells HS9.out.y
                        go_wp2_with fail
                        have z6 := six (set6_blk HS9.out.y (.string S.owner) (.slice V.a0 V.l0.length V.c0) (.slice V.a1 V.l1.length V.c1) (.slice V.a2 V.l2.length V.c2) (.slice ao S.L.length cap) (.int .i64 S.req))
                        have HF := Lib.hid (HS9.out.post (r := refSubst (fV V) S ok oq ik iq) HR.out (by omega) (.string S.owner) (.slice V.a0 V.l0.length V.c0) (.slice V.a1 V.l1.length V.c1) (.slice V.a2 V.l2.length V.c2) (.slice ao S.L.length cap) (.int .i64 S.req))
                        unfold set6 at z6 HF
                        clear c0 c1 c2 c3 c4 c5 d0 d1 d2 d3 d4 d5 g0 g1 g2 g3 g4 g5
                        generalize (((((W9.setCell _ _).setCell _ _).setCell _ _).setCell _ _).setCell _ _).setCell _ _ = WF at z6 HF ⊢
                        obtain ⟨z0, z1, z2, z3, z4, z5⟩ := z6
                        refine bodyPost_ret (v := .tuple #[.agg #[.string S.owner, .slice V.a0 V.l0.length V.c0, .slice V.a1 V.l1.length V.c1, .slice V.a2 V.l2.length V.c2, .slice ao S.L.length cap, .int .i64 S.req], .int .i64 te]) ?_ rfl HF.out
                        simp [results, Tryz.results29, go_sem, z0, z1, z2, z3, z4, z5]
                    · have HR : Hid (refSubst (fV V) S ok oq ik iq = (we, S)) := Lib.hid (by rw [HREQ.out, if_pos hwe])
                      have hz1 : (we != 0) = true := by simp [hwe]
                      obtain ⟨c0, c1, c2, c3, c4, c5⟩ := HS8.out.box
                      obtain ⟨⟨d0, d1, d2, d3, d4, d5⟩, g0, g1, g2, g3, g4, g5⟩ := zcells HS8.out.y
                      go_wp2_with fail
                      have z6 := six (set6_blk HS8.out.y (.string S.owner) (.slice V.a0 V.l0.length V.c0) (.slice V.a1 V.l1.length V.c1) (.slice V.a2 V.l2.length V.c2) (.slice ao S.L.length cap) (.int .i64 S.req))
                      have HF := Lib.hid (HS8.out.post (r := refSubst (fV V) S ok oq ik iq) HR.out (by omega) (.string S.owner) (.slice V.a0 V.l0.length V.c0) (.slice V.a1 V.l1.length V.c1) (.slice V.a2 V.l2.length V.c2) (.slice ao S.L.length cap) (.int .i64 S.req))
                      unfold set6 at z6 HF
                      clear c0 c1 c2 c3 c4 c5 d0 d1 d2 d3 d4 d5 g0 g1 g2 g3 g4 g5
                      generalize (((((W8.setCell _ _).setCell _ _).setCell _ _).setCell _ _).setCell _ _).setCell _ _ = WF at z6 HF ⊢
                      obtain ⟨z0, z1, z2, z3, z4, z5⟩ := z6
                      refine bodyPost_ret (v := .tuple #[.agg #[.string S.owner, .slice V.a0 V.l0.length V.c0, .slice V.a1 V.l1.length V.c1, .slice V.a2 V.l2.length V.c2, .slice ao S.L.length cap, .int .i64 S.req], .int .i64 we]) ?_ rfl HF.out
                      simp [results, Tryz.results29, go_sem, z0, z1, z2, z3, z4, z5]
        · have HR : Hid (refSubst (fV V) S ok oq ik iq = (2, S)) := Lib.hid (by unfold refSubst; rw [if_neg (by simp [HTK.out]), if_neg HI.out, if_neg HKK.out, if_pos ha])
          have HWD : Hid (decide (1 ≤ iq ∧ iq ≤ 1000000000000000) = false) := Lib.hid (decide_eq_false ha)
          clear ha
          obtain ⟨c0, c1, c2, c3, c4, c5⟩ := HS3.out.box
          obtain ⟨⟨d0, d1, d2, d3, d4, d5⟩, g0, g1, g2, g3, g4, g5⟩ := zcells HS3.out.y
          go_wp2_with (go_at_call 53; refine (within_calls _ _).mono ?_; rintro e w' ⟨rfl, rfl⟩; rw [HWD.out])
          have z6 := six (set6_blk HS3.out.y (.string S.owner) (.slice V.a0 V.l0.length V.c0) (.slice V.a1 V.l1.length V.c1) (.slice V.a2 V.l2.length V.c2) (.slice ao S.L.length cap) (.int .i64 S.req))
          have HF := Lib.hid (HS3.out.post (r := refSubst (fV V) S ok oq ik iq) HR.out (by omega) (.string S.owner) (.slice V.a0 V.l0.length V.c0) (.slice V.a1 V.l1.length V.c1) (.slice V.a2 V.l2.length V.c2) (.slice ao S.L.length cap) (.int .i64 S.req))
          unfold set6 at z6 HF
          clear c0 c1 c2 c3 c4 c5 d0 d1 d2 d3 d4 d5 g0 g1 g2 g3 g4 g5
          generalize (((((W3.setCell _ _).setCell _ _).setCell _ _).setCell _ _).setCell _ _).setCell _ _ = WF at z6 HF ⊢
          obtain ⟨z0, z1, z2, z3, z4, z5⟩ := z6
          refine bodyPost_ret (v := .tuple #[.agg #[.string S.owner, .slice V.a0 V.l0.length V.c0, .slice V.a1 V.l1.length V.c1, .slice V.a2 V.l2.length V.c2, .slice ao S.L.length cap, .int .i64 S.req], .int .i64 2]) ?_ rfl HF.out
          simp [results, Tryz.results29, go_sem, z0, z1, z2, z3, z4, z5]
  · have HR : Hid (refSubst (fV V) S ok oq ik iq = (takesF S.L ok oq, S)) := Lib.hid (by unfold refSubst; rw [if_pos htk])
    have hz1 : (takesF S.L ok oq != 0) = true := by simp [htk]
    obtain ⟨c0, c1, c2, c3, c4, c5⟩ := HS2.out.box
    obtain ⟨⟨d0, d1, d2, d3, d4, d5⟩, g0, g1, g2, g3, g4, g5⟩ := zcells HS2.out.y
    go_wp2_with fail
    have z6 := six (set6_blk HS2.out.y (.string S.owner) (.slice V.a0 V.l0.length V.c0) (.slice V.a1 V.l1.length V.c1) (.slice V.a2 V.l2.length V.c2) (.slice ao S.L.length cap) (.int .i64 S.req))
    have HF := Lib.hid (HS2.out.post (r := refSubst (fV V) S ok oq ik iq) HR.out (by omega) (.string S.owner) (.slice V.a0 V.l0.length V.c0) (.slice V.a1 V.l1.length V.c1) (.slice V.a2 V.l2.length V.c2) (.slice ao S.L.length cap) (.int .i64 S.req))
    unfold set6 at z6 HF
    clear c0 c1 c2 c3 c4 c5 d0 d1 d2 d3 d4 d5 g0 g1 g2 g3 g4 g5
    generalize (((((W2.setCell _ _).setCell _ _).setCell _ _).setCell _ _).setCell _ _).setCell _ _ = WF at z6 HF ⊢
    obtain ⟨z0, z1, z2, z3, z4, z5⟩ := z6
    refine bodyPost_ret (v := .tuple #[.agg #[.string S.owner, .slice V.a0 V.l0.length V.c0, .slice V.a1 V.l1.length V.c1, .slice V.a2 V.l2.length V.c2, .slice ao S.L.length cap, .int .i64 S.req], .int .i64 (takesF S.L ok oq)]) ?_ rfl HF.out
    simp [results, Tryz.results29, go_sem, z0, z1, z2, z3, z4, z5]
end Go.Proofs.YtjjnljfphaimgaaGreatDoor.C
