/- Contracts and plain laws, without conditions beyond each theorem's own: giroref34.Release. (Printed by genref.py.) -/
import Derived.Test.YtjjnljfphaimgaaGreatDoorK08
set_option linter.all false
/- giroref34.Release. (Printed by genref.py.) -/
namespace Go.Proofs.YtjjnljfphaimgaaGreatDoor.C
open Go Go.RowKit Go.Shelf Go.Proofs

def refRelease (f : ByteArray → Int → Int × Int) (S : PS) (k : ByteArray) (n : Int) : Int × PS :=
  if takesF S.L k n ≠ 0 then (takesF S.L k n, S)
  else
    let R := wrest ⟨k, qty S.L k - n, (f k (qty S.L k - n)).1⟩ (qty S.L k - n == 0) S.L
    if 0 < qty R k ∧ (f k (qty R k)).2 ≠ 0 then ((f k (qty R k)).2, S)
    else if coverF f R S.req ≠ 0 then (coverF f R S.req, S)
    else (0, { S with L := R, value := (totF f R).1 })
theorem takes_zero {L : List Hold} {k : ByteArray} {n : Int} (h : takesF L k n = 0) : 1 ≤ n ∧ n ≤ 1000000000000000 ∧ n ≤ qty L k := by
  unfold takesF at h
  split at h
  · omega
  · split at h
    · omega
    · split at h
      · omega
      · omega
abbrev Held (w W : World) (b1 : Nat) (V : VS) (S : PS) (sl : Value) (B : Nat) : Prop :=
  W.cell? ⟨w.heap.size, 0, none⟩ = some (.string S.owner) ∧ W.cell? ⟨w.heap.size, 1, none⟩ = some (.slice V.a0 V.l0.length V.c0) ∧ W.cell? ⟨w.heap.size, 2, none⟩ = some (.slice V.a1 V.l1.length V.c1) ∧
    W.cell? ⟨w.heap.size, 3, none⟩ = some (.slice V.a2 V.l2.length V.c2) ∧ W.cell? ⟨w.heap.size, 4, none⟩ = some sl ∧ W.cell? ⟨w.heap.size, 5, none⟩ = some (.int .i64 S.req) ∧ RSt w W b1 V S sl B
theorem RSt.held {w W : World} {b1 : Nat} {V : VS} {S : PS} {sl : Value} {B : Nat} (h : RSt w W b1 V S sl B) : Held w W b1 V S sl B := by
  obtain ⟨c0, c1, c2, c3, c4, c5⟩ := h.box
  exact ⟨c0, c1, c2, c3, c4, c5, h⟩
theorem held_step {w W W' : World} {b1 : Nat} {V : VS} {S : PS} {sl : Value} {B : Nat} (h : Held w W b1 V S sl B) (hb : Below W.heap.size W W') : Held w W' b1 V S sl B := (h.2.2.2.2.2.2.step hb).held
theorem held_drew {w W : World} {b1 : Nat} {V : VS} {S : PS} {sl : Value} {B : Nat} (h : Held w W b1 V S sl B) : Held w W.drew b1 V S sl B := held_step h (Below.refl _ _).drew
theorem held_alloc {w W : World} {b1 : Nat} {V : VS} {S : PS} {sl : Value} {B : Nat} {o : Obj} (h : Held w W b1 V S sl B) : Held w (W.alloc o) b1 V S sl B := held_step h ((Below.refl _ _).alloc (Nat.le_refl _) _)
theorem qty_rng {L : List Hold} (h : ∀ x ∈ L, 0 ≤ x.q ∧ x.q ≤ 1000000000000000) (k : ByteArray) : 0 ≤ qty L k ∧ C.qty L k ≤ 1000000000000000 := by
  unfold C.qty
  cases e : find L k with
  | none => simp
  | some x => exact h x (find_mem e).1
theorem held_st {w W : World} {b1 : Nat} {V : VS} {S : PS} {sl : Value} {B : Nat} (h : Held w W b1 V S sl B) : RSt w W b1 V S sl B := h.2.2.2.2.2.2
theorem held_adr {w W : World} {b1 : Nat} {V : VS} {S : PS} {sl : Value} {B : Nat} {o : Obj} (h : Held w W.drew b1 V S sl B) : Held w (W.alloc o).drew b1 V S sl B := by
  have h1 : Below W.drew.heap.size W.drew (W.alloc o).drew := ((Below.refl _ _).alloc (Nat.le_refl _) o : Below W.drew.heap.size W.drew (W.drew.alloc o))
  exact held_step h h1
theorem held_set6 {w W : World} {b1 b2 : Nat} {V : VS} {S : PS} {sl : Value} {B : Nat} (h : Held w W b1 V S sl B) (hz : W.heap[b2]? = some (.cells zeroP 38 (0, 0))) (h1 : b1 < b2) (h2 : w.heap.size < b2) (v0 v1 v2 v3 v4 v5 : Value) :
    Held w (set6 W b2 v0 v1 v2 v3 v4 v5) b1 V S sl B := by
  have hr := h.2.2.2.2.2.2
  have hBh := hr.h
  exact RSt.held ⟨set6_keep hr.x (by omega) _ _ _ _ _ _, set6_keep hr.y (by omega) _ _ _ _ _ _, set6_below hr.b (by omega) _ _ _ _ _ _, set6_row hz hr.r _ _ _ _ _ _, hr.v.below (set6_below (Below.refl B W) (by omega) _ _ _ _ _ _), hr.h⟩
theorem held_y {w W : World} {b1 : Nat} {V : VS} {S : PS} {sl : Value} {B : Nat} (h : Held w W b1 V S sl B) : b1 < W.heap.size ∧ w.heap.size < W.heap.size := ⟨blk_lt h.2.2.2.2.2.2.y, blk_lt h.2.2.2.2.2.2.x⟩
theorem held_size {w W : World} {b1 : Nat} {V : VS} {S : PS} {sl : Value} {B : Nat} (h : Held w W b1 V S sl B) : w.heap.size ≤ W.heap.size := h.2.2.2.2.2.2.b.size
theorem held_r {w W : World} {b1 : Nat} {V : VS} {S : PS} {sl : Value} {B : Nat} (h : Held w W b1 V S sl B) : RowAt W B sl S.L := h.2.2.2.2.2.2.r
set_option maxRecDepth 100000 in
set_option maxHeartbeats 8000000 in
theorem refRelease_calls (w : World) (B : Nat) (V : VS) (S : PS) (sl : Value) (k : ByteArray) (n : Int) (hr : RowAt w B sl S.L) (hv : VAt w B V) (hB : B ≤ w.heap.size) (hL : LOk S.L) (hk : k.size ≤ maxLen)
    (hn0 : -9223372036854775808 ≤ n) (hn1 : n ≤ 9223372036854775807) :
    Calls Tryz.prog 19 #[rP V S sl, .string k, .int .i64 n] w (RefPost V B w (refRelease (fV V) S k n)) := by
  obtain ⟨q0, q1⟩ := hL.qty k
  obtain ⟨ao, cap, hsl, -⟩ := row_open hr
  have HS := Lib.hid (RSt.new w V S sl B hr hv hB)
  have HL := Lib.hid hL
  have hlen := hL.len
  clear hr hv hL
  subst hsl
  unfold rP
  unfold pBox zeroP at HS
  unfold VS.x0 VS.x1 VS.x2 at *
  go_enter Tryz.func19, Tryz.ntmps19
  go_wp2_with fail
  generalize (w.alloc (.cells #[.string S.owner, .slice V.a0 V.l0.length V.c0, .slice V.a1 V.l1.length V.c1, .slice V.a2 V.l2.length V.c2, .slice ao S.L.length cap, .int .i64 S.req] 38)).alloc (.cells #[.string ⟨#[]⟩, .slice none 0 0, .slice none 0 0, .slice none 0 0, .slice none 0 0, .int .i64 0] 38) = W1 at HS ⊢
  obtain ⟨c0, c1, c2, c3, c4, c5⟩ := HS.out.box
  go_wp2_with fail
  refine (takes_calls _ B V S (.slice ao S.L.length cap) k n HS.out.r (by omega)).mono ?_
  rintro e W2 ⟨rfl, hb⟩
  have HS2 := Lib.hid (HS.out.step hb)
  clear hb HS c0 c1 c2 c3 c4 c5
  by_cases htk : takesF S.L k n = 0
  · have HTK := Lib.hid htk
    obtain ⟨n0, n1, n2⟩ := takes_zero htk
    have hz : ((0 : Int) != 0) = false := rfl
    rw [htk]
    clear htk
    have HD : Held w W2.drew (w.heap.size + 1) V S (.slice ao S.L.length cap) B := held_drew HS2.out.held
    unfold Held at HD
    obtain ⟨R, hRE⟩ : ∃ R, R = wrest ⟨k, qty S.L k - n, (fV V k (qty S.L k - n)).1⟩ (qty S.L k - n == 0) S.L := ⟨_, rfl⟩
    have HRE := Lib.hid hRE
    have hRl : R.length ≤ S.L.length + 1 := by rw [hRE]; exact wrest_len _ _ _
    have HRQ : Hid (∀ x ∈ R, 0 ≤ x.q ∧ x.q ≤ 1000000000000000) := Lib.hid (by
      rw [hRE]
      exact wrest_mem (P := fun x => 0 ≤ x.q ∧ x.q ≤ 1000000000000000) ⟨by show 0 ≤ qty S.L k - n; omega, by show qty S.L k - n ≤ _; omega⟩ _ _ HL.out.q)
    have HREQ : Hid (refRelease (fV V) S k n = if 0 < qty R k ∧ (fV V k (qty R k)).2 ≠ 0 then ((fV V k (qty R k)).2, S)
        else if coverF (fV V) R S.req ≠ 0 then (coverF (fV V) R S.req, S) else (0, { S with L := R, value := (totF (fV V) R).1 })) := Lib.hid (by
      rw [hRE]; unfold refRelease; rw [if_neg (by simp [HTK.out])])
    clear hRE
    have hwr : IntKind.i64.wrap (qty S.L k - n) = qty S.L k - n := by rw [IntKind.wrap_i64]; omega
    go_wp2_with fail
    go_region_held3 (fun w' => w'.cell? ⟨w.heap.size, 0, none⟩ = some (.string S.owner) ∧ w'.cell? ⟨w.heap.size, 1, none⟩ = some (.slice V.a0 V.l0.length V.c0) ∧ w'.cell? ⟨w.heap.size, 2, none⟩ = some (.slice V.a1 V.l1.length V.c1) ∧
        w'.cell? ⟨w.heap.size, 3, none⟩ = some (.slice V.a2 V.l2.length V.c2) ∧ w'.cell? ⟨w.heap.size, 4, none⟩ = some (.slice ao S.L.length cap) ∧ w'.cell? ⟨w.heap.size, 5, none⟩ = some (.int .i64 S.req) ∧ RSt w w' (w.heap.size + 1) V S (.slice ao S.L.length cap) B)
      (first | with_reducible exact HD | with_reducible exact HH5 | with_reducible exact HH4 | with_reducible exact HH3 | with_reducible exact held_alloc (by assumption) | with_reducible exact held_adr (by assumption) | with_reducible trivial)
      (first
        | (go_at_call 18
           refine (rquantity_calls _ B V S (.slice ao S.L.length cap) k (held_r (by assumption)) (by omega)).mono ?_
           rintro e W3 ⟨rfl, hb⟩
           have HH3 := held_step (by assumption) hb
           have HK3 := Lib.hid (fun (b : Nat) (o : Obj) (h : _ = some o) => blk_keep (b := b) hb h (Nat.le_refl _))
           clear hb)
        | (go_at_call 45
           refine (with_calls _ B V S (.slice ao S.L.length cap) ⟨k, qty S.L k - n, (fV V k (qty S.L k - n)).1⟩ (held_r (by assumption)) (by omega) hk HL.out.key).mono ?_
           rintro e W4 ⟨sl2, rfl, hr2, hb⟩
           have HH4 := held_step (by assumption) hb
           have HR4 : Hid (RowAt W4 B sl2 (wrest ⟨k, qty S.L k - n, (fV V k (qty S.L k - n)).1⟩ (qty S.L k - n == 0) S.L)) := Lib.hid (row_mono hr2 (Nat.le_trans hB (held_size (by assumption))))
           have HK4 := Lib.hid (fun (b : Nat) (o : Obj) (h : _ = some o) => blk_keep (b := b) hb h (Nat.le_refl _))
           rw [← HRE.out] at HR4
           obtain ⟨ao2, cap2, hsl2, -⟩ := row_open HR4.out
           subst hsl2
           unfold rP
           unfold VS.x0 VS.x1 VS.x2
           have HL4 := Lib.hid (held_y HH4)
           have HL3 := Lib.hid (held_y HH3)
           have HL2 := Lib.hid (held_y HD)
           clear hb hr2
           try
             with_reducible have HZ0 := HK4.out _ _ (HK3.out _ _ (blk_drew (blk_new W2 (.cells #[.string ⟨#[]⟩, .slice none 0 0, .slice none 0 0, .slice none 0 0, .slice none 0 0, .int .i64 0] 38))))
             have HZ : Hid (W4.heap[W2.heap.size]? = some (.cells zeroP 38 (0, 0))) := Lib.hid HZ0
             clear HZ0
             obtain ⟨⟨d0, d1, d2, d3, d4, d5⟩, g0, g1, g2, g3, g4, g5⟩ := zcells HZ.out
             have HH5 := held_set6 HH4 HZ.out (HL2.out.1) (HL2.out.2) (.string S.owner) (.slice V.a0 V.l0.length V.c0) (.slice V.a1 V.l1.length V.c1) (.slice V.a2 V.l2.length V.c2) (.slice ao2 R.length cap2) (.int .i64 S.req)
             unfold set6 at HH5
           try
             with_reducible have HZ0 := HK4.out _ _ (blk_new W3 (.cells #[.string ⟨#[]⟩, .slice none 0 0, .slice none 0 0, .slice none 0 0, .slice none 0 0, .int .i64 0] 38))
             have HZ : Hid (W4.heap[W3.heap.size]? = some (.cells zeroP 38 (0, 0))) := Lib.hid HZ0
             clear HZ0
             obtain ⟨⟨d0, d1, d2, d3, d4, d5⟩, g0, g1, g2, g3, g4, g5⟩ := zcells HZ.out
             have HH5 := held_set6 HH4 HZ.out (HL3.out.1) (HL3.out.2) (.string S.owner) (.slice V.a0 V.l0.length V.c0) (.slice V.a1 V.l1.length V.c1) (.slice V.a2 V.l2.length V.c2) (.slice ao2 R.length cap2) (.int .i64 S.req)
             unfold set6 at HH5))
    all_goals
      first
        | (with_reducible have HZ' : Hid (W4.heap[W3.heap.size]? = some (.cells zeroP 38 (0, 0))) := HZ
           have HS5 := Lib.hid (held_st HH5)
           have HR5 := Lib.hid (set6_row HZ.out HR4.out (.string S.owner) (.slice V.a0 V.l0.length V.c0) (.slice V.a1 V.l1.length V.c1) (.slice V.a2 V.l2.length V.c2) (.slice ao2 R.length cap2) (.int .i64 S.req))
           have HB5 := Lib.hid (set6_blk HZ.out (.string S.owner) (.slice V.a0 V.l0.length V.c0) (.slice V.a1 V.l1.length V.c1) (.slice V.a2 V.l2.length V.c2) (.slice ao2 R.length cap2) (.int .i64 S.req))
           unfold set6 at HR5 HB5
           clear HZ' HZ HH5 d0 d1 d2 d3 d4 d5 g0 g1 g2 g3 g4 g5
           generalize (((((W4.setCell _ _).setCell _ _).setCell _ _).setCell _ _).setCell _ _).setCell _ _ = W5 at HS5 HR5 HB5 ⊢
           generalize W3.heap.size = b2 at HB5 ⊢)
        | (with_reducible have HZ' : Hid (W4.heap[W2.heap.size]? = some (.cells zeroP 38 (0, 0))) := HZ
           have HS5 := Lib.hid (held_st HH5)
           have HR5 := Lib.hid (set6_row HZ.out HR4.out (.string S.owner) (.slice V.a0 V.l0.length V.c0) (.slice V.a1 V.l1.length V.c1) (.slice V.a2 V.l2.length V.c2) (.slice ao2 R.length cap2) (.int .i64 S.req))
           have HB5 := Lib.hid (set6_blk HZ.out (.string S.owner) (.slice V.a0 V.l0.length V.c0) (.slice V.a1 V.l1.length V.c1) (.slice V.a2 V.l2.length V.c2) (.slice ao2 R.length cap2) (.int .i64 S.req))
           unfold set6 at HR5 HB5
           clear HZ' HZ HH5 d0 d1 d2 d3 d4 d5 g0 g1 g2 g3 g4 g5
           generalize (((((W4.setCell _ _).setCell _ _).setCell _ _).setCell _ _).setCell _ _).setCell _ _ = W5 at HS5 HR5 HB5 ⊢
           generalize W2.heap.size = b2 at HB5 ⊢)
        | (have HS5 := Lib.hid (held_st (held_alloc (o := .cells #[.string S.owner, .slice V.a0 V.l0.length V.c0, .slice V.a1 V.l1.length V.c1, .slice V.a2 V.l2.length V.c2, .slice ao2 R.length cap2, .int .i64 S.req] 38) HH4))
           have HR5 := Lib.hid (ownsRow_below HR4.out ((Below.refl W4.heap.size W4).alloc (Nat.le_refl _) (.cells #[.string S.owner, .slice V.a0 V.l0.length V.c0, .slice V.a1 V.l1.length V.c1, .slice V.a2 V.l2.length V.c2, .slice ao2 R.length cap2, .int .i64 S.req] 38)) (Nat.le_refl _))
           have HB5 := Lib.hid (blk_new W4 (.cells #[.string S.owner, .slice V.a0 V.l0.length V.c0, .slice V.a1 V.l1.length V.c1, .slice V.a2 V.l2.length V.c2, .slice ao2 R.length cap2, .int .i64 S.req] 38))
           generalize W4.alloc (.cells #[.string S.owner, .slice V.a0 V.l0.length V.c0, .slice V.a1 V.l1.length V.c1, .slice V.a2 V.l2.length V.c2, .slice ao2 R.length cap2, .int .i64 S.req] 38) = W5 at HS5 HR5 HB5 ⊢
           generalize W4.heap.size = b2 at HB5 ⊢)
      clear HD HH3 HH4 HK3 HK4 HL4 HL3 HL2 HR4
    all_goals
      clear hwr HRE
      obtain ⟨r0, r1⟩ := qty_rng HRQ.out k
      obtain ⟨e0, e1, e2, e3, e4, e5⟩ := six HB5.out
      go_wp2_with fail
      refine (rquantity_calls _ B V { S with L := R } (.slice ao2 R.length cap2) k HR5.out (by show R.length ≤ 2000; omega)).mono ?_
      rintro e W6 ⟨rfl, hb⟩
      have HS6 := Lib.hid (HS5.out.step hb)
      have HR6 := Lib.hid (ownsRow_below HR5.out hb (Nat.le_refl _))
      have HB6 := Lib.hid (blk_keep hb HB5.out (Nat.le_refl _))
      clear hb HS5 HR5 HB5 e0 e1 e2 e3 e4 e5
      simp only
      obtain ⟨e0, e1, e2, e3, e4, e5⟩ := six HB6.out
      obtain ⟨c0, c1, c2, c3, c4, c5⟩ := HS6.out.box
      generalize qty R k = qr at HREQ r0 r1 ⊢
      by_cases hqr : 0 < qr
      · go_wp2_with fail
        refine (rvalue_calls _ B V k qr HS6.out.v (Nat.le_trans HS6.out.h HS6.out.b.size) (by omega) (by omega)).mono ?_
        rintro e W7 ⟨rfl, hb⟩
        have HS7 := Lib.hid (HS6.out.step hb)
        have HR7 := Lib.hid (ownsRow_below HR6.out hb (Nat.le_refl _))
        have HB7 := Lib.hid (blk_keep hb HB6.out (Nat.le_refl _))
        clear hb HS6 HR6 HB6 e0 e1 e2 e3 e4 e5 c0 c1 c2 c3 c4 c5
        have hfe := fV_err V k qr
        generalize fV V k qr = vv at HREQ hfe ⊢
        obtain ⟨va, ve⟩ := vv
        simp only at HREQ hfe
        by_cases hve : ve = 0
        · subst hve
          have HREQ : Hid (refRelease (fV V) S k n = if coverF (fV V) R S.req ≠ 0 then (coverF (fV V) R S.req, S) else (0, { S with L := R, value := (totF (fV V) R).1 })) := Lib.hid (by rw [HREQ.out, if_neg (by simp)])
          obtain ⟨e0, e1, e2, e3, e4, e5⟩ := six HB7.out
          go_wp2_with fail
          refine (covers_calls _ B V { S with L := R } (.slice ao2 R.length cap2) HR7.out (by show R.length ≤ 2000; omega) HS7.out.v (Nat.le_trans HS7.out.h HS7.out.b.size) HRQ.out).mono ?_
          rintro e W9 ⟨rfl, hb⟩
          have HS9 := Lib.hid (HS7.out.step hb)
          have HR9 := Lib.hid (ownsRow_below HR7.out hb (Nat.le_refl _))
          have HB9 := Lib.hid (blk_keep hb HB7.out (Nat.le_refl _))
          clear hb HS7 HR7 HB7 e0 e1 e2 e3 e4 e5
          simp only
          generalize coverF (fV V) R S.req = te at HREQ ⊢
          by_cases hte : te = 0
          · subst hte
            have HR : Hid (refRelease (fV V) S k n = (0, { S with L := R, value := (totF (fV V) R).1 })) := Lib.hid (by rw [HREQ.out, if_neg (by simp)])
            obtain ⟨c0, c1, c2, c3, c4, c5⟩ := six HB9.out
            obtain ⟨⟨d0, d1, d2, d3, d4, d5⟩, g0, g1, g2, g3, g4, g5⟩ := zcells HS9.out.y
            go_wp2_with fail
            have z6 := six (set6_blk HS9.out.y (.string S.owner) (.slice V.a0 V.l0.length V.c0) (.slice V.a1 V.l1.length V.c1) (.slice V.a2 V.l2.length V.c2) (.slice ao2 R.length cap2) (.int .i64 S.req))
            have HF := Lib.hid (And.intro (set6_row HS9.out.y HR9.out (.string S.owner) (.slice V.a0 V.l0.length V.c0) (.slice V.a1 V.l1.length V.c1) (.slice V.a2 V.l2.length V.c2) (.slice ao2 R.length cap2) (.int .i64 S.req)) (set6_below HS9.out.b (B := w.heap.size) (b := w.heap.size + 1) (by omega) (.string S.owner) (.slice V.a0 V.l0.length V.c0) (.slice V.a1 V.l1.length V.c1) (.slice V.a2 V.l2.length V.c2) (.slice ao2 R.length cap2) (.int .i64 S.req)))
            unfold set6 at z6 HF
            clear c0 c1 c2 c3 c4 c5 d0 d1 d2 d3 d4 d5 g0 g1 g2 g3 g4 g5
            generalize (((((W9.setCell _ _).setCell _ _).setCell _ _).setCell _ _).setCell _ _).setCell _ _ = WF at z6 HF ⊢
            obtain ⟨z0, z1, z2, z3, z4, z5⟩ := z6
            refine bodyPost_ret (v := .tuple #[.agg #[.string S.owner, .slice V.a0 V.l0.length V.c0, .slice V.a1 V.l1.length V.c1, .slice V.a2 V.l2.length V.c2, .slice ao2 R.length cap2, .int .i64 S.req], .int .i64 0]) ?_ rfl ?_
            · simp [results, Tryz.results19, go_sem, z0, z1, z2, z3, z4, z5]
            · rw [HR.out]
              exact ⟨.slice ao2 R.length cap2, rfl, HF.out.1, HF.out.2⟩
          · have HR : Hid (refRelease (fV V) S k n = (te, S)) := Lib.hid (by rw [HREQ.out, if_pos hte])
            have hz1 : (te != 0) = true := by simp [hte]
            obtain ⟨c0, c1, c2, c3, c4, c5⟩ := HS9.out.box
            obtain ⟨⟨d0, d1, d2, d3, d4, d5⟩, g0, g1, g2, g3, g4, g5⟩ := zcells HS9.out.y
            go_wp2_with fail
            have z6 := six (set6_blk HS9.out.y (.string S.owner) (.slice V.a0 V.l0.length V.c0) (.slice V.a1 V.l1.length V.c1) (.slice V.a2 V.l2.length V.c2) (.slice ao S.L.length cap) (.int .i64 S.req))
            have HF := Lib.hid (HS9.out.post (r := refRelease (fV V) S k n) HR.out (by omega) (.string S.owner) (.slice V.a0 V.l0.length V.c0) (.slice V.a1 V.l1.length V.c1) (.slice V.a2 V.l2.length V.c2) (.slice ao S.L.length cap) (.int .i64 S.req))
            unfold set6 at z6 HF
            clear c0 c1 c2 c3 c4 c5 d0 d1 d2 d3 d4 d5 g0 g1 g2 g3 g4 g5
            generalize (((((W9.setCell _ _).setCell _ _).setCell _ _).setCell _ _).setCell _ _).setCell _ _ = WF at z6 HF ⊢
            obtain ⟨z0, z1, z2, z3, z4, z5⟩ := z6
            refine bodyPost_ret (v := .tuple #[.agg #[.string S.owner, .slice V.a0 V.l0.length V.c0, .slice V.a1 V.l1.length V.c1, .slice V.a2 V.l2.length V.c2, .slice ao S.L.length cap, .int .i64 S.req], .int .i64 te]) ?_ rfl HF.out
            simp [results, Tryz.results19, go_sem, z0, z1, z2, z3, z4, z5]
        · have HR : Hid (refRelease (fV V) S k n = (ve, S)) := Lib.hid (by rw [HREQ.out, if_pos ⟨hqr, hve⟩])
          have hz1 : (ve != 0) = true := by simp [hve]
          obtain ⟨c0, c1, c2, c3, c4, c5⟩ := HS7.out.box
          obtain ⟨⟨d0, d1, d2, d3, d4, d5⟩, g0, g1, g2, g3, g4, g5⟩ := zcells HS7.out.y
          go_wp2_with fail
          have z6 := six (set6_blk HS7.out.y (.string S.owner) (.slice V.a0 V.l0.length V.c0) (.slice V.a1 V.l1.length V.c1) (.slice V.a2 V.l2.length V.c2) (.slice ao S.L.length cap) (.int .i64 S.req))
          have HF := Lib.hid (HS7.out.post (r := refRelease (fV V) S k n) HR.out (by omega) (.string S.owner) (.slice V.a0 V.l0.length V.c0) (.slice V.a1 V.l1.length V.c1) (.slice V.a2 V.l2.length V.c2) (.slice ao S.L.length cap) (.int .i64 S.req))
          unfold set6 at z6 HF
          clear c0 c1 c2 c3 c4 c5 d0 d1 d2 d3 d4 d5 g0 g1 g2 g3 g4 g5
          generalize (((((W7.setCell _ _).setCell _ _).setCell _ _).setCell _ _).setCell _ _).setCell _ _ = WF at z6 HF ⊢
          obtain ⟨z0, z1, z2, z3, z4, z5⟩ := z6
          refine bodyPost_ret (v := .tuple #[.agg #[.string S.owner, .slice V.a0 V.l0.length V.c0, .slice V.a1 V.l1.length V.c1, .slice V.a2 V.l2.length V.c2, .slice ao S.L.length cap, .int .i64 S.req], .int .i64 ve]) ?_ rfl HF.out
          simp [results, Tryz.results19, go_sem, z0, z1, z2, z3, z4, z5]
      · have HREQ : Hid (refRelease (fV V) S k n = if coverF (fV V) R S.req ≠ 0 then (coverF (fV V) R S.req, S) else (0, { S with L := R, value := (totF (fV V) R).1 })) := Lib.hid (by rw [HREQ.out, if_neg (by omega)])
        clear e0 e1 e2 e3 e4 e5 c0 c1 c2 c3 c4 c5
        obtain ⟨e0, e1, e2, e3, e4, e5⟩ := six HB6.out
        go_wp2_with fail
        refine (covers_calls _ B V { S with L := R } (.slice ao2 R.length cap2) HR6.out (by show R.length ≤ 2000; omega) HS6.out.v (Nat.le_trans HS6.out.h HS6.out.b.size) HRQ.out).mono ?_
        rintro e W9 ⟨rfl, hb⟩
        have HS9 := Lib.hid (HS6.out.step hb)
        have HR9 := Lib.hid (ownsRow_below HR6.out hb (Nat.le_refl _))
        have HB9 := Lib.hid (blk_keep hb HB6.out (Nat.le_refl _))
        clear hb HS6 HR6 HB6 e0 e1 e2 e3 e4 e5
        simp only
        generalize coverF (fV V) R S.req = te at HREQ ⊢
        by_cases hte : te = 0
        · subst hte
          have HR : Hid (refRelease (fV V) S k n = (0, { S with L := R, value := (totF (fV V) R).1 })) := Lib.hid (by rw [HREQ.out, if_neg (by simp)])
          obtain ⟨c0, c1, c2, c3, c4, c5⟩ := six HB9.out
          obtain ⟨⟨d0, d1, d2, d3, d4, d5⟩, g0, g1, g2, g3, g4, g5⟩ := zcells HS9.out.y
          go_wp2_with fail
          have z6 := six (set6_blk HS9.out.y (.string S.owner) (.slice V.a0 V.l0.length V.c0) (.slice V.a1 V.l1.length V.c1) (.slice V.a2 V.l2.length V.c2) (.slice ao2 R.length cap2) (.int .i64 S.req))
          have HF := Lib.hid (And.intro (set6_row HS9.out.y HR9.out (.string S.owner) (.slice V.a0 V.l0.length V.c0) (.slice V.a1 V.l1.length V.c1) (.slice V.a2 V.l2.length V.c2) (.slice ao2 R.length cap2) (.int .i64 S.req)) (set6_below HS9.out.b (B := w.heap.size) (b := w.heap.size + 1) (by omega) (.string S.owner) (.slice V.a0 V.l0.length V.c0) (.slice V.a1 V.l1.length V.c1) (.slice V.a2 V.l2.length V.c2) (.slice ao2 R.length cap2) (.int .i64 S.req)))
          unfold set6 at z6 HF
          clear c0 c1 c2 c3 c4 c5 d0 d1 d2 d3 d4 d5 g0 g1 g2 g3 g4 g5
          generalize (((((W9.setCell _ _).setCell _ _).setCell _ _).setCell _ _).setCell _ _).setCell _ _ = WF at z6 HF ⊢
          obtain ⟨z0, z1, z2, z3, z4, z5⟩ := z6
          refine bodyPost_ret (v := .tuple #[.agg #[.string S.owner, .slice V.a0 V.l0.length V.c0, .slice V.a1 V.l1.length V.c1, .slice V.a2 V.l2.length V.c2, .slice ao2 R.length cap2, .int .i64 S.req], .int .i64 0]) ?_ rfl ?_
          · simp [results, Tryz.results19, go_sem, z0, z1, z2, z3, z4, z5]
          · rw [HR.out]
            exact ⟨.slice ao2 R.length cap2, rfl, HF.out.1, HF.out.2⟩
        · have HR : Hid (refRelease (fV V) S k n = (te, S)) := Lib.hid (by rw [HREQ.out, if_pos hte])
          have hz1 : (te != 0) = true := by simp [hte]
          obtain ⟨c0, c1, c2, c3, c4, c5⟩ := HS9.out.box
          obtain ⟨⟨d0, d1, d2, d3, d4, d5⟩, g0, g1, g2, g3, g4, g5⟩ := zcells HS9.out.y
          go_wp2_with fail
          have z6 := six (set6_blk HS9.out.y (.string S.owner) (.slice V.a0 V.l0.length V.c0) (.slice V.a1 V.l1.length V.c1) (.slice V.a2 V.l2.length V.c2) (.slice ao S.L.length cap) (.int .i64 S.req))
          have HF := Lib.hid (HS9.out.post (r := refRelease (fV V) S k n) HR.out (by omega) (.string S.owner) (.slice V.a0 V.l0.length V.c0) (.slice V.a1 V.l1.length V.c1) (.slice V.a2 V.l2.length V.c2) (.slice ao S.L.length cap) (.int .i64 S.req))
          unfold set6 at z6 HF
          clear c0 c1 c2 c3 c4 c5 d0 d1 d2 d3 d4 d5 g0 g1 g2 g3 g4 g5
          generalize (((((W9.setCell _ _).setCell _ _).setCell _ _).setCell _ _).setCell _ _).setCell _ _ = WF at z6 HF ⊢
          obtain ⟨z0, z1, z2, z3, z4, z5⟩ := z6
          refine bodyPost_ret (v := .tuple #[.agg #[.string S.owner, .slice V.a0 V.l0.length V.c0, .slice V.a1 V.l1.length V.c1, .slice V.a2 V.l2.length V.c2, .slice ao S.L.length cap, .int .i64 S.req], .int .i64 te]) ?_ rfl HF.out
          simp [results, Tryz.results19, go_sem, z0, z1, z2, z3, z4, z5]
  · have HR : Hid (refRelease (fV V) S k n = (takesF S.L k n, S)) := Lib.hid (by unfold refRelease; rw [if_pos htk])
    have hz1 : (takesF S.L k n != 0) = true := by simp [htk]
    obtain ⟨c0, c1, c2, c3, c4, c5⟩ := HS2.out.box
    obtain ⟨⟨d0, d1, d2, d3, d4, d5⟩, g0, g1, g2, g3, g4, g5⟩ := zcells HS2.out.y
    go_wp2_with fail
    have z6 := six (set6_blk HS2.out.y (.string S.owner) (.slice V.a0 V.l0.length V.c0) (.slice V.a1 V.l1.length V.c1) (.slice V.a2 V.l2.length V.c2) (.slice ao S.L.length cap) (.int .i64 S.req))
    have HF := Lib.hid (HS2.out.post (r := refRelease (fV V) S k n) HR.out (by omega) (.string S.owner) (.slice V.a0 V.l0.length V.c0) (.slice V.a1 V.l1.length V.c1) (.slice V.a2 V.l2.length V.c2) (.slice ao S.L.length cap) (.int .i64 S.req))
    unfold set6 at z6 HF
    clear c0 c1 c2 c3 c4 c5 d0 d1 d2 d3 d4 d5 g0 g1 g2 g3 g4 g5
    generalize (((((W2.setCell _ _).setCell _ _).setCell _ _).setCell _ _).setCell _ _).setCell _ _ = WF at z6 HF ⊢
    obtain ⟨z0, z1, z2, z3, z4, z5⟩ := z6
    refine bodyPost_ret (v := .tuple #[.agg #[.string S.owner, .slice V.a0 V.l0.length V.c0, .slice V.a1 V.l1.length V.c1, .slice V.a2 V.l2.length V.c2, .slice ao S.L.length cap, .int .i64 S.req], .int .i64 (takesF S.L k n)]) ?_ rfl HF.out
    simp [results, Tryz.results19, go_sem, z0, z1, z2, z3, z4, z5]
end Go.Proofs.YtjjnljfphaimgaaGreatDoor.C
