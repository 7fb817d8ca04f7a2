/- Contracts and plain laws, without conditions beyond each theorem's own: giroref34.with. Plain laws of lists of holdings. giroref34.Pledge: and the words for the reference's operations. -/
import Derived.Test.YtjjnljfphaimgaaGreatDoorK06
set_option linter.all false
/- giroref34.with. -/
namespace Go.Proofs.YtjjnljfphaimgaaGreatDoor.C
open Go Go.RowKit Go.Shelf Go.Proofs

def wrest (x : Hold) : Bool → List Hold → List Hold
  | d, [] => if d then [] else [x]
  | true, y :: r => if y.key = x.key then wrest x true r else y :: wrest x true r
  | false, y :: r => if kbefore x.key y.key then x :: (if y.key = x.key then wrest x true r else y :: wrest x true r)
      else if y.key = x.key then x :: wrest x true r else y :: wrest x false r
theorem wrest_true_len (x : Hold) : ∀ (L : List Hold), (wrest x true L).length ≤ L.length
  | [] => by unfold wrest; simp
  | y :: r => by
    have := wrest_true_len x r
    unfold wrest; split <;> simp <;> omega
theorem wrest_len (x : Hold) : ∀ (d : Bool) (L : List Hold), (wrest x d L).length ≤ L.length + 1
  | d, [] => by unfold wrest; split <;> simp
  | true, y :: r => Nat.le_succ_of_le (wrest_true_len x _)
  | false, y :: r => by
    have := wrest_true_len x r
    have := wrest_len x false r
    unfold wrest; split
    · split <;> simp <;> omega
    · split <;> simp <;> omega
theorem infoL : (Tryz.prog.info? 45).map (fun i => (i.zero, i.size, i.bytes)) = some (some (.agg #[.string ⟨#[]⟩, .int .i64 0]), 2, 24) := by kernel_rfl
theorem posRow_append (L : List Hold) (h : Hold) : posRow (L ++ [h]) = posRow L ++ [.string h.key, .int .i64 h.q] := by
  unfold posRow; rw [List.flatMap_append]; rfl
theorem row_snoc {w : World} {B : Nat} {v : Value} {O : List Hold} {x : Hold} (h : w.ownsRow B 45 2 v (O.length + 1) (posRow O ++ [.string x.key, .int .i64 x.q])) : RowAt w B v (O ++ [x]) := by
  unfold RowAt
  rw [posRow_append]
  simpa using h
theorem row_set {w : World} {B : Nat} {v : Value} {L : List Hold} (h : RowAt w B v L) {a : Addr} (ha : a.block < B) (u : Value) : RowAt (w.setCell a u) B v L := by
  obtain ⟨r1, r2⟩ := h
  refine ⟨r1, ?_⟩
  rcases r2 with r2 | ⟨g, cap, cur, r3, r4, r5, r6⟩
  · exact Or.inl r2
  · exact Or.inr ⟨g, cap, cur, r3, r4, (Below.heap_setCell w a u g (by omega)).trans r5, r6⟩
theorem row_mono {w : World} {B B' : Nat} {v : Value} {L : List Hold} (h : RowAt w B v L) (hb : B' ≤ B) : RowAt w B' v L :=
  ⟨h.1, h.2.imp id fun ⟨g, cap, cur, h1, h2, h3⟩ => ⟨g, cap, cur, h1, Nat.le_trans hb h2, h3⟩⟩
theorem kbefore_ne {a b : ByteArray} (h : kbefore a b = true) : b ≠ a := fun e => by subst e; rw [kbefore_irrefl] at h; cases h

set_option maxRecDepth 100000 in
set_option maxHeartbeats 8000000 in
theorem with_calls (w : World) (B : Nat) (V : VS) (S : PS) (sl : Value) (x : Hold) (h : RowAt w B sl S.L) (hl : S.L.length ≤ 2000) (hk : x.key.size ≤ maxLen) (hks : ∀ y ∈ S.L, y.key.size ≤ maxLen) :
    Calls Tryz.prog 45 #[rP V S sl, .string x.key, .int .i64 x.q] w fun e w' =>
      ∃ sl', e = .returned (rP V S sl') ∧ RowAt w' w.heap.size sl' (wrest x (x.q == 0) S.L) ∧ Below w.heap.size w w' := by
  obtain ⟨i0, hi, hz0, hz1, hz2⟩ := info_parts infoL
  obtain ⟨ao, cap, rfl, hc⟩ := row_open h
  clear h
  obtain ⟨xk, xq, xv⟩ := x
  simp only at hk
  have HKS := Lib.hid hks
  clear hks
  unfold rP
  have HC := Lib.hid ((hc.alloc (pBox V S (.slice ao S.L.length cap))).alloc (.cells #[.string ⟨#[]⟩, .slice none 0 0, .slice none 0 0, .slice none 0 0, .slice none 0 0, .int .i64 0] 38))
  clear hc
  have HB0 := Lib.hid (((Below.refl w.heap.size w).alloc (Nat.le_refl _) (pBox V S (.slice ao S.L.length cap))).alloc (by simp) (.cells #[.string ⟨#[]⟩, .slice none 0 0, .slice none 0 0, .slice none 0 0, .slice none 0 0, .int .i64 0] 38))
  have HX : Hid (boxAt _ w.heap.size V S (.slice ao S.L.length cap)) := Lib.hid (blk_alloc (blk_new w (pBox V S (.slice ao S.L.length cap))) (.cells #[.string ⟨#[]⟩, .slice none 0 0, .slice none 0 0, .slice none 0 0, .slice none 0 0, .int .i64 0] 38))
  have HY : Hid (((w.alloc (pBox V S (.slice ao S.L.length cap))).alloc (.cells #[.string ⟨#[]⟩, .slice none 0 0, .slice none 0 0, .slice none 0 0, .slice none 0 0, .int .i64 0] 38)).heap[w.heap.size + 1]? = some (.cells #[.string ⟨#[]⟩, .slice none 0 0, .slice none 0 0, .slice none 0 0, .slice none 0 0, .int .i64 0] 38 (0, 0))) := by
    have := blk_new (w.alloc (pBox V S (.slice ao S.L.length cap))) (.cells #[.string ⟨#[]⟩, .slice none 0 0, .slice none 0 0, .slice none 0 0, .slice none 0 0, .int .i64 0] 38)
    rw [show (w.alloc (pBox V S (.slice ao S.L.length cap))).heap.size = w.heap.size + 1 from by simp] at this
    exact this
  unfold pBox at HC HB0 HX HY
  go_enter Tryz.func45, Tryz.ntmps45
  go_wp2
  generalize (w.alloc (.cells #[.string S.owner, V.x0, V.x1, V.x2, .slice ao S.L.length cap, .int .i64 S.req] 38)).alloc (.cells #[.string ⟨#[]⟩, .slice none 0 0, .slice none 0 0, .slice none 0 0, .slice none 0 0, .int .i64 0] 38) = W1 at HC HB0 HX HY ⊢
  have HL0 : Hid ((wrest ⟨xk, xq, xv⟩ (xq == 0) S.L).length ≤ 2001) := Lib.hid (by have := wrest_len ⟨xk, xq, xv⟩ (xq == 0) S.L; omega)
  generalize hR : wrest ⟨xk, xq, xv⟩ (xq == 0) S.L = R at HL0 ⊢
  have HR := Lib.hid hR
  clear hR
  have hb1 := blk_lt HY.out
  go_loopw [7, 8, 9] (fun v7 v8 v9 wr => ∃ i : Nat, ∃ O : List Hold, ∃ d : Bool, i ≤ S.L.length ∧ v9 = .int .i64 i ∧ v8 = .bool d ∧ O.length ≤ 2001 ∧ Hid (O ++ wrest ⟨xk, xq, xv⟩ d (S.L.drop i) = R) ∧ Hid (RowAt wr W1.heap.size v7 O) ∧ Hid (Below W1.heap.size W1 wr)) (fun _ _ v9 _ => S.L.length - (intOf v9).toNat)
  case atStart => exact ⟨0, [], xq == 0, Nat.zero_le _, rfl, rfl, by simp, Lib.hid (by simpa using HR.out), Lib.hid (World.ownsRow_nil _ _ _ _), Lib.hid (Below.refl _ _)⟩
  case round =>
    obtain ⟨i, O, d, hin, rfl, rfl, hOl, HO, HRow, HWr⟩ := hrel
    by_cases hlt : i < S.L.length
    · have HOL : Hid ((O ++ wrest ⟨xk, xq, xv⟩ d (S.L.drop i)).length ≤ 2001) := Lib.hid (by rw [HO.out]; exact HL0.out)
      rw [List.drop_eq_getElem_cons hlt] at HO HOL
      have hky := HKS.out _ (List.getElem_mem hlt)
      have HXr : Hid (boxAt wr w.heap.size V S (.slice ao S.L.length cap)) := Lib.hid (blk_keep HWr.out HX.out (Nat.le_refl _))
      have HCr := Lib.hid (HC.out.below HWr.out)
      obtain ⟨g, e0, y0, y1⟩ := HCr.out i hlt
      subst e0
      have x4 := HXr.out.cells.2.2.2
      have HY0 : Hid (∀ w', Below W1.heap.size W1 w' → w'.cell? ⟨g, i * 2, none⟩ = some (.string S.L[i].key) ∧ w'.cell? ⟨g, i * 2 + 1, none⟩ = some (.int .i64 S.L[i].q) ∧ w'.cell? ⟨w.heap.size, 4, none⟩ = some (.slice (some ⟨g, 0, none⟩) S.L.length cap)) := Lib.hid (by
        intro w' hw'
        obtain ⟨c1, c2, c3, c4, c5, c6⟩ := totS (i := i) (blk_keep hw' HX.out (Nat.le_refl _) : boxAt w' w.heap.size V S _) (HC.out.below hw') hlt rfl
        exact ⟨c5, c6, c4⟩)
      generalize S.L[i] = hd at y0 y1 HO hky HY0 HOL
      obtain ⟨hk', hq', hv'⟩ := hd
      simp only at y0 y1 HO hky HY0 HOL
      cases d
      · cases hlb : kbefore xk hk'
        · have HLB := Lib.hid hlb
          by_cases hkk : hk' = xk
          · have HO' : Hid ((O ++ [⟨xk, xq, xv⟩]) ++ wrest ⟨xk, xq, xv⟩ true (S.L.drop (i + 1)) = R) := Lib.hid (by
              have := HO.out
              unfold wrest at this
              rw [if_neg (by rw [hlb]; simp), if_pos hkk] at this
              rw [← this]; simp)
            have hOl2 : O.length + 1 ≤ 2001 := by
              have h1 := HOL.out; rw [HO.out, ← HO'.out] at h1; simp at h1; omega
            have e1 : (hk' == xk) = true := by rw [ba_beq']; exact decide_eq_true hkk
            have e2 : (hk'.toList == xk.toList) = true := by rw [ba_beq2]; exact decide_eq_true hkk
            clear hlb hkk
            go_wp2_with (first
              | (go_at_call 58; refine (less_calls _ _ _ hk hky).mono ?_; rintro e wl ⟨rfl, hb⟩; rw [HLB.out]; have HRw := Lib.hid (ownsRow_below HRow.out hb (Nat.le_refl _)); have HWw := Lib.hid (bstep HWr.out hb HWr.out.size); clear hb x4; obtain ⟨z0, z1, x4⟩ := HY0.out _ HWw.out)
              | (at_builtin; refine wpList_append_own _ rfl _ _ 36 rfl W1.heap.size 45 i0 (.agg #[.string ⟨#[]⟩, .int .i64 0]) 2 24 Tryz.underlying36 hi hz0 hz1 hz2 rfl (by decide) _ _ _ rfl (HRw.out.alloc _) ⟨wl.heap.size, 0, none⟩ 1 1 [.string xk, .int .i64 xq] rfl rfl ?c1 ?c2 ?c3 ?c4 ?c5 ?_; rotate_right; intro v' w3 hown3 hgr3 _))
            case roundEnd =>
              refine ⟨⟨i + 1, O ++ [⟨xk, xq, xv⟩], true, by omega, by go_num, rfl, by simp; omega, Lib.hid HO'.out, Lib.hid ?_, Lib.hid ?_⟩, by simp [intOf]; omega⟩
              · exact row_snoc hown3
              · exact (((HWw.out.alloc HWw.out.size _).grown hgr3 (by have := HWw.out.size; simp; omega) fun q hq => (HRw.out.lt q hq).1))
            case c1 => exact World.news_of_block (cs := #[.string xk, .int .i64 xq]) (blk_new wl _)
            case c2 => simp [Value.oneCell']
            case c3 => unfold maxLen; omega
            case c4 => omega
            case c5 => have := HWw.out.size; simp; omega
          · have HO' : Hid ((O ++ [⟨hk', hq', hv'⟩]) ++ wrest ⟨xk, xq, xv⟩ false (S.L.drop (i + 1)) = R) := Lib.hid (by
              have := HO.out
              unfold wrest at this
              rw [if_neg (by rw [hlb]; simp), if_neg hkk] at this
              rw [← this]; simp)
            have hOl2 : O.length + 1 ≤ 2001 := by
              have h1 := HOL.out; rw [HO.out, ← HO'.out] at h1; simp at h1; omega
            have e1 : (hk' == xk) = false := by rw [ba_beq']; exact decide_eq_false hkk
            have e2 : (hk'.toList == xk.toList) = false := by rw [ba_beq2]; exact decide_eq_false hkk
            clear hlb hkk
            go_wp2_with (first
              | (go_at_call 58; refine (less_calls _ _ _ hk hky).mono ?_; rintro e wl ⟨rfl, hb⟩; rw [HLB.out]; have HRw := Lib.hid (ownsRow_below HRow.out hb (Nat.le_refl _)); have HWw := Lib.hid (bstep HWr.out hb HWr.out.size); clear hb x4; obtain ⟨z0, z1, x4⟩ := HY0.out _ HWw.out)
              | (at_builtin; refine wpList_append_own _ rfl _ _ 36 rfl W1.heap.size 45 i0 (.agg #[.string ⟨#[]⟩, .int .i64 0]) 2 24 Tryz.underlying36 hi hz0 hz1 hz2 rfl (by decide) _ _ _ rfl (HRw.out.alloc _) ⟨wl.heap.size, 0, none⟩ 1 1 [.string hk', .int .i64 hq'] rfl rfl ?c1 ?c2 ?c3 ?c4 ?c5 ?_; rotate_right; intro v' w3 hown3 hgr3 _))
            case roundEnd =>
              refine ⟨⟨i + 1, O ++ [⟨hk', hq', hv'⟩], false, by omega, by go_num, rfl, by simp; omega, Lib.hid HO'.out, Lib.hid ?_, Lib.hid ?_⟩, by simp [intOf]; omega⟩
              · exact row_snoc hown3
              · exact (((HWw.out.alloc HWw.out.size _).grown hgr3 (by have := HWw.out.size; simp; omega) fun q hq => (HRw.out.lt q hq).1))
            case c1 => exact World.news_of_block (cs := #[.string hk', .int .i64 hq']) (blk_new wl _)
            case c2 => simp [Value.oneCell']
            case c3 => unfold maxLen; omega
            case c4 => omega
            case c5 => have := HWw.out.size; simp; omega
        · have HO' : Hid (((O ++ [⟨xk, xq, xv⟩]) ++ [⟨hk', hq', hv'⟩]) ++ wrest ⟨xk, xq, xv⟩ true (S.L.drop (i + 1)) = R) := Lib.hid (by
            have := HO.out
            unfold wrest at this
            rw [if_pos hlb, if_neg (kbefore_ne hlb)] at this
            rw [← this]; simp)
          have hOl2 : O.length + 2 ≤ 2001 := by
            have h1 := HOL.out; rw [HO.out, ← HO'.out] at h1; simp at h1; omega
          have e1 : (hk' == xk) = false := by rw [ba_beq']; exact decide_eq_false (kbefore_ne hlb)
          have e2 : (hk'.toList == xk.toList) = false := by rw [ba_beq2]; exact decide_eq_false (kbefore_ne hlb)
          have HLB := Lib.hid hlb
          clear hlb
          go_upto_region 8 with (first
            | (go_at_call 58; refine (less_calls _ _ _ hk hky).mono ?_; rintro e wl ⟨rfl, hb⟩; rw [HLB.out]; have HRw := Lib.hid (ownsRow_below HRow.out hb (Nat.le_refl _)); have HWw := Lib.hid (bstep HWr.out hb HWr.out.size); clear hb x4; obtain ⟨z0, z1, x4⟩ := HY0.out _ HWw.out)
            | (at_builtin; refine wpList_append_own _ rfl _ _ 36 rfl W1.heap.size 45 i0 (.agg #[.string ⟨#[]⟩, .int .i64 0]) 2 24 Tryz.underlying36 hi hz0 hz1 hz2 rfl (by decide) _ _ _ rfl (HRw.out.alloc _) ⟨wl.heap.size, 0, none⟩ 1 1 [.string xk, .int .i64 xq] rfl rfl ?c1 ?c2 ?c3 ?c4 ?c5 ?_; rotate_right; intro v' w3 hown3 hgr3 _))
          case c1 => exact World.news_of_block (cs := #[.string xk, .int .i64 xq]) (blk_new wl _)
          case c2 => simp [Value.oneCell']
          case c3 => unfold maxLen; omega
          case c4 => omega
          case c5 => have := HWw.out.size; simp; omega
          have HRow2 : Hid (RowAt w3 W1.heap.size v' (O ++ [⟨xk, xq, xv⟩])) := Lib.hid (row_snoc hown3)
          have HW2 := Lib.hid (((HWw.out.alloc HWw.out.size _).grown hgr3 (by have := HWw.out.size; simp; omega) fun q hq => (HRw.out.lt q hq).1))
          clear x4 z0 z1 y0 y1 hown3 hgr3
          obtain ⟨y0, y1, x4⟩ := HY0.out _ HW2.out
          have hOl3 : (O ++ [(⟨xk, xq, xv⟩ : Hold)]).length = O.length + 1 := by simp
          go_wp2_with (first
            | (at_builtin; refine wpList_append_own _ rfl _ _ 36 rfl W1.heap.size 45 i0 (.agg #[.string ⟨#[]⟩, .int .i64 0]) 2 24 Tryz.underlying36 hi hz0 hz1 hz2 rfl (by decide) _ _ _ rfl (HRow2.out.alloc _) ⟨w3.heap.size, 0, none⟩ 1 1 [.string hk', .int .i64 hq'] rfl rfl ?c1 ?c2 ?c3 ?c4 ?c5 ?_; rotate_right; intro v2 w4 hown4 hgr4 _))
          case roundEnd =>
            refine ⟨⟨i + 1, (O ++ [⟨xk, xq, xv⟩]) ++ [⟨hk', hq', hv'⟩], true, by omega, by go_num, rfl, by simp; omega, Lib.hid HO'.out, Lib.hid ?_, Lib.hid ?_⟩, by simp [intOf]; omega⟩
            · exact row_snoc (x := ⟨hk', hq', hv'⟩) (by simpa using hown4)
            · exact ((HW2.out.alloc HW2.out.size _).grown hgr4 (by have := HW2.out.size; simp; omega) fun q hq => (HRow2.out.lt q hq).1)
          case c1 => exact World.news_of_block (cs := #[.string hk', .int .i64 hq']) (blk_new w3 _)
          case c2 => simp [Value.oneCell']
          case c3 => unfold maxLen; omega
          case c4 => omega
          case c5 => have := HW2.out.size; simp; omega
      · by_cases hkk : hk' = xk
        · have HO' : Hid (O ++ wrest ⟨xk, xq, xv⟩ true (S.L.drop (i + 1)) = R) := Lib.hid (by
            have := HO.out
            unfold wrest at this
            rw [if_pos hkk] at this
            rw [← this])
          have e1 : (hk' == xk) = true := by rw [ba_beq']; exact decide_eq_true hkk
          have e2 : (hk'.toList == xk.toList) = true := by rw [ba_beq2]; exact decide_eq_true hkk
          clear hkk
          go_wp2
          exact ⟨⟨i + 1, O, true, by omega, by go_num, rfl, by omega, Lib.hid HO'.out, HRow, HWr⟩, by simp [intOf]; omega⟩
        · have HO' : Hid ((O ++ [⟨hk', hq', hv'⟩]) ++ wrest ⟨xk, xq, xv⟩ true (S.L.drop (i + 1)) = R) := Lib.hid (by
            have := HO.out
            unfold wrest at this
            rw [if_neg hkk] at this
            rw [← this]; simp)
          have hOl2 : O.length + 1 ≤ 2001 := by
            have h1 := HOL.out; rw [HO.out, ← HO'.out] at h1; simp at h1; omega
          have e1 : (hk' == xk) = false := by rw [ba_beq']; exact decide_eq_false hkk
          have e2 : (hk'.toList == xk.toList) = false := by rw [ba_beq2]; exact decide_eq_false hkk
          clear hkk
          go_wp2_with (first
            | (at_builtin; refine wpList_append_own _ rfl _ _ 36 rfl W1.heap.size 45 i0 (.agg #[.string ⟨#[]⟩, .int .i64 0]) 2 24 Tryz.underlying36 hi hz0 hz1 hz2 rfl (by decide) _ _ _ rfl (HRow.out.alloc _) ⟨wr.heap.size, 0, none⟩ 1 1 [.string hk', .int .i64 hq'] rfl rfl ?c1 ?c2 ?c3 ?c4 ?c5 ?_; rotate_right; intro v' w3 hown3 hgr3 _))
          case roundEnd =>
            refine ⟨⟨i + 1, O ++ [⟨hk', hq', hv'⟩], true, by omega, by go_num, rfl, by simp; omega, Lib.hid HO'.out, Lib.hid ?_, Lib.hid ?_⟩, by simp [intOf]; omega⟩
            · exact row_snoc hown3
            · exact (((HWr.out.alloc HWr.out.size _).grown hgr3 (by have := HWr.out.size; simp; omega) fun q hq => (HRow.out.lt q hq).1))
          case c1 => exact World.news_of_block (cs := #[.string hk', .int .i64 hq']) (blk_new wr _)
          case c2 => simp [Value.oneCell']
          case c3 => unfold maxLen; omega
          case c4 => omega
          case c5 => have := HWr.out.size; simp; omega
    · obtain rfl : i = S.L.length := by omega
      have HXr : Hid (boxAt wr w.heap.size V S (.slice ao S.L.length cap)) := Lib.hid (blk_keep HWr.out HX.out (Nat.le_refl _))
      have x4 := HXr.out.cells.2.2.2
      have HYr := Lib.hid (blk_keep HWr.out HY.out (Nat.le_refl _))
      rw [List.drop_length] at HO
      cases d
      · have HO' : Hid (O ++ [⟨xk, xq, xv⟩] = R) := HO
        have hOl2 : O.length + 1 ≤ 2001 := by
          have h1 := HL0.out; rw [← HO'.out] at h1; simpa using h1
        go_upto_region 14 with (first
          | (at_builtin; refine wpList_append_own _ rfl _ _ 36 rfl W1.heap.size 45 i0 (.agg #[.string ⟨#[]⟩, .int .i64 0]) 2 24 Tryz.underlying36 hi hz0 hz1 hz2 rfl (by decide) _ _ _ rfl (HRow.out.alloc _) ⟨wr.heap.size, 0, none⟩ 1 1 [.string xk, .int .i64 xq] rfl rfl ?c1 ?c2 ?c3 ?c4 ?c5 ?_; rotate_right; intro v' w3 hown3 hgr3 _))
        case c1 => exact World.news_of_block (cs := #[.string xk, .int .i64 xq]) (blk_new wr _)
        case c2 => simp [Value.oneCell']
        case c3 => unfold maxLen; omega
        case c4 => omega
        case c5 => have := HWr.out.size; simp; omega
        have HRow2 : Hid (RowAt w3 W1.heap.size v' R) := Lib.hid (by rw [← HO'.out]; exact row_snoc hown3)
        have HW2 := Lib.hid (((HWr.out.alloc HWr.out.size _).grown hgr3 (by have := HWr.out.size; simp; omega) fun q hq => (HRow.out.lt q hq).1))
        clear hown3 hgr3 x4
        have HB3 := Lib.hid (HB0.out.trans (HW2.out.mono HB0.out.size))
        have HX3 : Hid (boxAt w3 w.heap.size V S (.slice ao S.L.length cap)) := Lib.hid (blk_keep HW2.out HX.out (Nat.le_refl _))
        have HY3 := Lib.hid (blk_keep HW2.out HY.out (Nat.le_refl _))
        have c0 := (blk_cell HX3.out 0).trans rfl
        have c1 := (blk_cell HX3.out 1).trans rfl
        have c2 := (blk_cell HX3.out 2).trans rfl
        have c3 := (blk_cell HX3.out 3).trans rfl
        have c4 := (blk_cell HX3.out 4).trans rfl
        have c5 := (blk_cell HX3.out 5).trans rfl
        have f4 := blk_frozen HX3.out 4
        have d0 := (blk_cell HY3.out 0).trans rfl
        have d1 := (blk_cell HY3.out 1).trans rfl
        have d2 := (blk_cell HY3.out 2).trans rfl
        have d3 := (blk_cell HY3.out 3).trans rfl
        have d4 := (blk_cell HY3.out 4).trans rfl
        have d5 := (blk_cell HY3.out 5).trans rfl
        have g0 := blk_frozen HY3.out 0
        have g1 := blk_frozen HY3.out 1
        have g2 := blk_frozen HY3.out 2
        have g3 := blk_frozen HY3.out 3
        have g4 := blk_frozen HY3.out 4
        have g5 := blk_frozen HY3.out 5
        obtain ⟨ao2, cap2, rfl, -⟩ := row_open HRow2.out
        unfold VS.x0 VS.x1 VS.x2 at *
        go_wp2
        have q0 := blk_other HY3.out (a := ⟨w.heap.size, 4, none⟩) (by simp) (.slice ao2 R.length cap2)
        have q1 := blk_set q0 0 (.string S.owner)
        have q2 := blk_set q1 1 (.slice V.a0 V.l0.length V.c0)
        have q3 := blk_set q2 2 (.slice V.a1 V.l1.length V.c1)
        have q4 := blk_set q3 3 (.slice V.a2 V.l2.length V.c2)
        have q5 := blk_set q4 4 (.slice ao2 R.length cap2)
        have q6 := blk_set q5 5 (.int .i64 S.req)
        have HRF := Lib.hid (row_set (row_set (row_set (row_set (row_set (row_set (row_set HRow2.out (a := ⟨w.heap.size, 4, none⟩) (by simp; omega) (.slice ao2 R.length cap2)) (a := ⟨w.heap.size + 1, 0, none⟩) (by simp; omega) (.string S.owner)) (a := ⟨w.heap.size + 1, 1, none⟩) (by simp; omega) (.slice V.a0 V.l0.length V.c0)) (a := ⟨w.heap.size + 1, 2, none⟩) (by simp; omega) (.slice V.a1 V.l1.length V.c1)) (a := ⟨w.heap.size + 1, 3, none⟩) (by simp; omega) (.slice V.a2 V.l2.length V.c2)) (a := ⟨w.heap.size + 1, 4, none⟩) (by simp; omega) (.slice ao2 R.length cap2)) (a := ⟨w.heap.size + 1, 5, none⟩) (by simp; omega) (.int .i64 S.req))
        have HBF := Lib.hid (Below.setCell (Below.setCell (Below.setCell (Below.setCell (Below.setCell (Below.setCell (Below.setCell HB3.out (p := ⟨w.heap.size, 4, none⟩) (by simp) (.slice ao2 R.length cap2)) (p := ⟨w.heap.size + 1, 0, none⟩) (by simp) (.string S.owner)) (p := ⟨w.heap.size + 1, 1, none⟩) (by simp) (.slice V.a0 V.l0.length V.c0)) (p := ⟨w.heap.size + 1, 2, none⟩) (by simp) (.slice V.a1 V.l1.length V.c1)) (p := ⟨w.heap.size + 1, 3, none⟩) (by simp) (.slice V.a2 V.l2.length V.c2)) (p := ⟨w.heap.size + 1, 4, none⟩) (by simp) (.slice ao2 R.length cap2)) (p := ⟨w.heap.size + 1, 5, none⟩) (by simp) (.int .i64 S.req))
        have HQ6 := Lib.hid q6
        clear q0 q1 q2 q3 q4 q5 q6 c0 c1 c2 c3 c4 c5 d0 d1 d2 d3 d4 d5 f4 g0 g1 g2 g3 g4 g5
        generalize ((((((w3.setCell _ _).setCell _ _).setCell _ _).setCell _ _).setCell _ _).setCell _ _).setCell _ _ = WF at HRF HBF HQ6 ⊢
        have z0 := (blk_cell HQ6.out 0).trans rfl
        have z1 := (blk_cell HQ6.out 1).trans rfl
        have z2 := (blk_cell HQ6.out 2).trans rfl
        have z3 := (blk_cell HQ6.out 3).trans rfl
        have z4 := (blk_cell HQ6.out 4).trans rfl
        have z5 := (blk_cell HQ6.out 5).trans rfl
        refine bodyPost_ret (v := .agg #[.string S.owner, .slice V.a0 V.l0.length V.c0, .slice V.a1 V.l1.length V.c1, .slice V.a2 V.l2.length V.c2, .slice ao2 R.length cap2, .int .i64 S.req]) ?_ rfl ?_
        · simp [results, Tryz.results45, go_sem, z0, z1, z2, z3, z4, z5]
        · exact ⟨.slice ao2 R.length cap2, rfl, by rw [HR.out]; exact row_mono HRF.out (by omega), HBF.out⟩
      · have HO' : Hid (O = R) := Lib.hid (by simpa [wrest] using HO.out)
        have HRow2 : Hid (RowAt wr W1.heap.size u7 R) := Lib.hid (by rw [← HO'.out]; exact HRow.out)
        go_upto_region 14 with fail
        obtain ⟨w3, hw3⟩ : ∃ w3 : World, w3 = wr := ⟨_, rfl⟩
        subst hw3
        have HW2 := Lib.hid HWr.out
        clear x4
        have HB3 := Lib.hid (HB0.out.trans (HW2.out.mono HB0.out.size))
        have HX3 : Hid (boxAt w3 w.heap.size V S (.slice ao S.L.length cap)) := Lib.hid (blk_keep HW2.out HX.out (Nat.le_refl _))
        have HY3 := Lib.hid (blk_keep HW2.out HY.out (Nat.le_refl _))
        have c0 := (blk_cell HX3.out 0).trans rfl
        have c1 := (blk_cell HX3.out 1).trans rfl
        have c2 := (blk_cell HX3.out 2).trans rfl
        have c3 := (blk_cell HX3.out 3).trans rfl
        have c4 := (blk_cell HX3.out 4).trans rfl
        have c5 := (blk_cell HX3.out 5).trans rfl
        have f4 := blk_frozen HX3.out 4
        have d0 := (blk_cell HY3.out 0).trans rfl
        have d1 := (blk_cell HY3.out 1).trans rfl
        have d2 := (blk_cell HY3.out 2).trans rfl
        have d3 := (blk_cell HY3.out 3).trans rfl
        have d4 := (blk_cell HY3.out 4).trans rfl
        have d5 := (blk_cell HY3.out 5).trans rfl
        have g0 := blk_frozen HY3.out 0
        have g1 := blk_frozen HY3.out 1
        have g2 := blk_frozen HY3.out 2
        have g3 := blk_frozen HY3.out 3
        have g4 := blk_frozen HY3.out 4
        have g5 := blk_frozen HY3.out 5
        obtain ⟨ao2, cap2, rfl, -⟩ := row_open HRow2.out
        unfold VS.x0 VS.x1 VS.x2 at *
        go_wp2
        have q0 := blk_other HY3.out (a := ⟨w.heap.size, 4, none⟩) (by simp) (.slice ao2 R.length cap2)
        have q1 := blk_set q0 0 (.string S.owner)
        have q2 := blk_set q1 1 (.slice V.a0 V.l0.length V.c0)
        have q3 := blk_set q2 2 (.slice V.a1 V.l1.length V.c1)
        have q4 := blk_set q3 3 (.slice V.a2 V.l2.length V.c2)
        have q5 := blk_set q4 4 (.slice ao2 R.length cap2)
        have q6 := blk_set q5 5 (.int .i64 S.req)
        have HRF := Lib.hid (row_set (row_set (row_set (row_set (row_set (row_set (row_set HRow2.out (a := ⟨w.heap.size, 4, none⟩) (by simp; omega) (.slice ao2 R.length cap2)) (a := ⟨w.heap.size + 1, 0, none⟩) (by simp; omega) (.string S.owner)) (a := ⟨w.heap.size + 1, 1, none⟩) (by simp; omega) (.slice V.a0 V.l0.length V.c0)) (a := ⟨w.heap.size + 1, 2, none⟩) (by simp; omega) (.slice V.a1 V.l1.length V.c1)) (a := ⟨w.heap.size + 1, 3, none⟩) (by simp; omega) (.slice V.a2 V.l2.length V.c2)) (a := ⟨w.heap.size + 1, 4, none⟩) (by simp; omega) (.slice ao2 R.length cap2)) (a := ⟨w.heap.size + 1, 5, none⟩) (by simp; omega) (.int .i64 S.req))
        have HBF := Lib.hid (Below.setCell (Below.setCell (Below.setCell (Below.setCell (Below.setCell (Below.setCell (Below.setCell HB3.out (p := ⟨w.heap.size, 4, none⟩) (by simp) (.slice ao2 R.length cap2)) (p := ⟨w.heap.size + 1, 0, none⟩) (by simp) (.string S.owner)) (p := ⟨w.heap.size + 1, 1, none⟩) (by simp) (.slice V.a0 V.l0.length V.c0)) (p := ⟨w.heap.size + 1, 2, none⟩) (by simp) (.slice V.a1 V.l1.length V.c1)) (p := ⟨w.heap.size + 1, 3, none⟩) (by simp) (.slice V.a2 V.l2.length V.c2)) (p := ⟨w.heap.size + 1, 4, none⟩) (by simp) (.slice ao2 R.length cap2)) (p := ⟨w.heap.size + 1, 5, none⟩) (by simp) (.int .i64 S.req))
        have HQ6 := Lib.hid q6
        clear q0 q1 q2 q3 q4 q5 q6 c0 c1 c2 c3 c4 c5 d0 d1 d2 d3 d4 d5 f4 g0 g1 g2 g3 g4 g5
        generalize ((((((w3.setCell _ _).setCell _ _).setCell _ _).setCell _ _).setCell _ _).setCell _ _).setCell _ _ = WF at HRF HBF HQ6 ⊢
        have z0 := (blk_cell HQ6.out 0).trans rfl
        have z1 := (blk_cell HQ6.out 1).trans rfl
        have z2 := (blk_cell HQ6.out 2).trans rfl
        have z3 := (blk_cell HQ6.out 3).trans rfl
        have z4 := (blk_cell HQ6.out 4).trans rfl
        have z5 := (blk_cell HQ6.out 5).trans rfl
        refine bodyPost_ret (v := .agg #[.string S.owner, .slice V.a0 V.l0.length V.c0, .slice V.a1 V.l1.length V.c1, .slice V.a2 V.l2.length V.c2, .slice ao2 R.length cap2, .int .i64 S.req]) ?_ rfl ?_
        · simp [results, Tryz.results45, go_sem, z0, z1, z2, z3, z4, z5]
        · exact ⟨.slice ao2 R.length cap2, rfl, by rw [HR.out]; exact row_mono HRF.out (by omega), HBF.out⟩
end Go.Proofs.YtjjnljfphaimgaaGreatDoor.C
/- Plain laws of lists of holdings. -/
namespace Go.Proofs.YtjjnljfphaimgaaGreatDoor.C
open Go Go.RowKit Go.Shelf Go.Proofs

abbrev Sorted (L : List Hold) : Prop := L.Pairwise (fun a b => kbefore a.key b.key = true)
theorem kbefore_trans {a b c : ByteArray} (h : kbefore a b = true) (h' : kbefore b c = true) : kbefore a c = true :=
  (bytesBefore_lt _ _).2 (List.lt_trans ((bytesBefore_lt _ _).1 h) ((bytesBefore_lt _ _).1 h'))
theorem bb_total : ∀ a b : List UInt8, bytesBefore a b = false → bytesBefore b a = false → a = b
  | [], [], _, _ => rfl
  | [], _ :: _, h, _ => by simp [bytesBefore] at h
  | _ :: _, [], _, h => by simp [bytesBefore] at h
  | x :: r, y :: s, h, h' => by
    simp only [bytesBefore, Bool.or_eq_false_iff, decide_eq_false_iff_not, Bool.and_eq_false_iff] at h h'
    have e : x = y := UInt8.le_antisymm (UInt8.not_lt.1 h'.1) (UInt8.not_lt.1 h.1)
    subst e
    simp only [beq_self_eq_true, Bool.true_eq_false, false_or] at h h'
    rw [bb_total r s h.2 h'.2]
theorem kbefore_total {a b : ByteArray} (h : kbefore a b = false) (h' : kbefore b a = false) : a = b := by
  have := bb_total _ _ h h'
  cases a; cases b
  simp only [ByteArray.mk.injEq]
  exact Array.toList_inj.1 this
theorem del_cons (y : Hold) (r : List Hold) (k : ByteArray) : del (y :: r) k = if y.key = k then del r k else y :: del r k := by
  unfold del
  rw [List.filter_cons]
  by_cases h : y.key = k <;> simp [h]
theorem wrest_true (x : Hold) : ∀ L : List Hold, wrest x true L = del L x.key
  | [] => rfl
  | y :: r => by rw [del_cons]; unfold wrest; rw [wrest_true x r]
theorem ins_first (x : Hold) : ∀ L : List Hold, (∀ z ∈ L, kbefore x.key z.key = true) → ins x L = x :: L
  | [], _ => rfl
  | y :: r, h => by unfold ins; rw [if_pos (h y (by simp))]
theorem del_notin {L : List Hold} {k : ByteArray} (h : ∀ y ∈ L, y.key ≠ k) : del L k = L := by
  unfold del; rw [List.filter_eq_self]; intro y hy; simpa using h y hy
theorem del_mem {L : List Hold} {k : ByteArray} {y : Hold} (h : y ∈ del L k) : y ∈ L ∧ y.key ≠ k := by
  unfold del at h; simpa using h
theorem wrest_false (x : Hold) : ∀ L : List Hold, Sorted L → wrest x false L = put L x
  | [], _ => rfl
  | y :: r, hs => by
    replace hs := List.pairwise_cons.1 hs
    unfold put
    rw [del_cons]
    unfold wrest
    rw [wrest_true]
    cases hb : kbefore x.key y.key
    · rw [if_neg (by simp)]
      by_cases hk : y.key = x.key
      · simp only [if_pos hk]
        rw [ins_first]
        intro z hz
        rw [← hk]; exact hs.1 z (del_mem hz).1
      · simp only [if_neg hk]
        rw [wrest_false x r hs.2]
        unfold put
        simp only [ins]
        rw [if_neg (by rw [hb]; simp)]
    · rw [if_pos rfl]
      have hk : y.key ≠ x.key := kbefore_ne hb
      simp only [if_neg hk]
      simp only [ins]
      rw [if_pos hb]
theorem wrest_upd (x : Hold) (L : List Hold) (hs : Sorted L) : wrest x (x.q == 0) L = updL L x := by
  unfold updL
  by_cases h : x.q = 0
  · rw [if_pos h, show (x.q == 0) = true from by simp [h], wrest_true]
  · rw [if_neg h, show (x.q == 0) = false from by simp [h], wrest_false x L hs]
theorem sorted_del {L : List Hold} (h : Sorted L) (k : ByteArray) : Sorted (del L k) := List.Pairwise.filter _ h
theorem ins_mem {x y : Hold} : ∀ {L : List Hold}, y ∈ ins x L ↔ y = x ∨ y ∈ L
  | [] => by simp [ins]
  | z :: r => by
    unfold ins; split
    · simp
    · rw [List.mem_cons, ins_mem, List.mem_cons]
      constructor
      · rintro (h | h | h)
        · exact Or.inr (Or.inl h)
        · exact Or.inl h
        · exact Or.inr (Or.inr h)
      · rintro (h | h | h)
        · exact Or.inr (Or.inl h)
        · exact Or.inl h
        · exact Or.inr (Or.inr h)
theorem sorted_ins {x : Hold} : ∀ {L : List Hold}, Sorted L → (∀ y ∈ L, y.key ≠ x.key) → Sorted (ins x L)
  | [], _, _ => by unfold ins; simp
  | y :: r, hs, hn => by
    have hs' := List.pairwise_cons.1 hs
    unfold ins
    cases hb : kbefore x.key y.key
    · rw [if_neg (by simp)]
      have hyx : kbefore y.key x.key = true := by
        cases h' : kbefore y.key x.key
        · exact absurd (kbefore_total h' hb) (hn y (by simp))
        · rfl
      rw [Sorted, List.pairwise_cons]
      refine ⟨?_, sorted_ins hs'.2 fun z hz => hn z (by simp [hz])⟩
      intro z hz
      rcases ins_mem.1 hz with rfl | hz
      · exact hyx
      · exact hs'.1 z hz
    · rw [if_pos rfl, Sorted, List.pairwise_cons]
      refine ⟨?_, hs⟩
      intro z hz
      rcases List.mem_cons.1 hz with rfl | hz
      · exact hb
      · exact kbefore_trans hb (hs'.1 z hz)
theorem sorted_upd {L : List Hold} (h : Sorted L) (x : Hold) : Sorted (updL L x) := by
  unfold updL; split
  · exact sorted_del h _
  · exact sorted_ins (sorted_del h _) fun y hy => (del_mem hy).2
theorem upd_mem {L : List Hold} {x y : Hold} (h : y ∈ updL L x) : (y = x ∧ x.q ≠ 0) ∨ (y ∈ L ∧ y.key ≠ x.key) := by
  unfold updL at h; split at h
  · exact Or.inr (del_mem h)
  · rename_i hq
    rcases ins_mem.1 h with rfl | h
    · exact Or.inl ⟨rfl, hq⟩
    · exact Or.inr (del_mem h)
theorem sumV_cons (y : Hold) (r : List Hold) : sumV (y :: r) = y.v + sumV r := by
  unfold sumV; rw [List.map_cons, List.foldl_cons, foldl_add]; omega
theorem find_cons (y : Hold) (r : List Hold) (k : ByteArray) : find (y :: r) k = if y.key = k then some y else find r k := by
  unfold find; rw [List.find?_cons]; by_cases h : y.key = k <;> simp [h]
theorem val_cons (y : Hold) (r : List Hold) (k : ByteArray) : val (y :: r) k = if y.key = k then y.v else val r k := by
  unfold val; rw [find_cons]; split <;> rfl
theorem qty_cons (y : Hold) (r : List Hold) (k : ByteArray) : qty (y :: r) k = if y.key = k then y.q else qty r k := by
  unfold qty; rw [find_cons]; split <;> rfl
theorem has_cons (y : Hold) (r : List Hold) (k : ByteArray) : has (y :: r) k = (decide (y.key = k) || has r k) := rfl
theorem sorted_tail_ne {y : Hold} {r : List Hold} (hs : Sorted (y :: r)) : ∀ z ∈ r, z.key ≠ y.key := fun z hz => kbefore_ne ((List.pairwise_cons.1 hs).1 z hz)
theorem sumV_del : ∀ {L : List Hold}, Sorted L → ∀ k, sumV (del L k) = sumV L - val L k
  | [], _, k => by simp [del, sumV, val, find]
  | y :: r, hs, k => by
    rw [del_cons, val_cons, sumV_cons]
    by_cases h : y.key = k
    · rw [if_pos h, if_pos h, del_notin (by rw [← h]; exact sorted_tail_ne hs)]; omega
    · rw [if_neg h, if_neg h, sumV_cons, sumV_del (List.pairwise_cons.1 hs).2 k]; omega
theorem sumV_ins (x : Hold) : ∀ L : List Hold, sumV (ins x L) = sumV L + x.v
  | [] => by simp [ins, sumV]
  | y :: r => by
    unfold ins; split
    · rw [sumV_cons]; omega
    · rw [sumV_cons, sumV_ins x r, sumV_cons]; omega
theorem sumV_upd {L : List Hold} (hs : Sorted L) (x : Hold) (hx : x.q = 0 → x.v = 0) : sumV (updL L x) = sumV L + (x.v - val L x.key) := by
  unfold updL; split
  · rename_i h; rw [sumV_del hs, hx h]; omega
  · unfold put; rw [sumV_ins, sumV_del hs]; omega
theorem del_len : ∀ {L : List Hold}, Sorted L → ∀ k, ((del L k).length : Int) = L.length - (if has L k = true then 1 else 0)
  | [], _, k => by simp [del, has]
  | y :: r, hs, k => by
    rw [del_cons, has_cons]
    by_cases h : y.key = k
    · rw [if_pos h, del_notin (by rw [← h]; exact sorted_tail_ne hs)]; simp [h]
    · rw [if_neg h]
      have := del_len (List.pairwise_cons.1 hs).2 k
      simp only [List.length_cons, h, decide_false, Bool.false_or]
      push_cast
      omega
theorem upd_len {L : List Hold} (hs : Sorted L) (x : Hold) : ((updL L x).length : Int) = L.length - (if has L x.key = true then 1 else 0) + (if x.q = 0 then 0 else 1) := by
  unfold updL; split
  · rename_i h; rw [del_len hs]; omega
  · unfold put; rw [ins_length]; have := del_len hs x.key; push_cast; omega
theorem find_del (k k' : ByteArray) (h : k' ≠ k) : ∀ L : List Hold, find (del L k) k' = find L k'
  | [] => rfl
  | y :: r => by
    rw [del_cons, find_cons]
    by_cases hy : y.key = k
    · rw [if_pos hy, find_del k k' h r, if_neg (by rw [hy]; exact h.symm)]
    · rw [if_neg hy, find_cons, find_del k k' h r]
theorem find_del_same (k : ByteArray) : ∀ L : List Hold, find (del L k) k = none
  | [] => rfl
  | y :: r => by
    rw [del_cons]
    by_cases hy : y.key = k
    · rw [if_pos hy, find_del_same k r]
    · rw [if_neg hy, find_cons, if_neg hy, find_del_same k r]
theorem find_ins (x : Hold) (k' : ByteArray) (h : k' ≠ x.key) : ∀ L : List Hold, find (ins x L) k' = find L k'
  | [] => by unfold ins; rw [find_cons, if_neg (Ne.symm h)]
  | y :: r => by
    unfold ins; split
    · rw [find_cons, if_neg (Ne.symm h)]
    · rw [find_cons, find_ins x k' h r, find_cons]
theorem find_ins_same (x : Hold) : ∀ L : List Hold, (∀ y ∈ L, y.key ≠ x.key) → find (ins x L) x.key = some x
  | [], _ => by unfold ins; rw [find_cons, if_pos rfl]
  | y :: r, h => by
    unfold ins; split
    · rw [find_cons, if_pos rfl]
    · rw [find_cons, if_neg (h y (by simp)), find_ins_same x r fun z hz => h z (by simp [hz])]
theorem find_upd_ne (L : List Hold) (x : Hold) (k : ByteArray) (h : k ≠ x.key) : find (updL L x) k = find L k := by
  unfold updL; split
  · exact find_del _ _ h L
  · unfold put; rw [find_ins x k h, find_del _ _ h]
theorem find_upd_same (L : List Hold) (x : Hold) : find (updL L x) x.key = if x.q = 0 then none else some x := by
  unfold updL; split
  · exact find_del_same _ L
  · unfold put; exact find_ins_same x _ fun y hy => (del_mem hy).2
theorem has_find (L : List Hold) (k : ByteArray) : has L k = (find L k).isSome := by
  cases e : find L k with
  | none => rw [find_none e]; rfl
  | some x => rw [find_some_has e]; rfl
end Go.Proofs.YtjjnljfphaimgaaGreatDoor.C
/- giroref34.Pledge: and the words for the reference's operations. -/
namespace Go.Proofs.YtjjnljfphaimgaaGreatDoor.C
open Go Go.RowKit Go.Shelf Go.Proofs

def zeroP : Array Value := #[.string ⟨#[]⟩, .slice none 0 0, .slice none 0 0, .slice none 0 0, .slice none 0 0, .int .i64 0]
structure RSt (w W : World) (b1 : Nat) (V : VS) (S : PS) (sl : Value) (B : Nat) : Prop where
  x : boxAt W w.heap.size V S sl
  y : W.heap[b1]? = some (.cells zeroP 38 (0, 0))
  b : Below w.heap.size w W
  r : RowAt W B sl S.L
  v : VAt W B V
  h : B ≤ w.heap.size
theorem RSt.step {w W W' : World} {b1 : Nat} {V : VS} {S : PS} {sl : Value} {B : Nat} (h : RSt w W b1 V S sl B) (hb : Below W.heap.size W W') : RSt w W' b1 V S sl B :=
  ⟨blk_keep hb h.x (Nat.le_refl _), blk_keep hb h.y (Nat.le_refl _), bstep h.b hb h.b.size, ownsRow_below h.r hb (Nat.le_refl _), h.v.below (hb.mono (Nat.le_trans h.h h.b.size)), h.h⟩
theorem RSt.new (w : World) (V : VS) (S : PS) (sl : Value) (B : Nat) (hr : RowAt w B sl S.L) (hv : VAt w B V) (hB : B ≤ w.heap.size) :
    RSt w ((w.alloc (pBox V S sl)).alloc (.cells zeroP 38)) (w.heap.size + 1) V S sl B := by
  refine ⟨blk_alloc (blk_new w (pBox V S sl)) _, ?_, ((Below.refl _ _).alloc (Nat.le_refl _) _).alloc (by simp) _, ?_, hv.below (((Below.refl _ _).alloc hB _).alloc (by simp; omega) _), hB⟩
  · have := blk_new (w.alloc (pBox V S sl)) (.cells zeroP 38)
    rw [show (w.alloc (pBox V S sl)).heap.size = w.heap.size + 1 from by simp] at this
    exact this
  · exact ownsRow_below hr (((Below.refl w.heap.size w).alloc (Nat.le_refl _) _).alloc (by simp) _) (Nat.le_refl _)
theorem RSt.box {w W : World} {b1 : Nat} {V : VS} {S : PS} {sl : Value} {B : Nat} (h : RSt w W b1 V S sl B) :
    W.cell? ⟨w.heap.size, 0, none⟩ = some (.string S.owner) ∧ W.cell? ⟨w.heap.size, 1, none⟩ = some (.slice V.a0 V.l0.length V.c0) ∧ W.cell? ⟨w.heap.size, 2, none⟩ = some (.slice V.a1 V.l1.length V.c1) ∧
    W.cell? ⟨w.heap.size, 3, none⟩ = some (.slice V.a2 V.l2.length V.c2) ∧ W.cell? ⟨w.heap.size, 4, none⟩ = some sl ∧ W.cell? ⟨w.heap.size, 5, none⟩ = some (.int .i64 S.req) :=
  ⟨(blk_cell h.x 0).trans rfl, (blk_cell h.x 1).trans rfl, (blk_cell h.x 2).trans rfl, (blk_cell h.x 3).trans rfl, (blk_cell h.x 4).trans rfl, (blk_cell h.x 5).trans rfl⟩
theorem zcells {W : World} {b1 : Nat} (h : W.heap[b1]? = some (.cells zeroP 38 (0, 0))) :
    (W.cell? ⟨b1, 0, none⟩ = some (.string ⟨#[]⟩) ∧ W.cell? ⟨b1, 1, none⟩ = some (.slice none 0 0) ∧ W.cell? ⟨b1, 2, none⟩ = some (.slice none 0 0) ∧ W.cell? ⟨b1, 3, none⟩ = some (.slice none 0 0) ∧ W.cell? ⟨b1, 4, none⟩ = some (.slice none 0 0) ∧ W.cell? ⟨b1, 5, none⟩ = some (.int .i64 0)) ∧
    (W.frozen? ⟨b1, 0, none⟩ = false ∧ W.frozen? ⟨b1, 1, none⟩ = false ∧ W.frozen? ⟨b1, 2, none⟩ = false ∧ W.frozen? ⟨b1, 3, none⟩ = false ∧ W.frozen? ⟨b1, 4, none⟩ = false ∧ W.frozen? ⟨b1, 5, none⟩ = false) :=
  ⟨⟨(blk_cell h 0).trans rfl, (blk_cell h 1).trans rfl, (blk_cell h 2).trans rfl, (blk_cell h 3).trans rfl, (blk_cell h 4).trans rfl, (blk_cell h 5).trans rfl⟩,
   ⟨blk_frozen h 0, blk_frozen h 1, blk_frozen h 2, blk_frozen h 3, blk_frozen h 4, blk_frozen h 5⟩⟩
def set6 (W : World) (b : Nat) (v0 v1 v2 v3 v4 v5 : Value) : World :=
  (((((W.setCell ⟨b, 0, none⟩ v0).setCell ⟨b, 1, none⟩ v1).setCell ⟨b, 2, none⟩ v2).setCell ⟨b, 3, none⟩ v3).setCell ⟨b, 4, none⟩ v4).setCell ⟨b, 5, none⟩ v5
theorem set6_blk {W : World} {b : Nat} (h : W.heap[b]? = some (.cells zeroP 38 (0, 0))) (v0 v1 v2 v3 v4 v5 : Value) : (set6 W b v0 v1 v2 v3 v4 v5).heap[b]? = some (.cells #[v0, v1, v2, v3, v4, v5] 38 (0, 0)) := by
  have q1 := blk_set h 0 v0
  have q2 := blk_set q1 1 v1
  have q3 := blk_set q2 2 v2
  have q4 := blk_set q3 3 v3
  have q5 := blk_set q4 4 v4
  have q6 := blk_set q5 5 v5
  exact q6
theorem set6_below {W a : World} {b B : Nat} (h : Below B a W) (hB : B ≤ b) (v0 v1 v2 v3 v4 v5 : Value) : Below B a (set6 W b v0 v1 v2 v3 v4 v5) :=
  (((((h.setCell hB v0).setCell hB v1).setCell hB v2).setCell hB v3).setCell hB v4).setCell hB v5
theorem row_setne {w : World} {B : Nat} {v : Value} {L : List Hold} (h : RowAt w B v L) {b : Nat} {cs : Array Value} {t : TypeId} {z : Nat × Nat} (hb : w.heap[b]? = some (.cells cs t z)) (hne : t ≠ 45) {i : Nat} (u : Value) : RowAt (w.setCell ⟨b, i, none⟩ u) B v L := by
  obtain ⟨r1, r2⟩ := h
  refine ⟨r1, ?_⟩
  rcases r2 with r2 | ⟨g, cap, cur, r3, r4, r5, r6⟩
  · exact Or.inl r2
  · refine Or.inr ⟨g, cap, cur, r3, r4, (Below.heap_setCell w _ u g ?_).trans r5, r6⟩
    intro e
    simp only at e
    rw [e, hb] at r5
    simp only [Option.some.injEq, Obj.cells.injEq] at r5
    exact hne r5.2.1
theorem set6_row {W : World} {b B : Nat} (h : W.heap[b]? = some (.cells zeroP 38 (0, 0))) {v : Value} {L : List Hold} (hr : RowAt W B v L) (v0 v1 v2 v3 v4 v5 : Value) : RowAt (set6 W b v0 v1 v2 v3 v4 v5) B v L := by
  have q1 := blk_set h 0 v0
  have q2 := blk_set q1 1 v1
  have q3 := blk_set q2 2 v2
  have q4 := blk_set q3 3 v3
  have q5 := blk_set q4 4 v4
  exact row_setne (row_setne (row_setne (row_setne (row_setne (row_setne hr h (by decide) v0) q1 (by decide) v1) q2 (by decide) v2) q3 (by decide) v3) q4 (by decide) v4) q5 (by decide) v5
theorem set6_keep {W : World} {b b' : Nat} {o : Obj} (h : W.heap[b']? = some o) (hne : b' ≠ b) (v0 v1 v2 v3 v4 v5 : Value) : (set6 W b v0 v1 v2 v3 v4 v5).heap[b']? = some o :=
  blk_other (blk_other (blk_other (blk_other (blk_other (blk_other h (by simpa using hne) _) (by simpa using hne) _) (by simpa using hne) _) (by simpa using hne) _) (by simpa using hne) _) (by simpa using hne) _
theorem six {W : World} {b : Nat} {v0 v1 v2 v3 v4 v5 : Value} (h : W.heap[b]? = some (.cells #[v0, v1, v2, v3, v4, v5] 38 (0, 0))) :
    W.cell? ⟨b, 0, none⟩ = some v0 ∧ W.cell? ⟨b, 1, none⟩ = some v1 ∧ W.cell? ⟨b, 2, none⟩ = some v2 ∧ W.cell? ⟨b, 3, none⟩ = some v3 ∧ W.cell? ⟨b, 4, none⟩ = some v4 ∧ W.cell? ⟨b, 5, none⟩ = some v5 :=
  ⟨(blk_cell h 0).trans rfl, (blk_cell h 1).trans rfl, (blk_cell h 2).trans rfl, (blk_cell h 3).trans rfl, (blk_cell h 4).trans rfl, (blk_cell h 5).trans rfl⟩
def RefPost (V : VS) (B : Nat) (w : World) (r : Int × PS) (e : Ending) (w' : World) : Prop :=
  ∃ sl', e = .returned (.tuple #[rP V r.2 sl', .int .i64 r.1]) ∧ RowAt w' B sl' r.2.L ∧ Below w.heap.size w w'
theorem RSt.post {w W : World} {b1 : Nat} {V : VS} {S : PS} {sl : Value} {B : Nat} (h : RSt w W b1 V S sl B) {r : Int × PS} {c : Int} (hr : r = (c, S)) (hb1 : w.heap.size ≤ b1) (v0 v1 v2 v3 v4 v5 : Value) :
    RefPost V B w r (.returned (.tuple #[.agg #[.string S.owner, V.x0, V.x1, V.x2, sl, .int .i64 S.req], .int .i64 c])) (set6 W b1 v0 v1 v2 v3 v4 v5) := by
  subst hr
  exact ⟨sl, rfl, set6_row h.y h.r _ _ _ _ _ _, set6_below h.b hb1 _ _ _ _ _ _⟩
theorem isin_amount {n : Int} : decide (1 ≤ n ∧ n ≤ 1000000000000000) = true ↔ (1 ≤ n ∧ n ≤ 1000000000000000) := by simp
noncomputable def refPledge (f : ByteArray → Int → Int × Int) (S : PS) (k : ByteArray) (n : Int) : Int × PS :=
  if isinB k = false then (6, S)
  else if ¬ (1 ≤ n ∧ n ≤ 1000000000000000) then (2, S)
  else if 1000000000000000 < qty S.L k + n then (12, S)
  else if 1024 < (wrest ⟨k, qty S.L k + n, (f k (qty S.L k + n)).1⟩ (qty S.L k + n == 0) S.L).length then (8, S)
  else if (f k (qty S.L k + n)).2 ≠ 0 then ((f k (qty S.L k + n)).2, S)
  else if (totF f (wrest ⟨k, qty S.L k + n, (f k (qty S.L k + n)).1⟩ (qty S.L k + n == 0) S.L)).2 ≠ 0 then ((totF f (wrest ⟨k, qty S.L k + n, (f k (qty S.L k + n)).1⟩ (qty S.L k + n == 0) S.L)).2, S)
  else (0, { S with L := wrest ⟨k, qty S.L k + n, (f k (qty S.L k + n)).1⟩ (qty S.L k + n == 0) S.L, value := (totF f (wrest ⟨k, qty S.L k + n, (f k (qty S.L k + n)).1⟩ (qty S.L k + n == 0) S.L)).1 })
structure LOk (L : List Hold) : Prop where
  len : L.length ≤ 1024
  key : ∀ y ∈ L, y.key.size ≤ maxLen
  q : ∀ x ∈ L, 0 ≤ x.q ∧ x.q ≤ 1000000000000000
theorem LOk.qty {L : List Hold} (h : LOk L) (k : ByteArray) : 0 ≤ qty L k ∧ C.qty L k ≤ 1000000000000000 := by
  unfold C.qty
  cases e : find L k with
  | none => simp
  | some x => exact h.q x (find_mem e).1
theorem wrest_mem {x : Hold} {P : Hold → Prop} (hx : P x) : ∀ (d : Bool) (L : List Hold), (∀ y ∈ L, P y) → ∀ y ∈ wrest x d L, P y
  | d, [], _ => by unfold wrest; split <;> simp [hx]
  | true, y :: r, h => by
    have h1 := wrest_mem hx true r (fun z hz => h z (by simp [hz]))
    have h2 := h y (by simp)
    unfold wrest; split
    · exact h1
    · intro z hz; rcases List.mem_cons.1 hz with rfl | hz
      · exact h2
      · exact h1 z hz
  | false, y :: r, h => by
    have h1 := wrest_mem hx true r (fun z hz => h z (by simp [hz]))
    have h3 := wrest_mem hx false r (fun z hz => h z (by simp [hz]))
    have h2 := h y (by simp)
    unfold wrest; split
    · intro z hz; rcases List.mem_cons.1 hz with rfl | hz
      · exact hx
      · split at hz
        · exact h1 z hz
        · rcases List.mem_cons.1 hz with rfl | hz
          · exact h2
          · exact h1 z hz
    · split
      · intro z hz; rcases List.mem_cons.1 hz with rfl | hz
        · exact hx
        · exact h1 z hz
      · intro z hz; rcases List.mem_cons.1 hz with rfl | hz
        · exact h2
        · exact h3 z hz
end Go.Proofs.YtjjnljfphaimgaaGreatDoor.C
