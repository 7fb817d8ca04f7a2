/- Contracts and plain laws, without conditions beyond each theorem's own: Substitute. giroref34.Value, girolaw34.Prices.Value: the valuer of the laws. New. The two literals of the laws. Words for the seat of CollateralNil: a struct result of six cells; giroref34.New. The methods of a nil pool; New without a valuer. sort.Search over a closure that only makes memory. MaxRelease. -/
import Derived.Deep.DeepCutAuto
import Derived.Shelf.Abstract
import Derived.Test.YtjjnljfphaimgaaDoorK01
import Derived.Test.YtjjnljfphaimgaaDoorK04
set_option linter.all false
/- Substitute. -/
namespace Go.Proofs.YtjjnljfphaimgaaDoor.C
open Go Go.RowKit Go.Maps

theorem ba_beq' (a b : ByteArray) : (a == b) = decide (a = b) := by
  cases a with | mk a => cases b with | mk b =>
  show (a == b) = _
  by_cases h : a = b
  · subst h; simp
  · have : (ByteArray.mk a) ≠ ByteArray.mk b := fun e => h (by injection e)
    simp [h, this]
theorem ins_length (x : Hold) : ∀ L : List Hold, (ins x L).length = L.length + 1
  | [] => rfl
  | y :: r => by simp only [ins]; split <;> simp [ins_length x r]
theorem del_length (L : List Hold) (k : ByteArray) : (del L k).length ≤ L.length := List.length_filter_le _ _
theorem updL_length (L : List Hold) (c : Hold) : (updL L c).length ≤ L.length + 1 := by
  unfold updL
  split
  · have := del_length L c.key; omega
  · unfold put; rw [ins_length]; have := del_length L c.key; omega
noncomputable def substF (f : ByteArray → Int → Int × Int) (S : PS) (ok : ByteArray) (oq : Int) (ik : ByteArray) (iq : Int) : Int × PS :=
  if ckRel S.L ok oq ≠ 0 then (ckRel S.L ok oq, S)
  else if isinB ik = false then (6, S)
  else if ik = ok then (7, S)
  else if ¬ (1 ≤ iq ∧ iq ≤ 1000000000000000) then (2, S)
  else if 1000000000000000 - iq < qty S.L ik then (12, S)
  else if 1024 < (S.L.length : Int) + (if has S.L ik = true then 0 else 1) - (if qty S.L ok - oq = 0 then 1 else 0) then (8, S)
  else if (worthF f ok (qty S.L ok - oq)).2.2 ≠ 0 then ((worthF f ok (qty S.L ok - oq)).2.2, S)
  else if (f ik (qty S.L ik + iq)).2 ≠ 0 then ((f ik (qty S.L ik + iq)).2, S)
  else applyF S true [⟨ok, (worthF f ok (qty S.L ok - oq)).1, (worthF f ok (qty S.L ok - oq)).2.1⟩, ⟨ik, qty S.L ik + iq, (f ik (qty S.L ik + iq)).1⟩]

set_option maxRecDepth 100000 in
set_option maxHeartbeats 16000000 in
theorem substitute_calls (w : World) (p m : Nat) (S : PS) (ok : ByteArray) (oq : Int) (ik : ByteArray) (hsz : ik.size ≤ maxLen) (iq : Int) (T : TypeId) (x : Value) (B : Nat) (w0 : World) (f : ByteArray → Int → Int × Int) (fid : FuncId) (rv : Value)
    (h : PoolAt w p m S) (hok : S.Ok) (hv : IsValuer T x B w0 f fid rv) (hS : S.vl = .iface T x) (hB : Below B w0 w) (hBs : B ≤ w.heap.size) (hk : ok.size ≤ maxLen) (hki : ik.size ≤ maxLen)
    (hf : ∀ k q, 0 ≤ (f k q).1 ∧ (f k q).1 ≤ 1000000000000000) :
    Calls Tryd.prog 8 #[.pointer (some ⟨p, 0, none⟩), .agg #[.string ok, .int .i64 oq], .agg #[.string ik, .int .i64 iq]] w (MutPost p m w (substF f S ok oq ik iq)) := by
  obtain ⟨q0, q1, q2, q3⟩ := hok.qty ok
  obtain ⟨j0, j1, j2, j3⟩ := hok.qty ik
  have hp := h.lt
  have hlen := hok.len
  have H := Lib.hid h
  have HV := Lib.hid hv
  have HS := Lib.hid hS
  have HF := Lib.hid hf
  have HCK := fun h => Lib.hid (ckRel_zero (L := S.L) (k := ok) (n := oq) h)
  clear h hv hS hf
  go_enter Tryd.func8, Tryd.ntmps8
  go_wp2_with fail
  have HB1 := Lib.hid (((Below.refl w.heap.size w).alloc (Nat.le_refl _) (.cells #[.string ok, .int .i64 oq] 35)).alloc (by simp) (.cells #[.string ik, .int .i64 iq] 35))
  have HO1 := Lib.hid (blk_alloc (blk_new w (.cells #[.string ok, .int .i64 oq] 35)) (.cells #[.string ik, .int .i64 iq] 35))
  have hi1 := blk_new (w.alloc (.cells #[.string ok, .int .i64 oq] 35)) (.cells #[.string ik, .int .i64 iq] 35)
  rw [show (w.alloc (.cells #[.string ok, .int .i64 oq] 35)).heap.size = w.heap.size + 1 from by simp] at hi1
  have HI1 := Lib.hid hi1
  clear hi1
  generalize (w.alloc (.cells #[.string ok, .int .i64 oq] 35)).alloc (.cells #[.string ik, .int .i64 iq] 35) = W1 at HB1 HO1 HI1 ⊢
  refine (checkRelease_calls W1 p m S ok oq (H.out.below HB1.out H.out.lt H.out.2.lt) hk).mono ?_
  rintro e W2 ⟨rfl, hb2⟩
  have HB2 := Lib.hid (bstep HB1.out hb2 HB1.out.size)
  have HO2 := Lib.hid (blk_keep hb2 HO1.out (Nat.le_refl _))
  have HI2 := Lib.hid (blk_keep hb2 HI1.out (Nat.le_refl _))
  have HP2 := Lib.hid (H.out.below HB2.out H.out.lt H.out.2.lt)
  clear hb2
  generalize hc : ckRel S.L ok oq = ck
  have HC := Lib.hid hc
  clear hc
  by_cases hz : ck = 0
  · subst hz
    obtain ⟨b0, b1, b2, b3⟩ := (HCK HC.out).out
    have HB0 := Lib.hid b0
    clear b0 HCK
    obtain ⟨c0, c1, c2, c3, c4⟩ := HP2.out.cells
    have x4 := (blk_cell HI2.out 0).trans rfl
    have hl0 := HP2.out.2.drew.look hki
    have hl1 := fun o => (HP2.out.2.drew.alloc o).look hki
    go_upto_region 6 with fail
    go_cut [8, 9] (fun s8 s9 wx => ∃ g : Nat, s8 = .pointer (some ⟨g, 0, none⟩) ∧ s9 = .bool (has S.L ik) ∧ Hid (wx.heap[g]? = some (.cells #[.int .i64 (qty S.L ik), .int .i64 (val S.L ik)] 55 (0, 0))) ∧ Hid (Below W2.heap.size W2 wx))
    case first =>
      go_region_held3 (fun w' => w'.cell? ⟨p, 2, none⟩ = some (.map (some m)) ∧ w'.cell? ⟨w.heap.size + 1, 0, none⟩ = some (.string ik) ∧
          (Instr.lookup 59 (.map (some m)) (.string ik) true).run Tryd.prog w' = .ok (.tuple #[.agg #[.int .i64 (qty S.L ik), .int .i64 (val S.L ik)], .bool (has S.L ik)]) w')
        (first | exact ⟨c2, x4, hl0⟩ | exact ⟨cell_alloc (cell_drew c2) _, cell_alloc (cell_drew x4) _, hl1 _⟩ | trivial) (fail)
      all_goals
        go_wp2_with fail
        go_meet
        exact ⟨W2.heap.size, rfl, rfl, Lib.hid (blk_drew (blk_new W2 _)), Lib.hid (((Below.refl _ _).alloc (Nat.le_refl _) _).drew)⟩
    case rest =>
      obtain ⟨g, rfl, rfl, HG, HBc⟩ := hcut
      clear c0 c1 c2 c3 c4 x4 hl0 hl1
      have HBC := Lib.hid (bstep HB2.out HBc.out HB2.out.size)
      have HPC := Lib.hid (H.out.below HBC.out H.out.lt H.out.2.lt)
      have HOC := Lib.hid (blk_keep HBc.out HO2.out (Nat.le_refl _))
      have HIC := Lib.hid (blk_keep HBc.out HI2.out (Nat.le_refl _))
      obtain ⟨c0, c1, c2, c3, c4⟩ := HPC.out.cells
      have x0 := (blk_cell HOC.out 0).trans rfl
      have x1 := (blk_cell HOC.out 1).trans rfl
      have hl2 := fun n => (HPC.out.2.drewN n).look1 hk
      have hlN := fun n ty => (HPC.out.2.drewN n).len ty
      have hf0 := field0
      go_wp2_with fail
      go_quiet (fail)
      clear hl2
      go_upto_if 53 with fail
      go_cut [9, 11] (fun _ s11 wx => s11 = .int .i64 ((S.L.length : Int) + (if has S.L ik = true then 0 else 1)) ∧ wx = wc.drewN nq)
      case first =>
        cases hh : has S.L ik
        · have HH := Lib.hid hh
          clear HB0
          go_wp2_with fail
          go_meet
          exact ⟨by simp [HH.out], rfl⟩
        · have HH := Lib.hid hh
          go_wp2_with fail
          go_meet
          exact ⟨by simp [HH.out], rfl⟩
      case rest =>
        obtain ⟨rfl, rfl⟩ := hcut
        have hc0 : 0 ≤ (S.L.length : Int) + (if has S.L ik = true then 0 else 1) := by split <;> omega
        have hc1 : (S.L.length : Int) + (if has S.L ik = true then 0 else 1) ≤ 1025 := by split <;> omega
        have HCNT : Hid (∃ c0 : Int, c0 = (S.L.length : Int) + (if has S.L ik = true then 0 else 1)) := ⟨_, rfl⟩
        generalize hcnt : (S.L.length : Int) + (if has S.L ik = true then 0 else 1) = cnt at hc0 hc1 ⊢
        have HCN := Lib.hid hcnt
        clear hcnt HCNT
        go_upto_if 57 with fail
        go_cut [11] (fun s11 wx => s11 = .int .i64 (cnt - (if qty S.L ok - oq = 0 then 1 else 0)) ∧ wx = wc.drewN nq)
        case first =>
          cases hh : (qty S.L ok - oq == 0)
          · go_wp2_with fail
            go_meet
            exact ⟨by rw [if_neg (by simpa using hh)]; simp, rfl⟩
          · go_wp2_with fail
            go_meet
            exact ⟨by rw [if_pos (by simpa using hh)], rfl⟩
        case rest =>
          obtain ⟨rfl, rfl⟩ := hcut
          have HCT := Lib.hid (show cnt - (if qty S.L ok - oq = 0 then 1 else 0) = (S.L.length : Int) + (if has S.L ik = true then 0 else 1) - (if qty S.L ok - oq = 0 then 1 else 0) from by rw [HCN.out])
          have hct0 : -1 ≤ cnt - (if qty S.L ok - oq = 0 then 1 else 0) := by split <;> omega
          have hct1 : cnt - (if qty S.L ok - oq = 0 then 1 else 0) ≤ 1025 := by split <;> omega
          generalize cnt - (if qty S.L ok - oq = 0 then 1 else 0) = ct at HCT hct0 hct1 ⊢
          have HP3 := Lib.hid (HPC.out.drewN nq)
          have HB3 := Lib.hid (below_drewN HBC.out nq)
          have HO3 := Lib.hid (show (wc.drewN nq).heap[w.heap.size]? = _ from HOC.out)
          have HI3 := Lib.hid (show (wc.drewN nq).heap[w.heap.size + 1]? = _ from HIC.out)
          have HG3 := Lib.hid (show (wc.drewN nq).heap[g]? = _ from HG.out)
          clear c0 c1 c2 c3 c4 x0 x1 hlN hc0 hc1
          generalize wc.drewN nq = W3 at HP3 HB3 HO3 HI3 HG3 ⊢
          have x0 := (blk_cell HI3.out 0).trans rfl
          go_wp2_with fail
          refine (valid_calls _ _ _ (Or.inl rfl) hsz).mono ?_
          rintro e W4 ⟨rfl, hb4⟩
          have HB4 := Lib.hid (bstep HB3.out hb4 HB3.out.size)
          have HP4 := Lib.hid (H.out.below HB4.out H.out.lt H.out.2.lt)
          have HO4 := Lib.hid (blk_keep hb4 HO3.out (Nat.le_refl _))
          have HI4 := Lib.hid (blk_keep hb4 HI3.out (Nat.le_refl _))
          have HG4 := Lib.hid (blk_keep hb4 HG3.out (Nat.le_refl _))
          clear x0 hb4
          have x0 := (blk_cell HO4.out 0).trans rfl
          have x1 := (blk_cell HO4.out 1).trans rfl
          have y0 := (blk_cell HI4.out 0).trans rfl
          have y1 := (blk_cell HI4.out 1).trans rfl
          have z0 := (blk_cell HG4.out 0).trans rfl
          by_cases hv : isinB ik = false
          · have hv1 : validB 0 ik = false := by simpa [validB] using hv
            have HV1 := Lib.hid hv
            clear hv
            go_wp2_with fail
            go_ret
            exact MutPost.same (by unfold substF; rw [HC.out, if_neg (by simp), if_pos HV1.out]) H.out HB4.out
          have hv1 : validB 0 ik = true := by simpa [validB] using hv
          have HV1 := Lib.hid hv
          clear hv
          by_cases hkk : ik = ok
          · have e1 : (ik == ok) = true := by rw [ba_beq']; exact decide_eq_true hkk
            have e2 : (ik.toList == ok.toList) = true := by rw [← beq_toListBytes]; exact e1
            have HK := Lib.hid hkk
            clear hkk
            go_wp2_with fail
            go_ret
            exact MutPost.same (by unfold substF; rw [HC.out, if_neg (by simp), if_neg HV1.out, if_pos HK.out]) H.out HB4.out
          have e1 : (ik == ok) = false := by rw [ba_beq']; exact decide_eq_false hkk
          have e2 : (ik.toList == ok.toList) = false := by rw [← beq_toListBytes]; exact e1
          have HK := Lib.hid hkk
          clear hkk
          by_cases ha : 1 ≤ iq ∧ iq ≤ 1000000000000000
          case neg =>
            have HA := Lib.hid ha
            clear ha
            go_wp2_with (go_at_call 22; refine (isAmount_no _ _ HA.out).mono ?_; rintro e w' ⟨rfl, rfl⟩)
            go_ret
            exact MutPost.same (by unfold substF; rw [HC.out, if_neg (by simp), if_neg HV1.out, if_neg HK.out, if_pos HA.out]) H.out HB4.out
          have ha0 := ha.1
          have ha1 := ha.2
          clear ha
          go_wp2_with (go_at_call 22; refine (isAmount_yes _ _ ha0 ha1).mono ?_; rintro e w' ⟨rfl, rfl⟩)
          · go_ret
            rename_i hov
            exact MutPost.same (by unfold substF; rw [HC.out, if_neg (by simp), if_neg HV1.out, if_neg HK.out, if_neg (by simp [ha0, ha1]), if_pos hov]) H.out HB4.out
          · go_ret
            rename_i hov hct
            exact MutPost.same (by unfold substF; rw [HC.out, if_neg (by simp), if_neg HV1.out, if_neg HK.out, if_neg (by simp [ha0, ha1]), if_neg (by omega), if_pos (by rw [← HCT.out]; exact hct)]) H.out HB4.out
          rename_i hov hct
          have HR : Hid (substF f S ok oq ik iq = if (worthF f ok (qty S.L ok - oq)).2.2 ≠ 0 then ((worthF f ok (qty S.L ok - oq)).2.2, S)
              else if (f ik (qty S.L ik + iq)).2 ≠ 0 then ((f ik (qty S.L ik + iq)).2, S)
              else applyF S true [⟨ok, (worthF f ok (qty S.L ok - oq)).1, (worthF f ok (qty S.L ok - oq)).2.1⟩, ⟨ik, qty S.L ik + iq, (f ik (qty S.L ik + iq)).1⟩]) := by
            unfold Hid substF
            rw [HC.out, if_neg (by simp), if_neg HV1.out, if_neg HK.out, if_neg (by simp [ha0, ha1]), if_neg (by omega), if_neg (by rw [← HCT.out]; omega)]
          have HW := Lib.hid (worthF_v f HF.out ok (qty S.L ok - oq))
          have HW2 := Lib.hid (HF.out ik (qty S.L ik + iq))
          have HBX := Lib.hid (hB.trans (HB4.out.mono hBs))
          refine (worth_calls W4 p m S ok (qty S.L ok - oq) T x B w0 f fid rv HP4.out HV.out HS.out HBX.out (Nat.le_trans hBs HB4.out.size) (by omega) (by omega)).mono ?_
          generalize hWF : worthF f ok (qty S.L ok - oq) = r at HR HW ⊢
          obtain ⟨uq, uv, ue⟩ := r
          clear hWF
          simp only at HR HW ⊢
          rintro e W5 ⟨rfl, hb5⟩
          have HB5 := Lib.hid (bstep HB4.out hb5 HB4.out.size)
          have HP5 := Lib.hid (H.out.below HB5.out H.out.lt H.out.2.lt)
          have HO5 := Lib.hid (blk_keep hb5 HO4.out (Nat.le_refl _))
          have HI5 := Lib.hid (blk_keep hb5 HI4.out (Nat.le_refl _))
          have HG5 := Lib.hid (blk_keep hb5 HG4.out (Nat.le_refl _))
          clear x0 x1 y0 y1 z0 hb5 e1 e2
          by_cases hz : ue = 0
          case neg =>
            have hz1 : (ue != 0) = true := by simpa using hz
            have HZ := Lib.hid hz
            clear hz
            go_wp2_with fail
            go_ret
            exact MutPost.same (by rw [HR.out, if_pos HZ.out]) H.out (HB5.out.alloc HB5.out.size _)
          have hz1 : (ue != 0) = false := by simpa using hz
          have HZ := Lib.hid hz
          clear hz
          have y0 := (blk_cell (blk_alloc HI5.out (.cells #[.int .i64 uq, .int .i64 uv] 55)) 0).trans rfl
          have y1 := (blk_cell (blk_alloc HI5.out (.cells #[.int .i64 uq, .int .i64 uv] 55)) 1).trans rfl
          have z0 := (blk_cell (blk_alloc HG5.out (.cells #[.int .i64 uq, .int .i64 uv] 55)) 0).trans rfl
          go_wp2_with fail
          have HB6 := Lib.hid (HB5.out.alloc HB5.out.size (.cells #[.int .i64 uq, .int .i64 uv] 55))
          have HP6 := Lib.hid (HP5.out.alloc (.cells #[.int .i64 uq, .int .i64 uv] 55))
          have HO6 := Lib.hid (blk_alloc HO5.out (.cells #[.int .i64 uq, .int .i64 uv] 55))
          have HI6 := Lib.hid (blk_alloc HI5.out (.cells #[.int .i64 uq, .int .i64 uv] 55))
          have HR6 := Lib.hid (blk_new W5 (.cells #[.int .i64 uq, .int .i64 uv] 55))
          clear y0 y1 z0
          generalize W5.alloc (.cells #[.int .i64 uq, .int .i64 uv] 55) = W6 at HB6 HP6 HO6 HI6 HR6 ⊢
          have HBY := Lib.hid (hB.trans (HB6.out.mono hBs))
          refine (worth_pos W6 p m S ik (qty S.L ik + iq) T x B w0 f fid rv HP6.out HV.out HS.out HBY.out (Nat.le_trans hBs HB6.out.size) (by omega) (by omega)).mono ?_
          generalize hWG : f ik (qty S.L ik + iq) = r2 at HR HW2 ⊢
          obtain ⟨nv, ne⟩ := r2
          clear hWG
          simp only at HR HW2 ⊢
          rintro e W7 ⟨rfl, hb7⟩
          have HB7 := Lib.hid (bstep HB6.out hb7 HB6.out.size)
          have HP7 := Lib.hid (H.out.below HB7.out H.out.lt H.out.2.lt)
          have HO7 := Lib.hid (blk_keep hb7 HO6.out (Nat.le_refl _))
          have HI7 := Lib.hid (blk_keep hb7 HI6.out (Nat.le_refl _))
          have HR7 := Lib.hid (blk_keep hb7 HR6.out (Nat.le_refl _))
          clear hb7
          by_cases hz : ne = 0
          case neg =>
            have hz1 : (ne != 0) = true := by simpa using hz
            have HZ2 := Lib.hid hz
            clear hz
            go_wp2_with fail
            go_ret
            exact MutPost.same (by rw [HR.out, if_neg (by simpa using HZ.out), if_pos HZ2.out]) H.out (HB7.out.alloc HB7.out.size _)
          have hz2 : (ne != 0) = false := by simpa using hz
          have HZ2 := Lib.hid hz
          clear hz
          have x0 := (blk_cell (blk_alloc HO7.out (.cells #[.int .i64 (qty S.L ik + iq), .int .i64 nv] 55)) 0).trans rfl
          have y0 := (blk_cell (blk_alloc HI7.out (.cells #[.int .i64 (qty S.L ik + iq), .int .i64 nv] 55)) 0).trans rfl
          have z0 := (blk_cell (blk_alloc HR7.out (.cells #[.int .i64 (qty S.L ik + iq), .int .i64 nv] 55)) 0).trans rfl
          have z1 := (blk_cell (blk_alloc HR7.out (.cells #[.int .i64 (qty S.L ik + iq), .int .i64 nv] 55)) 1).trans rfl
          go_wp2_with fail
          have HB8 := Lib.hid ((HB7.out.alloc HB7.out.size (.cells #[.int .i64 (qty S.L ik + iq), .int .i64 nv] 55)).alloc (by have := HB7.out.size; simp; omega) (.cells #[.string ok, .int .i64 uq, .int .i64 uv, .string ik, .int .i64 (qty S.L ik + iq), .int .i64 nv] 68))
          have HP8 := Lib.hid ((HP7.out.alloc (.cells #[.int .i64 (qty S.L ik + iq), .int .i64 nv] 55)).alloc (.cells #[.string ok, .int .i64 uq, .int .i64 uv, .string ik, .int .i64 (qty S.L ik + iq), .int .i64 nv] 68))
          have HC8 := Lib.hid (blk_new (W7.alloc (.cells #[.int .i64 (qty S.L ik + iq), .int .i64 nv] 55)) (.cells #[.string ok, .int .i64 uq, .int .i64 uv, .string ik, .int .i64 (qty S.L ik + iq), .int .i64 nv] 68))
          have hup : (updL S.L ⟨ok, uq, uv⟩).length ≤ S.L.length + 1 := updL_length _ _
          have hw := HW.out
          have hw2 := HW2.out
          refine (apply2_calls _ p m S true ⟨ok, uq, uv⟩ ⟨ik, qty S.L ik + iq, nv⟩ _ HP8.out hk hki (by unfold maxLen; omega) (by simpa using HC8.out) hok.v0 hok.v1 hw.1 hw.2 q2 q3 hw2.1 hw2.2 j2 j3 (by show 1 ≤ qty S.L ik + iq; omega) hup).mono ?_
          rintro e W9 hpost
          obtain ⟨rfl, hm1, hm2⟩ := hpost.mut H.out HB8.out
          have HM1 := Lib.hid hm1
          have HM2 := Lib.hid hm2
          clear hm1 hm2 hpost
          go_wp2
          go_ret
          show MutPost p m w _ (.returned (.int .i64 _)) _
          rw [HR.out, if_neg (by simpa using HZ.out), if_neg (by simpa using HZ2.out)]
          exact ⟨rfl, HM1.out, HM2.out⟩
  · have hz1 : (ck != 0) = true := by simpa using hz
    have HZ := Lib.hid hz
    clear hz
    go_wp2_with fail
    go_ret
    exact MutPost.same (by unfold substF; rw [HC.out, if_pos HZ.out]) H.out HB2.out
end Go.Proofs.YtjjnljfphaimgaaDoor.C
/- giroref34.Value, girolaw34.Prices.Value: the valuer of the laws. -/
namespace Go.Proofs.YtjjnljfphaimgaaDoor.C
open Go Go.RowKit Go.Shelf Go.Proofs

/-- A valuer's three slices. -/
structure VS where
  a0 : Option Addr
  a1 : Option Addr
  a2 : Option Addr
  c0 : Nat
  c1 : Nat
  c2 : Nat
  l0 : List ByteArray
  l1 : List Int
  l2 : List Int
def VS.x0 (V : VS) : Value := .slice V.a0 V.l0.length V.c0
def VS.x1 (V : VS) : Value := .slice V.a1 V.l1.length V.c1
def VS.x2 (V : VS) : Value := .slice V.a2 V.l2.length V.c2
structure VAt (w : World) (B : Nat) (V : VS) : Prop where
  r0 : ∀ i (h : i < V.l0.length), ∃ a, V.a0 = some a ∧ a.block < B ∧ w.cell? (a.add i) = some (.string V.l0[i])
  r1 : ∀ i (h : i < V.l1.length), ∃ a, V.a1 = some a ∧ a.block < B ∧ w.cell? (a.add i) = some (.int .i64 V.l1[i])
  r2 : ∀ i (h : i < V.l2.length), ∃ a, V.a2 = some a ∧ a.block < B ∧ w.cell? (a.add i) = some (.int .i64 V.l2[i])
  z1 : ∀ x ∈ V.l1, -9223372036854775808 ≤ x ∧ x ≤ 9223372036854775807
  z2 : ∀ x ∈ V.l2, -9223372036854775808 ≤ x ∧ x ≤ 9223372036854775807
  b0 : V.l0.length ≤ 10
  b1 : V.l1.length ≤ 10
  b2 : V.l2.length ≤ 10
theorem cell_drewN {w : World} {a : Addr} {v : Value} (h : w.cell? a = some v) (n : Nat) : (w.drewN n).cell? a = some v := h
theorem add_block (a : Addr) (i : Nat) : (a.add i).block = a.block := by unfold Addr.add; split <;> rfl
theorem VAt.below {w w' : World} {B : Nat} {V : VS} (h : VAt w B V) (hb : Below B w w') : VAt w' B V := by
  refine ⟨?_, ?_, ?_, h.z1, h.z2, h.b0, h.b1, h.b2⟩
  · intro i hi; obtain ⟨a, e, h1, h2⟩ := h.r0 i hi; exact ⟨a, e, h1, (hb.cell (by rw [add_block]; exact h1)).trans h2⟩
  · intro i hi; obtain ⟨a, e, h1, h2⟩ := h.r1 i hi; exact ⟨a, e, h1, (hb.cell (by rw [add_block]; exact h1)).trans h2⟩
  · intro i hi; obtain ⟨a, e, h1, h2⟩ := h.r2 i hi; exact ⟨a, e, h1, (hb.cell (by rw [add_block]; exact h1)).trans h2⟩
def VS.rows (V : VS) : List (ByteArray × Int × Int) := V.l0.zip (V.l1.zip V.l2)
def vlook : List (ByteArray × Int × Int) → ByteArray → Option (Int × Int)
  | [], _ => none
  | (a, n, e) :: r, k => if a = k then some (n, e) else vlook r k
def vnum (n : Int) : Int := Int.tmod (Int.tmod n 1000 + 1000) 1000
def verr (e : Int) : Int := 1 + Int.tmod (Int.tmod e 30 + 30) 30
def fV (V : VS) (k : ByteArray) (q : Int) : Int × Int :=
  match vlook V.rows k with
  | none => (0, 9)
  | some (n, e) => if e ≠ 0 then (0, verr e) else (min (max q 0 / 10 * vnum n + max q 0 % 10 * vnum n / 10) 1000000000000000, 0)
theorem tmod_range (x : Int) (n : Int) (h : 0 < n) : -n < Int.tmod x n ∧ Int.tmod x n < n := by
  constructor
  · have := Int.tmod_lt_of_pos x h
    rcases Int.le_total 0 x with h0 | h0
    · have := Int.tmod_nonneg n h0; omega
    · have h1 := Int.neg_tmod x n
      have h2 := Int.tmod_lt_of_pos (-x) h
      omega
  · exact Int.tmod_lt_of_pos x h
theorem vnum_range (n : Int) : 0 ≤ vnum n ∧ vnum n ≤ 999 := by
  unfold vnum
  have := tmod_range n 1000 (by omega)
  have h2 := Int.tmod_nonneg 1000 (a := Int.tmod n 1000 + 1000) (by omega)
  have h3 := Int.tmod_lt_of_pos (Int.tmod n 1000 + 1000) (b := 1000) (by omega)
  omega
theorem verr_range (n : Int) : 1 ≤ verr n ∧ verr n ≤ 30 := by
  unfold verr
  have := tmod_range n 30 (by omega)
  have h2 := Int.tmod_nonneg 30 (a := Int.tmod n 30 + 30) (by omega)
  have h3 := Int.tmod_lt_of_pos (Int.tmod n 30 + 30) (b := 30) (by omega)
  omega
theorem vlook_drop (rows : List (ByteArray × Int × Int)) (k : ByteArray) (i : Nat) (h : i < rows.length) :
    vlook (rows.drop i) k = if (rows[i]).1 = k then some (rows[i]).2 else vlook (rows.drop (i + 1)) k := by
  rw [List.drop_eq_getElem_cons h]
  rfl
theorem rows_length (V : VS) : V.rows.length = min V.l0.length (min V.l1.length V.l2.length) := by simp [VS.rows]
theorem rows_get (V : VS) (i : Nat) (h : i < V.rows.length) (h0 : i < V.l0.length) (h1 : i < V.l1.length) (h2 : i < V.l2.length) : V.rows[i] = (V.l0[i], V.l1[i], V.l2[i]) := by
  simp [VS.rows]

set_option maxRecDepth 100000 in
set_option maxHeartbeats 4000000 in
theorem rvalue_calls (w : World) (B : Nat) (V : VS) (k : ByteArray) (q : Int) (h : VAt w B V) (hB : B ≤ w.heap.size) (h0 : 0 ≤ q) (h1 : q ≤ 1000000000000000) :
    Calls Tryd.prog 112 #[.agg #[V.x0, V.x1, V.x2], .string k, .int .i64 q] w (Ret (.tuple #[.int .i64 (fV V k q).1, .int .i64 (fV V k q).2]) w.heap.size w) := by
  have HV := Lib.hid (h.below ((Below.refl B w).alloc hB (.cells #[V.x0, V.x1, V.x2] 26)))
  have hb0 := h.b0
  have hb1 := h.b1
  have hb2 := h.b2
  have HB0 := Lib.hid ((Below.refl w.heap.size w).alloc (Nat.le_refl _) (.cells #[V.x0, V.x1, V.x2] 26))
  have HX := Lib.hid (blk_new w (.cells #[V.x0, V.x1, V.x2] 26))
  clear h
  go_enter Tryd.func112, Tryd.ntmps112
  go_wp2
  unfold VS.x0 VS.x1 VS.x2 at HV HB0 HX ⊢
  generalize w.alloc (.cells #[.slice V.a0 V.l0.length V.c0, .slice V.a1 V.l1.length V.c1, .slice V.a2 V.l2.length V.c2] 26) = W1 at HV HB0 HX ⊢
  have x0 := (blk_cell HX.out 0).trans rfl
  have x1 := (blk_cell HX.out 1).trans rfl
  have x2 := (blk_cell HX.out 2).trans rfl
  go_loop [8] (fun v8 => ∃ i : Nat, i ≤ V.rows.length ∧ v8 = .int .i64 i ∧ Hid (vlook V.rows k = vlook (V.rows.drop i) k)) (fun v8 => V.rows.length - (intOf v8).toNat)
  case atStart => exact ⟨0, Nat.zero_le _, rfl, Lib.hid rfl⟩
  case round =>
    obtain ⟨i, hi, rfl, HE⟩ := hrel
    have hlen := rows_length V
    by_cases hlt : i < V.rows.length
    · have g0 : i < V.l0.length := by omega
      have g1 : i < V.l1.length := by omega
      have g2 : i < V.l2.length := by omega
      have HD := Lib.hid (vlook_drop V.rows k i hlt)
      rw [rows_get V i hlt g0 g1 g2] at HD
      obtain ⟨a0, e0, -, y0⟩ := HV.out.r0 i g0
      obtain ⟨a1, e1, -, y1⟩ := HV.out.r1 i g1
      obtain ⟨a2, e2, -, y2⟩ := HV.out.r2 i g2
      have z1 := HV.out.z1 _ (List.getElem_mem g1)
      have z2 := HV.out.z2 _ (List.getElem_mem g2)
      rw [e0] at x0
      rw [e1] at x1
      rw [e2] at x2
      generalize V.l0[i] = ak at y0 HD
      generalize V.l1[i] = an at y1 HD z1
      generalize V.l2[i] = ae at y2 HD z2
      simp only at HD
      by_cases hk : ak = k
      · have hkb := hk
        subst hkb
        have HF : Hid (vlook V.rows ak = some (an, ae)) := Lib.hid (by rw [HE.out, HD.out, if_pos rfl])
        by_cases hz : ae = 0
        · subst hz
          go_wp2
          go_ret2
          refine ⟨?_, HB0.out⟩
          unfold fV; rw [HF.out, show max q 0 = q from by omega]
          show Ending.returned (.tuple #[.int .i64 _, .int .i64 0]) = .returned (.tuple #[.int .i64 (min (q / 10 * vnum an + q % 10 * vnum an / 10) 1000000000000000), .int .i64 0])
          have hr := vnum_range an
          have ht := tmod_range an 1000 (by omega)
          have e1 : wrap64 (an.tmod 1000 + 1000) = an.tmod 1000 + 1000 := by unfold wrap64; omega
          rw [e1]
          have e2 : (an.tmod 1000 + 1000).tmod 1000 = vnum an := rfl
          rw [e2]
          have p0 : 0 ≤ q / 10 * vnum an := Int.mul_nonneg (by omega) hr.1
          have p1 : q / 10 * vnum an ≤ 100000000000000 * 999 := Int.mul_le_mul (by omega) hr.2 hr.1 (by omega)
          have p2 : 0 ≤ q % 10 * vnum an := Int.mul_nonneg (by omega) hr.1
          have p3 : q % 10 * vnum an ≤ 10 * 999 := Int.mul_le_mul (by omega) hr.2 hr.1 (by omega)
          generalize q / 10 * vnum an = X at p0 p1
          generalize q % 10 * vnum an = Y at p2 p3
          have e3 : wrap64 X = X := by unfold wrap64; omega
          have e4 : wrap64 Y = Y := by unfold wrap64; omega
          rw [e3, e4, Int.tdiv_eq_ediv_of_nonneg p2]
          have e5 : wrap64 (Y / 10) = Y / 10 := by unfold wrap64; omega
          rw [e5]
          have e6 : wrap64 (X + Y / 10) = X + Y / 10 := by unfold wrap64; omega
          rw [e6]
        · have hz1 : (ae != 0) = true := by simp [hz]
          have y2N := fun n => cell_drewN y2 n
          have x2N := fun n => cell_drewN x2 n
          go_wp2
          go_quiet (fail)
          go_wp2
          go_ret2
          refine ⟨?_, bdrewN HB0.out _⟩
          unfold fV; rw [HF.out]
          simp only [ne_eq, hz, not_false_eq_true, if_true]
          show Ending.returned (.tuple #[.int .i64 0, .int .i64 (wrap64 (1 + (wrap64 (ae.tmod 30 + 30)).tmod 30))]) = .returned (.tuple #[.int .i64 0, .int .i64 (verr ae)])
          have ht := tmod_range ae 30 (by omega)
          have hr := verr_range ae
          have e1 : wrap64 (ae.tmod 30 + 30) = ae.tmod 30 + 30 := by unfold wrap64; omega
          rw [e1]
          have e2 : 1 + (ae.tmod 30 + 30).tmod 30 = verr ae := rfl
          rw [e2]
          have e3 : wrap64 (verr ae) = verr ae := by unfold wrap64; omega
          rw [e3]
      · have hk1 : (ak == k) = false := by rw [ba_beq']; simp [hk]
        have hk2 : (ak.toList == k.toList) = false := by
          rw [ByteArray.toList_eq, ByteArray.toList_eq]
          simp only [beq_eq_false_iff_ne, ne_eq]
          intro e; exact hk (by cases ak; cases k; simp only [ByteArray.mk.injEq]; exact Array.toList_inj.1 e)
        have HD' : Hid (vlook (V.rows.drop i) k = vlook (V.rows.drop (i + 1)) k) := Lib.hid (by rw [HD.out, if_neg hk])
        clear hk
        go_wp2
        refine ⟨⟨i + 1, by omega, (by first | rfl | go_num), Lib.hid ?_⟩, by simp [intOf]; omega⟩
        rw [HE.out, HD'.out]
    · obtain rfl : i = V.rows.length := by omega
      have HF : Hid (vlook V.rows k = none) := Lib.hid (by rw [HE.out, List.drop_length]; rfl)
      by_cases g0 : V.rows.length < V.l0.length
      all_goals by_cases g1 : V.rows.length < V.l1.length
      all_goals by_cases g2 : V.rows.length < V.l2.length
      all_goals try omega
      all_goals go_wp2
      all_goals go_ret2
      all_goals exact ⟨by unfold fV; rw [HF.out]; rfl, HB0.out⟩

theorem fV_range' (V : VS) (k : ByteArray) (q : Int) : 0 ≤ (fV V k q).1 ∧ (fV V k q).1 ≤ 1000000000000000 := by
  unfold fV
  split
  · simp
  · rename_i n e _
    split
    · simp
    · have hr := vnum_range n
      have p0 : 0 ≤ max q 0 / 10 * vnum n := Int.mul_nonneg (by omega) hr.1
      have p2 : 0 ≤ max q 0 % 10 * vnum n := Int.mul_nonneg (by omega) hr.1
      simp only
      omega
theorem fV_range (V : VS) (k : ByteArray) (q : Int) (_ : 0 ≤ q) : 0 ≤ (fV V k q).1 ∧ (fV V k q).1 ≤ 1000000000000000 := fV_range' V k q
theorem fV_err (V : VS) (k : ByteArray) (q : Int) : 0 ≤ (fV V k q).2 ∧ (fV V k q).2 ≤ 30 := by
  unfold fV
  split
  · simp
  · rename_i n e _
    split
    · have := verr_range e; simp only; omega
    · simp
set_option maxRecDepth 100000 in
set_option maxHeartbeats 4000000 in
theorem pvalue_calls (w : World) (B : Nat) (V : VS) (o k : ByteArray) (q : Int) (h : VAt w B V) (hB : B ≤ w.heap.size) (h0 : 0 ≤ q) (h1 : q ≤ 1000000000000000) :
    Calls Tryd.prog 111 #[.agg #[V.x0, V.x1, V.x2], .string o, .string k, .int .i64 q] w (Ret (.tuple #[.int .i64 (fV V k q).1, .int .i64 (fV V k q).2]) w.heap.size w) := by
  have HV := Lib.hid (h.below ((Below.refl B w).alloc hB (.cells #[V.x0, V.x1, V.x2] 46)))
  have HB0 := Lib.hid ((Below.refl w.heap.size w).alloc (Nat.le_refl _) (.cells #[V.x0, V.x1, V.x2] 46))
  have HX := Lib.hid (blk_new w (.cells #[V.x0, V.x1, V.x2] 46))
  clear h
  unfold VS.x0 VS.x1 VS.x2 at HV HB0 HX ⊢
  go_enter Tryd.func111, Tryd.ntmps111
  go_wp2_with fail
  generalize w.alloc (.cells #[.slice V.a0 V.l0.length V.c0, .slice V.a1 V.l1.length V.c1, .slice V.a2 V.l2.length V.c2] 46) = W1 at HV HB0 HX ⊢
  have x0 := (blk_cell HX.out 0).trans rfl
  have x1 := (blk_cell HX.out 1).trans rfl
  have x2 := (blk_cell HX.out 2).trans rfl
  go_wp2_with fail
  refine (rvalue_calls _ B V k q HV.out (Nat.le_trans hB HB0.out.size) h0 h1).mono ?_
  rintro e w2 ⟨rfl, hb⟩
  have HB1 := Lib.hid (bstep HB0.out hb HB0.out.size)
  clear hb
  go_wp2_with fail
  go_ret2
  exact ⟨rfl, HB1.out⟩
end Go.Proofs.YtjjnljfphaimgaaDoor.C
/- New. -/
namespace Go.Proofs.YtjjnljfphaimgaaDoor.C
open Go Go.RowKit Go.Maps

def NewOk (owner : ByteArray) (vl : Value) (B : Nat) (w : World) (e : Ending) (w' : World) : Prop :=
  ∃ p m, e = .returned (.tuple #[.pointer (some ⟨p, 0, none⟩), .int .i64 0]) ∧ PoolAt w' p m ⟨owner, vl, [], 0, 0⟩ ∧ B ≤ p ∧ B ≤ m ∧ Below B w w'

set_option maxRecDepth 100000 in
set_option maxHeartbeats 2000000 in
theorem new_ok (w : World) (owner : ByteArray) (hsz : owner.size ≤ maxLen) (T : TypeId) (x : Value) (h : memberB owner = true) :
    Calls Tryd.prog 18 #[.string owner, .iface T x] w (NewOk owner (.iface T x) w.heap.size w) := by
  have hv : validB 1 owner = true := by simpa [validB] using h
  have hmm := @run_makeMap Tryd.prog
  clear h
  go_enter Tryd.func18, Tryd.ntmps18
  go_wp2_with (go_at_call 21; refine (valid_calls _ _ _ (Or.inr rfl) hsz).mono ?_; rintro e w1 ⟨rfl, hb1⟩)
  go_ret2
  have hs := hb1.size
  refine ⟨w1.heap.size + 1, w1.heap.size, rfl, ⟨?_, (MapIs.made w1).alloc _⟩, by omega, hs, ((hb1.alloc hs _).alloc (by simp; omega) _)⟩
  have := blk_new (w1.alloc (.map #[] 0)) (.cells #[.string owner, .iface T x, .map (some w1.heap.size), .int .i64 0, .int .i64 0] 61)
  simpa [PS.row] using this
set_option maxRecDepth 100000 in
set_option maxHeartbeats 2000000 in
theorem new_bad (w : World) (owner : ByteArray) (hsz : owner.size ≤ maxLen) (T : TypeId) (x : Value) (h : memberB owner = false) :
    Calls Tryd.prog 18 #[.string owner, .iface T x] w (Ret (.tuple #[.pointer none, .int .i64 6]) w.heap.size w) := by
  have hv : validB 1 owner = false := by simpa [validB] using h
  have hmm := @run_makeMap Tryd.prog
  clear h
  go_enter Tryd.func18, Tryd.ntmps18
  go_wp2_with (go_at_call 21; refine (valid_calls _ _ _ (Or.inr rfl) hsz).mono ?_; rintro e w1 ⟨rfl, hb1⟩)
  go_ret2
  exact ⟨rfl, hb1⟩
end Go.Proofs.YtjjnljfphaimgaaDoor.C
/- The two literals of the laws. -/
namespace Go.Proofs.YtjjnljfphaimgaaDoor.C
open Go Go.RowKit Go.Shelf Go.Proofs

def bankA : ByteArray := ⟨#[66, 65, 78, 75, 65]⟩
def isinUS : ByteArray := ⟨#[85, 83, 48, 51, 55, 56, 51, 51, 49, 48, 48, 53]⟩
theorem bankA_member : memberB bankA = true := by kernel_rfl
theorem isinUS_isin : isinB isinUS = true := by
  have h1 : prefOK clsISIN 12 isinUS.data.toList = true := by kernel_rfl
  have h2 : luhnN (expN (isinUS.data.toList.take 11)) = 5 := by kernel_rfl
  have h3 : isinUS.data.toList.drop 11 = [53] := by kernel_rfl
  unfold isinB
  rw [h1, h2, h3, Lib.decDigits, dif_pos (by omega)]
  rfl
end Go.Proofs.YtjjnljfphaimgaaDoor.C
/- Words for the seat of CollateralNil: a struct result of six cells; giroref34.New. -/
namespace Go.Proofs.YtjjnljfphaimgaaDoor.C
open Go Go.RowKit Go.Shelf Go.Proofs

def zeroP : Array Value := #[.string ⟨#[]⟩, .slice none 0 0, .slice none 0 0, .slice none 0 0, .slice none 0 0, .int .i64 0]
theorem zcells {W : World} {b1 : Nat} (h : W.heap[b1]? = some (.cells zeroP 49 (0, 0))) :
    (W.cell? ⟨b1, 0, none⟩ = some (.string ⟨#[]⟩) ∧ W.cell? ⟨b1, 1, none⟩ = some (.slice none 0 0) ∧ W.cell? ⟨b1, 2, none⟩ = some (.slice none 0 0) ∧ W.cell? ⟨b1, 3, none⟩ = some (.slice none 0 0) ∧ W.cell? ⟨b1, 4, none⟩ = some (.slice none 0 0) ∧ W.cell? ⟨b1, 5, none⟩ = some (.int .i64 0)) ∧
    (W.frozen? ⟨b1, 0, none⟩ = false ∧ W.frozen? ⟨b1, 1, none⟩ = false ∧ W.frozen? ⟨b1, 2, none⟩ = false ∧ W.frozen? ⟨b1, 3, none⟩ = false ∧ W.frozen? ⟨b1, 4, none⟩ = false ∧ W.frozen? ⟨b1, 5, none⟩ = false) :=
  ⟨⟨(blk_cell h 0).trans rfl, (blk_cell h 1).trans rfl, (blk_cell h 2).trans rfl, (blk_cell h 3).trans rfl, (blk_cell h 4).trans rfl, (blk_cell h 5).trans rfl⟩,
   ⟨blk_frozen h 0, blk_frozen h 1, blk_frozen h 2, blk_frozen h 3, blk_frozen h 4, blk_frozen h 5⟩⟩
def set6 (W : World) (b : Nat) (v0 v1 v2 v3 v4 v5 : Value) : World :=
  (((((W.setCell ⟨b, 0, none⟩ v0).setCell ⟨b, 1, none⟩ v1).setCell ⟨b, 2, none⟩ v2).setCell ⟨b, 3, none⟩ v3).setCell ⟨b, 4, none⟩ v4).setCell ⟨b, 5, none⟩ v5
theorem set6_blk {W : World} {b : Nat} (h : W.heap[b]? = some (.cells zeroP 49 (0, 0))) (v0 v1 v2 v3 v4 v5 : Value) : (set6 W b v0 v1 v2 v3 v4 v5).heap[b]? = some (.cells #[v0, v1, v2, v3, v4, v5] 49 (0, 0)) := by
  have q1 := blk_set h 0 v0
  have q2 := blk_set q1 1 v1
  have q3 := blk_set q2 2 v2
  have q4 := blk_set q3 3 v3
  have q5 := blk_set q4 4 v4
  have q6 := blk_set q5 5 v5
  exact q6
theorem set6_below {W a : World} {b B : Nat} (h : Below B a W) (hB : B ≤ b) (v0 v1 v2 v3 v4 v5 : Value) : Below B a (set6 W b v0 v1 v2 v3 v4 v5) :=
  (((((h.setCell hB v0).setCell hB v1).setCell hB v2).setCell hB v3).setCell hB v4).setCell hB v5
theorem six {W : World} {b : Nat} {v0 v1 v2 v3 v4 v5 : Value} (h : W.heap[b]? = some (.cells #[v0, v1, v2, v3, v4, v5] 49 (0, 0))) :
    W.cell? ⟨b, 0, none⟩ = some v0 ∧ W.cell? ⟨b, 1, none⟩ = some v1 ∧ W.cell? ⟨b, 2, none⟩ = some v2 ∧ W.cell? ⟨b, 3, none⟩ = some v3 ∧ W.cell? ⟨b, 4, none⟩ = some v4 ∧ W.cell? ⟨b, 5, none⟩ = some v5 :=
  ⟨(blk_cell h 0).trans rfl, (blk_cell h 1).trans rfl, (blk_cell h 2).trans rfl, (blk_cell h 3).trans rfl, (blk_cell h 4).trans rfl, (blk_cell h 5).trans rfl⟩
set_option maxRecDepth 100000 in
set_option maxHeartbeats 8000000 in
theorem refNew_calls (w : World) (V : VS) (owner : ByteArray) (ho : owner.size ≤ maxLen) :
    Calls Tryd.prog 19 #[.string owner, .agg #[V.x0, V.x1, V.x2]] w fun e w' =>
      e = .returned (if memberB owner = true then .tuple #[.agg #[.string owner, V.x0, V.x1, V.x2, .slice none 0 0, .int .i64 0], .int .i64 0] else .tuple #[.agg zeroP, .int .i64 6]) ∧ Below w.heap.size w w' := by
  have HB := Lib.hid (((Below.refl w.heap.size w).alloc (Nat.le_refl _) (.cells #[V.x0, V.x1, V.x2] 26)).alloc (by simp) (.cells zeroP 49))
  have HX := Lib.hid (blk_alloc (blk_new w (.cells #[V.x0, V.x1, V.x2] 26)) (.cells zeroP 49))
  have HY : Hid (((w.alloc (.cells #[V.x0, V.x1, V.x2] 26)).alloc (.cells zeroP 49)).heap[w.heap.size + 1]? = some (.cells zeroP 49 (0, 0))) := by
    have := blk_new (w.alloc (.cells #[V.x0, V.x1, V.x2] 26)) (.cells zeroP 49)
    rw [show (w.alloc (.cells #[V.x0, V.x1, V.x2] 26)).heap.size = w.heap.size + 1 from by simp] at this
    exact this
  unfold VS.x0 VS.x1 VS.x2 zeroP at *
  obtain ⟨rb, hrb⟩ : ∃ rb : Value, rb = (if memberB owner = true then Value.tuple #[.agg #[.string owner, .slice V.a0 V.l0.length V.c0, .slice V.a1 V.l1.length V.c1, .slice V.a2 V.l2.length V.c2, .slice none 0 0, .int .i64 0], .int .i64 0] else .tuple #[.agg #[.string ⟨#[]⟩, .slice none 0 0, .slice none 0 0, .slice none 0 0, .slice none 0 0, .int .i64 0], .int .i64 6]) := ⟨_, rfl⟩
  rw [← hrb]
  have HRB := Lib.hid hrb
  clear hrb
  go_enter Tryd.func19, Tryd.ntmps19
  go_wp2_with fail
  generalize (w.alloc (.cells #[.slice V.a0 V.l0.length V.c0, .slice V.a1 V.l1.length V.c1, .slice V.a2 V.l2.length V.c2] 26)).alloc (.cells #[.string ⟨#[]⟩, .slice none 0 0, .slice none 0 0, .slice none 0 0, .slice none 0 0, .int .i64 0] 49) = W1 at HB HX HY ⊢
  refine (rvalid_calls _ _ _ (Or.inr rfl) ho).mono ?_
  rintro e W2 ⟨rfl, hb⟩
  have HB2 := Lib.hid (bstep HB.out hb HB.out.size)
  have HX2 := Lib.hid (blk_keep hb HX.out (Nat.le_refl _))
  have HY2 := Lib.hid (blk_keep hb HY.out (Nat.le_refl _))
  clear hb HB HX HY
  have hvb : validB 1 owner = memberB owner := rfl
  rw [hvb]
  clear hvb
  obtain ⟨⟨d0, d1, d2, d3, d4, d5⟩, g0, g1, g2, g3, g4, g5⟩ := zcells HY2.out
  have y0 := (blk_cell HX2.out 0).trans rfl
  have y1 := (blk_cell HX2.out 1).trans rfl
  have y2 := (blk_cell HX2.out 2).trans rfl
  cases hm : memberB owner
  · rw [hm] at HRB
    clear hm
    go_wp2_with fail
    have z6 := six (set6_blk HY2.out (.string ⟨#[]⟩) (.slice none 0 0) (.slice none 0 0) (.slice none 0 0) (.slice none 0 0) (.int .i64 0))
    have HF := Lib.hid (set6_below HB2.out (B := w.heap.size) (b := w.heap.size + 1) (by omega) (.string ⟨#[]⟩) (.slice none 0 0) (.slice none 0 0) (.slice none 0 0) (.slice none 0 0) (.int .i64 0))
    unfold set6 at z6 HF
    clear d0 d1 d2 d3 d4 d5 g0 g1 g2 g3 g4 g5 y0 y1 y2
    generalize (((((W2.setCell _ _).setCell _ _).setCell _ _).setCell _ _).setCell _ _).setCell _ _ = WF at z6 HF ⊢
    obtain ⟨z0, z1, z2, z3, z4, z5⟩ := z6
    refine bodyPost_ret (v := .tuple #[.agg #[.string ⟨#[]⟩, .slice none 0 0, .slice none 0 0, .slice none 0 0, .slice none 0 0, .int .i64 0], .int .i64 6]) ?_ rfl ⟨by rw [HRB.out]; rfl, HF.out⟩
    simp [results, Tryd.results19, go_sem, z0, z1, z2, z3, z4, z5]
  · rw [hm] at HRB
    clear hm
    go_wp2_with fail
    have z6 := six (set6_blk HY2.out (.string owner) (.slice V.a0 V.l0.length V.c0) (.slice V.a1 V.l1.length V.c1) (.slice V.a2 V.l2.length V.c2) (.slice none 0 0) (.int .i64 0))
    have HF := Lib.hid (set6_below HB2.out (B := w.heap.size) (b := w.heap.size + 1) (by omega) (.string owner) (.slice V.a0 V.l0.length V.c0) (.slice V.a1 V.l1.length V.c1) (.slice V.a2 V.l2.length V.c2) (.slice none 0 0) (.int .i64 0))
    unfold set6 at z6 HF
    clear d0 d1 d2 d3 d4 d5 g0 g1 g2 g3 g4 g5 y0 y1 y2
    generalize (((((W2.setCell _ _).setCell _ _).setCell _ _).setCell _ _).setCell _ _).setCell _ _ = WF at z6 HF ⊢
    obtain ⟨z0, z1, z2, z3, z4, z5⟩ := z6
    refine bodyPost_ret (v := .tuple #[.agg #[.string owner, .slice V.a0 V.l0.length V.c0, .slice V.a1 V.l1.length V.c1, .slice V.a2 V.l2.length V.c2, .slice none 0 0, .int .i64 0], .int .i64 0]) ?_ rfl ⟨by rw [HRB.out]; rfl, HF.out⟩
    simp [results, Tryd.results19, go_sem, z0, z1, z2, z3, z4, z5]
abbrev aggV (V : VS) : Value := .agg #[V.x0, V.x1, V.x2]
theorem isValuer_prices {w0 : World} {V : VS} (h : VAt w0 w0.heap.size V) : IsValuer 46 (aggV V) w0.heap.size w0 (fV V) 111 (aggV V) where
  ahead := fun w n => by kernel_rfl
  meth := fun w n => by kernel_rfl
  enters := enters_of Tryd.func111 (by kernel_rfl) rfl
  calls := fun w o a q hb h0 h1 => pvalue_calls w w0.heap.size V o a q (h.below hb) hb.size (by omega) h1
theorem Fr.up {p m : Nat} {w w' w0 : World} (h : Fr p m w w') (hb : Below w0.heap.size w0 w) (hp : w0.heap.size ≤ p) (hm : w0.heap.size ≤ m) : Below w0.heap.size w0 w' :=
  hb.trans (h.below hp hm hb.size)
end Go.Proofs.YtjjnljfphaimgaaDoor.C
/- The methods of a nil pool; New without a valuer. -/
namespace Go.Proofs.YtjjnljfphaimgaaDoor.C
open Go Go.RowKit Go.Shelf Go.Proofs

theorem nil_pledge (k : ByteArray) (n : Int) (w : World) : Calls Tryd.prog 4 #[.pointer none, .string k, .int .i64 n] w fun e w' => e = .returned (.int .i64 1) ∧ w = w' := by
  go_enter Tryd.func4, Tryd.ntmps4
  go_wp2
  go_ret
  exact ⟨rfl, rfl⟩
theorem nil_release (k : ByteArray) (n : Int) (w : World) : Calls Tryd.prog 5 #[.pointer none, .string k, .int .i64 n] w fun e w' => e = .returned (.int .i64 1) ∧ w = w' := by
  go_enter Tryd.func5, Tryd.ntmps5
  go_wp2
  go_ret
  exact ⟨rfl, rfl⟩
theorem nil_require (n : Int) (w : World) : Calls Tryd.prog 6 #[.pointer none, .int .i64 n] w fun e w' => e = .returned (.int .i64 1) ∧ w = w' := by
  go_enter Tryd.func6, Tryd.ntmps6
  go_wp2
  go_ret
  exact ⟨rfl, rfl⟩
set_option maxRecDepth 100000 in
theorem nil_revalue (w : World) : Calls Tryd.prog 7 #[.pointer none, .nilIface] w fun e w' => e = .returned (.int .i64 1) ∧ Below w.heap.size w w' := by
  have HB := Lib.hid (Below.refl w.heap.size w)
  go_enter Tryd.func7, Tryd.ntmps7
  go_wp2
  go_ret
  exact ⟨rfl, HB.out⟩
set_option maxRecDepth 100000 in
theorem revalue_nil (p : Nat) (w : World) : Calls Tryd.prog 7 #[.pointer (some ⟨p, 0, none⟩), .nilIface] w fun e w' => e = .returned (.int .i64 1) ∧ Below w.heap.size w w' := by
  have HB := Lib.hid (Below.refl w.heap.size w)
  go_enter Tryd.func7, Tryd.ntmps7
  go_wp2
  go_ret
  exact ⟨rfl, HB.out⟩
set_option maxRecDepth 100000 in
theorem nil_subst (ok ik : ByteArray) (oq iq : Int) (w : World) : Calls Tryd.prog 8 #[.pointer none, .agg #[.string ok, .int .i64 oq], .agg #[.string ik, .int .i64 iq]] w fun e w' => e = .returned (.int .i64 1) ∧ Below w.heap.size w w' := by
  have HB := Lib.hid (((Below.refl w.heap.size w).alloc (Nat.le_refl _) (.cells #[.string ok, .int .i64 oq] 35)).alloc (by simp) (.cells #[.string ik, .int .i64 iq] 35))
  go_enter Tryd.func8, Tryd.ntmps8
  go_wp2
  go_ret
  exact ⟨rfl, HB.out⟩
theorem nil_owner (w : World) : Calls Tryd.prog 9 #[.pointer none] w fun e w' => e = .returned (.string ⟨#[]⟩) ∧ w = w' := by
  go_enter Tryd.func9, Tryd.ntmps9
  go_wp2
  go_ret
  exact ⟨rfl, rfl⟩
theorem nil_required (w : World) : Calls Tryd.prog 10 #[.pointer none] w fun e w' => e = .returned (.int .i64 0) ∧ w = w' := by
  go_enter Tryd.func10, Tryd.ntmps10
  go_wp2
  go_ret
  exact ⟨rfl, rfl⟩
theorem nil_value (w : World) : Calls Tryd.prog 11 #[.pointer none] w fun e w' => e = .returned (.int .i64 0) ∧ w = w' := by
  go_enter Tryd.func11, Tryd.ntmps11
  go_wp2
  go_ret
  exact ⟨rfl, rfl⟩
theorem nil_excess (w : World) : Calls Tryd.prog 12 #[.pointer none] w fun e w' => e = .returned (.int .i64 0) ∧ w = w' := by
  go_enter Tryd.func12, Tryd.ntmps12
  go_wp2_with (first
    | (go_at_call 11; refine (nil_value _).mono ?_; rintro e w' ⟨rfl, rfl⟩)
    | (go_at_call 10; refine (nil_required _).mono ?_; rintro e w' ⟨rfl, rfl⟩))
  go_ret
  exact ⟨rfl, rfl⟩
set_option maxRecDepth 100000 in
theorem nil_positions (w : World) : Calls Tryd.prog 13 #[.pointer none] w fun e w' => e = .returned (.slice none 0 0) ∧ Below w.heap.size w w' := by
  have HB := Lib.hid (Below.refl w.heap.size w)
  go_enter Tryd.func13, Tryd.ntmps13
  go_wp2
  go_ret
  exact ⟨rfl, HB.out⟩
theorem nil_quantity (k : ByteArray) (w : World) : Calls Tryd.prog 14 #[.pointer none, .string k] w fun e w' => e = .returned (.int .i64 0) ∧ w = w' := by
  go_enter Tryd.func14, Tryd.ntmps14
  go_wp2
  go_ret
  exact ⟨rfl, rfl⟩
theorem nil_max (k : ByteArray) (w : World) : Calls Tryd.prog 15 #[.pointer none, .string k] w fun e w' => e = .returned (.int .i64 0) ∧ Below w.heap.size w w' := by
  have HB := Lib.hid (((Below.refl w.heap.size w).alloc (Nat.le_refl _) (.cells #[.pointer none] 29)).alloc (by simp) (.cells #[.string k] 9))
  go_enter Tryd.func15, Tryd.ntmps15
  go_wp2
  go_ret
  exact ⟨rfl, HB.out⟩
theorem nil_clone (w : World) : Calls Tryd.prog 16 #[.pointer none] w fun e w' => e = .returned (.pointer none) ∧ w = w' := by
  go_enter Tryd.func16, Tryd.ntmps16
  go_wp2
  go_ret
  exact ⟨rfl, rfl⟩
set_option maxRecDepth 100000 in
theorem equal_nn (w : World) : Calls Tryd.prog 17 #[.pointer none, .pointer none] w fun e w' => e = .returned (.bool true) ∧ w = w' := by
  go_enter Tryd.func17, Tryd.ntmps17
  go_wp2
  go_ret
  exact ⟨rfl, rfl⟩
set_option maxRecDepth 100000 in
theorem equal_np (w : World) (p : Nat) : Calls Tryd.prog 17 #[.pointer none, .pointer (some ⟨p, 0, none⟩)] w fun e w' => e = .returned (.bool false) ∧ w = w' := by
  go_enter Tryd.func17, Tryd.ntmps17
  go_wp2
  go_ret
  exact ⟨rfl, rfl⟩
set_option maxRecDepth 100000 in
set_option maxHeartbeats 2000000 in
theorem new_nil (w : World) (owner : ByteArray) (hsz : owner.size ≤ maxLen) (h : memberB owner = true) :
    Calls Tryd.prog 18 #[.string owner, .nilIface] w (Ret (.tuple #[.pointer none, .int .i64 1]) w.heap.size w) := by
  have hv : validB 1 owner = true := by simpa [validB] using h
  have hmm := @run_makeMap Tryd.prog
  clear h
  go_enter Tryd.func18, Tryd.ntmps18
  go_wp2_with (go_at_call 21; refine (valid_calls _ _ _ (Or.inr rfl) hsz).mono ?_; rintro e w1 ⟨rfl, hb1⟩)
  go_ret2
  exact ⟨rfl, hb1⟩
end Go.Proofs.YtjjnljfphaimgaaDoor.C
/- sort.Search over a closure that only makes memory. -/
namespace Go.Proofs.YtjjnljfphaimgaaDoor.C
open Go Go.RowKit

def SearchPost (n : Int) (p : Int → Bool) (B : Nat) (w : World) (e : Ending) (w' : World) : Prop :=
  ∃ r : Int, e = .returned (.int .i64 r) ∧ 0 ≤ r ∧ r ≤ n ∧ (r < n → p r = true) ∧ (0 < r → p (r - 1) = false) ∧ Below B w w'

set_option maxRecDepth 100000 in
set_option maxHeartbeats 2000000 in
theorem search_calls (w : World) (n : Int) (g : Nat) (cb : Array Value) (p : Int → Bool) (h0 : 0 ≤ n) (h1 : n ≤ 1000000000000000)
    (eg : ∀ args w, (callFunc g args).run Tryd.prog w = .ok (.enter g args) w)
    (hf : ∀ (w' : World) (i : Int), Below w.heap.size w w' → 0 ≤ i → i < n → Calls Tryd.prog g (#[.int .i64 i] ++ cb) w' fun e w'' => e = .returned (.bool (p i)) ∧ Below w'.heap.size w' w'') :
    Calls Tryd.prog 29 #[.int .i64 n, .func (.func g) #[] cb] w (SearchPost n p w.heap.size w) := by
  have HF := Lib.hid hf
  clear hf
  go_enter Tryd.func29, Tryd.ntmps29
  go_wp2
  go_loopw [5, 6] (fun v5 v6 wr => ∃ i j : Int, v5 = .int .i64 i ∧ v6 = .int .i64 j ∧ 0 ≤ i ∧ i ≤ j ∧ j ≤ n ∧ Hid (0 < i → p (i - 1) = false) ∧ Hid (j < n → p j = true) ∧ Hid (Below w.heap.size w wr)) (fun v5 v6 _ => (intOf v6 - intOf v5).toNat)
  case atStart => exact ⟨0, n, rfl, rfl, by omega, h0, by omega, Lib.hid (fun h => absurd h (by omega)), Lib.hid (fun h => absurd h (by omega)), Lib.hid (Below.refl _ _)⟩
  case round =>
    obtain ⟨i, j, rfl, rfl, hi, hij, hj, HI, HJ, HB⟩ := hrel
    by_cases hlt : i < j
    · go_wp2_with fail
      have hm0 : 0 ≤ (i + j) / 2 := by omega
      have hm1 : i ≤ (i + j) / 2 := by omega
      have hm2 : (i + j) / 2 < j := by omega
      refine (HF.out wr ((i + j) / 2) HB.out hm0 (by omega)).mono ?_
      rintro e w'' ⟨rfl, hb⟩
      have HB2 := Lib.hid (bstep HB.out hb HB.out.size)
      clear hb
      generalize (i + j) / 2 = h at hm0 hm1 hm2 ⊢
      cases hp : p h
      · have HP := Lib.hid hp
        clear hp
        go_wp2
        go_roundw
        case rel => exact ⟨h + 1, j, rfl, rfl, by omega, by omega, hj, Lib.hid (fun _ => by rw [show h + 1 - 1 = h from by omega]; exact HP.out), HJ, HB2⟩
        case measure => simp [intOf]; omega
      · have HP := Lib.hid hp
        clear hp
        go_wp2
        go_roundw
        case rel => exact ⟨i, h, rfl, rfl, hi, by omega, by omega, HI, Lib.hid (fun _ => HP.out), HB2⟩
        case measure => simp [intOf]; omega
    · go_wp2_with fail
      go_ret
      exact ⟨i, rfl, hi, by omega, by rw [show i = j from by omega]; exact HJ.out, HI.out, HB.out⟩
end Go.Proofs.YtjjnljfphaimgaaDoor.C
/- MaxRelease. -/
namespace Go.Proofs.YtjjnljfphaimgaaDoor.C
open Go Go.RowKit Go.Maps

/-- MaxRelease's closure: is the release of more than i refused? -/
def refused (f : ByteArray → Int → Int × Int) (S : PS) (k : ByteArray) (i : Int) : Bool :=
  decide ((worthF f k (qty S.L k - i - 1)).2.2 ≠ 0) || decide (S.value - val S.L k + (worthF f k (qty S.L k - i - 1)).2.1 < S.req)

set_option maxRecDepth 100000 in
set_option maxHeartbeats 4000000 in
theorem closure_calls (w : World) (bp bk bo : Nat) (p m : Nat) (S : PS) (k : ByteArray) (i : Int) (T : TypeId) (x : Value) (B : Nat) (w0 : World) (f : ByteArray → Int → Int × Int) (fid : FuncId) (rv : Value)
    (h : PoolAt w p m S) (hok : S.Ok) (hv : IsValuer T x B w0 f fid rv) (hS : S.vl = .iface T x) (hB : Below B w0 w) (hBs : B ≤ w.heap.size) (hk : k.size ≤ maxLen)
    (hf : ∀ k q, 0 ≤ (f k q).1 ∧ (f k q).1 ≤ 1000000000000000)
    (b1 : w.heap[bp]? = some (.cells #[.pointer (some ⟨p, 0, none⟩)] 29 (0, 0))) (b2 : w.heap[bk]? = some (.cells #[.string k] 9 (0, 0)))
    (b3 : w.heap[bo]? = some (.cells #[.int .i64 (qty S.L k), .int .i64 (val S.L k)] 55 (0, 0))) (i0 : 0 ≤ i) (i1 : i < qty S.L k) :
    Calls Tryd.prog 28 #[.int .i64 i, .pointer (some ⟨bp, 0, none⟩), .pointer (some ⟨bk, 0, none⟩), .pointer (some ⟨bo, 0, none⟩)] w fun e w' => e = .returned (.bool (refused f S k i)) ∧ Below w.heap.size w w' := by
  obtain ⟨q0, q1, q2, q3⟩ := hok.qty k
  have v0 := hok.v0
  have v1 := hok.v1
  have H := Lib.hid h
  have HV := Lib.hid hv
  have HS := Lib.hid hS
  have B1 := Lib.hid b1
  have B2 := Lib.hid b2
  have B3 := Lib.hid b3
  have HW := Lib.hid (worthF_v f hf k (qty S.L k - i - 1))
  have x1 := (blk_cell b1 0).trans rfl
  have x2 := (blk_cell b2 0).trans rfl
  have x3 := (blk_cell b3 0).trans rfl
  clear h hv hS b1 b2 b3
  go_enter Tryd.func28, Tryd.ntmps28
  go_wp2_with fail
  refine (worth_calls _ p m S k (qty S.L k - i - 1) T x B w0 f fid rv H.out HV.out HS.out hB hBs (by omega) (by omega)).mono ?_
  generalize hWF : worthF f k (qty S.L k - i - 1) = r at HW ⊢
  have HWF := Lib.hid hWF
  clear hWF
  obtain ⟨wq, wv, we⟩ := r
  simp only at HW ⊢
  rintro e w2 ⟨rfl, hb2⟩
  have HB2 := Lib.hid hb2
  have HP2 := Lib.hid (H.out.below hb2 H.out.lt H.out.2.lt)
  have w0 := HW.out.1
  have w1 := HW.out.2
  have y1 := (blk_cell (blk_keep hb2 B1.out (Nat.le_refl _)) 0).trans rfl
  have y3 := (blk_cell (blk_keep hb2 B3.out (Nat.le_refl _)) 1).trans rfl
  clear x1 x2 x3 hb2
  obtain ⟨c0, c1, c2, c3, c4⟩ := HP2.out.cells
  have d1 := cell_alloc y1 (.cells #[.int .i64 wq, .int .i64 wv] 55)
  have d3 := cell_alloc y3 (.cells #[.int .i64 wq, .int .i64 wv] 55)
  have d4 := cell_alloc c3 (.cells #[.int .i64 wq, .int .i64 wv] 55)
  have d5 := cell_alloc c4 (.cells #[.int .i64 wq, .int .i64 wv] 55)
  have d6 := (blk_cell (blk_new w2 (.cells #[.int .i64 wq, .int .i64 wv] 55)) 1).trans rfl
  by_cases he : we = 0
  · have he1 : (we != 0) = false := by simpa using he
    have HE := Lib.hid he
    clear he
    go_wp2_with fail
    go_quiet (fail)
    go_wp2
    go_ret
    refine ⟨?_, below_drewN (HB2.out.alloc HB2.out.size _) _⟩
    show Ending.returned (.bool _) = _
    unfold refused
    rw [HWF.out]
    simp [HE.out]
  · have he1 : (we != 0) = true := by simpa using he
    have HE := Lib.hid he
    clear he
    go_wp2_with fail
    go_quiet (fail)
    go_wp2
    go_ret
    refine ⟨?_, below_drewN (HB2.out.alloc HB2.out.size _) _⟩
    show Ending.returned (.bool _) = _
    unfold refused
    rw [HWF.out]
    simp [HE.out]
theorem enters41 : ∀ args w, (callFunc 28 args).run Tryd.prog w = .ok (.enter 28 args) w := enters_of Tryd.func28 (by kernel_rfl) rfl

set_option maxRecDepth 100000 in
set_option maxHeartbeats 4000000 in
theorem maxRelease_calls (w : World) (p m : Nat) (S : PS) (k : ByteArray) (T : TypeId) (x : Value) (B : Nat) (w0 : World) (f : ByteArray → Int → Int × Int) (fid : FuncId) (rv : Value)
    (h : PoolAt w p m S) (hok : S.Ok) (hv : IsValuer T x B w0 f fid rv) (hS : S.vl = .iface T x) (hB : Below B w0 w) (hBs : B ≤ w.heap.size) (hk : k.size ≤ maxLen)
    (hf : ∀ k q, 0 ≤ (f k q).1 ∧ (f k q).1 ≤ 1000000000000000) :
    Calls Tryd.prog 15 #[.pointer (some ⟨p, 0, none⟩), .string k] w (SearchPost (qty S.L k) (refused f S k) w.heap.size w) := by
  obtain ⟨q0, q1, q2, q3⟩ := hok.qty k
  have H := Lib.hid h
  have HV := Lib.hid hv
  have HS := Lib.hid hS
  have HF := Lib.hid hf
  have HB0 := Lib.hid hB
  have H2 := Lib.hid ((h.alloc (.cells #[.pointer (some ⟨p, 0, none⟩)] 29)).alloc (.cells #[.string k] 9))
  have B1 := Lib.hid (blk_alloc (blk_new w (.cells #[.pointer (some ⟨p, 0, none⟩)] 29)) (.cells #[.string k] 9))
  have B2 := Lib.hid (blk_new (w.alloc (.cells #[.pointer (some ⟨p, 0, none⟩)] 29)) (.cells #[.string k] 9))
  have HB2 := Lib.hid (((Below.refl w.heap.size w).alloc (Nat.le_refl _) (.cells #[.pointer (some ⟨p, 0, none⟩)] 29)).alloc (by simp) (.cells #[.string k] 9))
  have hs2 : ((w.alloc (.cells #[.pointer (some ⟨p, 0, none⟩)] 29)).alloc (.cells #[.string k] 9)).heap.size = w.heap.size + 2 := by simp
  have HSZ := Lib.hid hs2
  have hb' : (w.alloc (.cells #[.pointer (some ⟨p, 0, none⟩)] 29)).heap.size = w.heap.size + 1 := by simp
  rw [hb'] at B2
  clear h hv hS hf hB hs2 hb'
  go_enter Tryd.func15, Tryd.ntmps15
  go_wp2
  generalize (w.alloc (.cells #[.pointer (some ⟨p, 0, none⟩)] 29)).alloc (.cells #[.string k] 9) = W at H2 B1 B2 HB2 HSZ ⊢
  obtain ⟨c0, c1, c2, c3, c4⟩ := H2.out.cells
  have x1 := (blk_cell B1.out 0).trans rfl
  have x2 := (blk_cell B2.out 0).trans rfl
  have hl0 := H2.out.2.drew.look1 hk
  have hl1 := fun o => (H2.out.2.drew.alloc o).look1 hk
  clear c0 c1 c3 c4
  go_region_held3 (fun w' => w'.cell? ⟨w.heap.size, 0, none⟩ = some (.pointer (some ⟨p, 0, none⟩)) ∧ w'.cell? ⟨w.heap.size + 1, 0, none⟩ = some (.string k) ∧ w'.cell? ⟨p, 2, none⟩ = some (.map (some m)) ∧
      (Instr.lookup 59 (.map (some m)) (.string k) false).run Tryd.prog w' = .ok (.agg #[.int .i64 (qty S.L k), .int .i64 (val S.L k)]) w')
    (first | (refine ⟨x1, x2, c2, hl0⟩) | (refine ⟨cell_alloc (cell_drew x1) _, cell_alloc (cell_drew x2) _, cell_alloc (cell_drew c2) _, hl1 _⟩) | trivial)
    (fail)
  all_goals
    rename_i hHeld
    clear hHeld hl0 hl1 x1 x2 c2
    have H3 := Lib.hid ((H2.out.alloc (.cells #[.int .i64 (qty S.L k), .int .i64 (val S.L k)] 55)).drew)
    have B4 := Lib.hid (blk_drew (blk_alloc B1.out (.cells #[.int .i64 (qty S.L k), .int .i64 (val S.L k)] 55)))
    have B5 := Lib.hid (blk_drew (blk_alloc B2.out (.cells #[.int .i64 (qty S.L k), .int .i64 (val S.L k)] 55)))
    have B6 := Lib.hid (blk_drew (blk_new W (.cells #[.int .i64 (qty S.L k), .int .i64 (val S.L k)] 55)))
    have HB3 := Lib.hid ((HB2.out.alloc HB2.out.size (.cells #[.int .i64 (qty S.L k), .int .i64 (val S.L k)] 55)).drew)
    generalize (W.alloc (.cells #[.int .i64 (qty S.L k), .int .i64 (val S.L k)] 55)).drew = W2 at H3 B4 B5 B6 HB3 ⊢
    have y := (blk_cell B6.out 0).trans rfl
    go_wp2_with fail
    refine (search_calls W2 (qty S.L k) 28 _ (refused f S k) q0 q1 enters41 ?_).mono ?_
    · intro w' i hb hi0 hi1
      have hBB : Below B w0 w' := (HB0.out.trans (HB3.out.mono hBs)).trans (hb.mono (Nat.le_trans hBs HB3.out.size))
      exact closure_calls w' _ _ _ p m S k i T x B w0 f fid rv (H3.out.below hb H3.out.lt H3.out.2.lt) hok HV.out HS.out hBB (Nat.le_trans (Nat.le_trans hBs HB3.out.size) hb.size) hk HF.out
        (blk_keep hb B4.out (Nat.le_refl _)) (blk_keep hb B5.out (Nat.le_refl _)) (blk_keep hb B6.out (Nat.le_refl _)) hi0 hi1
    · rintro e w' ⟨r, rfl, r0, r1, r2, r3, r4⟩
      have R := Lib.hid (And.intro r2 (And.intro r3 r4))
      clear r2 r3 r4
      go_wp2
      go_ret
      exact ⟨r, rfl, r0, r1, R.out.1, R.out.2.1, bstep HB3.out R.out.2.2 HB3.out.size⟩
end Go.Proofs.YtjjnljfphaimgaaDoor.C
