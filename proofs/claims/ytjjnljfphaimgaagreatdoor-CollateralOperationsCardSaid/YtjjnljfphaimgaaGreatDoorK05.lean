/- Contracts and plain laws, without conditions beyond each theorem's own: Substitute. giroref34.Value, girolaw34.Prices.Value: the valuer of the laws. sort.Search over a closure that only makes memory. MaxRelease. Clone. New. The keys of a pool's map, sorted: the shelf's contracts on slices.Sorted(maps.Keys(m)), put into the words of MapIs. Positions. '==' of structs of two fields. -/
import Derived.Deep.DeepCutAuto
import Derived.Shelf.Abstract
import Derived.Shelf.SlMaps.Clone
import Derived.Deep.AppendLies
import Derived.Laws.StructEq
import Derived.Test.YtjjnljfphaimgaaGreatDoorK01
import Derived.Test.YtjjnljfphaimgaaGreatDoorK02
import Derived.Test.YtjjnljfphaimgaaGreatDoorK04
set_option linter.all false
/- Substitute. -/
namespace Go.Proofs.YtjjnljfphaimgaaGreatDoor.C
open Go Go.RowKit Go.Maps

theorem ba_beq' (a b : ByteArray) : (a == b) = decide (a = b) := by
  cases a with | mk a => cases b with | mk b =>
  show (a == b) = _
  by_cases h : a = b
  · subst h; simp
  · have : (ByteArray.mk a) ≠ ByteArray.mk b := fun e => h (by injection e)
    simp [h, this]
theorem ins_length (x : Hold) : ∀ L : List Hold, (ins x L).length = L.length + 1
  | [] => rfl
  | y :: r => by simp only [ins]; split <;> simp [ins_length x r]
theorem del_length (L : List Hold) (k : ByteArray) : (del L k).length ≤ L.length := List.length_filter_le _ _
theorem updL_length (L : List Hold) (c : Hold) : (updL L c).length ≤ L.length + 1 := by
  unfold updL
  split
  · have := del_length L c.key; omega
  · unfold put; rw [ins_length]; have := del_length L c.key; omega
noncomputable def substF (f : ByteArray → Int → Int × Int) (S : PS) (ok : ByteArray) (oq : Int) (ik : ByteArray) (iq : Int) : Int × PS :=
  if ckRel S.L ok oq ≠ 0 then (ckRel S.L ok oq, S)
  else if isinB ik = false then (6, S)
  else if ik = ok then (7, S)
  else if ¬ (1 ≤ iq ∧ iq ≤ 1000000000000000) then (2, S)
  else if 1000000000000000 - iq < qty S.L ik then (12, S)
  else if 1024 < (S.L.length : Int) + (if has S.L ik = true then 0 else 1) - (if qty S.L ok - oq = 0 then 1 else 0) then (8, S)
  else if (worthF f ok (qty S.L ok - oq)).2.2 ≠ 0 then ((worthF f ok (qty S.L ok - oq)).2.2, S)
  else if (f ik (qty S.L ik + iq)).2 ≠ 0 then ((f ik (qty S.L ik + iq)).2, S)
  else applyF S true [⟨ok, (worthF f ok (qty S.L ok - oq)).1, (worthF f ok (qty S.L ok - oq)).2.1⟩, ⟨ik, qty S.L ik + iq, (f ik (qty S.L ik + iq)).1⟩]

set_option maxRecDepth 100000 in
set_option maxHeartbeats 16000000 in
theorem substitute_calls (w : World) (p m : Nat) (S : PS) (ok : ByteArray) (oq : Int) (ik : ByteArray) (hsz : ik.size ≤ maxLen) (iq : Int) (T : TypeId) (x : Value) (B : Nat) (w0 : World) (f : ByteArray → Int → Int × Int) (fid : FuncId) (rv : Value)
    (h : PoolAt w p m S) (hok : S.Ok) (hv : IsValuer T x B w0 f fid rv) (hS : S.vl = .iface T x) (hB : Below B w0 w) (hBs : B ≤ w.heap.size) (hk : ok.size ≤ maxLen) (hki : ik.size ≤ maxLen)
    (hf : ∀ k q, 0 ≤ (f k q).1 ∧ (f k q).1 ≤ 1000000000000000) :
    Calls Tryz.prog 28 #[.pointer (some ⟨p, 0, none⟩), .agg #[.string ok, .int .i64 oq], .agg #[.string ik, .int .i64 iq]] w (MutPost p m w (substF f S ok oq ik iq)) := by
  obtain ⟨q0, q1, q2, q3⟩ := hok.qty ok
  obtain ⟨j0, j1, j2, j3⟩ := hok.qty ik
  have hp := h.lt
  have hlen := hok.len
  have H := Lib.hid h
  have HV := Lib.hid hv
  have HS := Lib.hid hS
  have HF := Lib.hid hf
  have HCK := fun h => Lib.hid (ckRel_zero (L := S.L) (k := ok) (n := oq) h)
  clear h hv hS hf
  go_enter Tryz.func28, Tryz.ntmps28
  go_wp2_with fail
  have HB1 := Lib.hid (((Below.refl w.heap.size w).alloc (Nat.le_refl _) (.cells #[.string ok, .int .i64 oq] 62)).alloc (by simp) (.cells #[.string ik, .int .i64 iq] 62))
  have HO1 := Lib.hid (blk_alloc (blk_new w (.cells #[.string ok, .int .i64 oq] 62)) (.cells #[.string ik, .int .i64 iq] 62))
  have hi1 := blk_new (w.alloc (.cells #[.string ok, .int .i64 oq] 62)) (.cells #[.string ik, .int .i64 iq] 62)
  rw [show (w.alloc (.cells #[.string ok, .int .i64 oq] 62)).heap.size = w.heap.size + 1 from by simp] at hi1
  have HI1 := Lib.hid hi1
  clear hi1
  generalize (w.alloc (.cells #[.string ok, .int .i64 oq] 62)).alloc (.cells #[.string ik, .int .i64 iq] 62) = W1 at HB1 HO1 HI1 ⊢
  refine (checkRelease_calls W1 p m S ok oq (H.out.below HB1.out H.out.lt H.out.2.lt) hk).mono ?_
  rintro e W2 ⟨rfl, hb2⟩
  have HB2 := Lib.hid (bstep HB1.out hb2 HB1.out.size)
  have HO2 := Lib.hid (blk_keep hb2 HO1.out (Nat.le_refl _))
  have HI2 := Lib.hid (blk_keep hb2 HI1.out (Nat.le_refl _))
  have HP2 := Lib.hid (H.out.below HB2.out H.out.lt H.out.2.lt)
  clear hb2
  generalize hc : ckRel S.L ok oq = ck
  have HC := Lib.hid hc
  clear hc
  by_cases hz : ck = 0
  · subst hz
    obtain ⟨b0, b1, b2, b3⟩ := (HCK HC.out).out
    have HB0 := Lib.hid b0
    clear b0 HCK
    obtain ⟨c0, c1, c2, c3, c4⟩ := HP2.out.cells
    have x4 := (blk_cell HI2.out 0).trans rfl
    have hl0 := HP2.out.2.drew.look hki
    have hl1 := fun o => (HP2.out.2.drew.alloc o).look hki
    go_upto_region 6 with fail
    go_cut [8, 9] (fun s8 s9 wx => ∃ g : Nat, s8 = .pointer (some ⟨g, 0, none⟩) ∧ s9 = .bool (has S.L ik) ∧ Hid (wx.heap[g]? = some (.cells #[.int .i64 (qty S.L ik), .int .i64 (val S.L ik)] 82 (0, 0))) ∧ Hid (Below W2.heap.size W2 wx))
    case first =>
      go_region_held3 (fun w' => w'.cell? ⟨p, 2, none⟩ = some (.map (some m)) ∧ w'.cell? ⟨w.heap.size + 1, 0, none⟩ = some (.string ik) ∧
          (Instr.lookup 74 (.map (some m)) (.string ik) true).run Tryz.prog w' = .ok (.tuple #[.agg #[.int .i64 (qty S.L ik), .int .i64 (val S.L ik)], .bool (has S.L ik)]) w')
        (first | exact ⟨c2, x4, hl0⟩ | exact ⟨cell_alloc (cell_drew c2) _, cell_alloc (cell_drew x4) _, hl1 _⟩ | trivial) (fail)
      all_goals
        go_wp2_with fail
        go_meet
        exact ⟨W2.heap.size, rfl, rfl, Lib.hid (blk_drew (blk_new W2 _)), Lib.hid (((Below.refl _ _).alloc (Nat.le_refl _) _).drew)⟩
    case rest =>
      obtain ⟨g, rfl, rfl, HG, HBc⟩ := hcut
      clear c0 c1 c2 c3 c4 x4 hl0 hl1
      have HBC := Lib.hid (bstep HB2.out HBc.out HB2.out.size)
      have HPC := Lib.hid (H.out.below HBC.out H.out.lt H.out.2.lt)
      have HOC := Lib.hid (blk_keep HBc.out HO2.out (Nat.le_refl _))
      have HIC := Lib.hid (blk_keep HBc.out HI2.out (Nat.le_refl _))
      obtain ⟨c0, c1, c2, c3, c4⟩ := HPC.out.cells
      have x0 := (blk_cell HOC.out 0).trans rfl
      have x1 := (blk_cell HOC.out 1).trans rfl
      have hl2 := fun n => (HPC.out.2.drewN n).look1 hk
      have hlN := fun n ty => (HPC.out.2.drewN n).len ty
      have hf0 := field0
      go_wp2_with fail
      go_quiet (fail)
      clear hl2
      go_upto_if 53 with fail
      go_cut [9, 11] (fun _ s11 wx => s11 = .int .i64 ((S.L.length : Int) + (if has S.L ik = true then 0 else 1)) ∧ wx = wc.drewN nq)
      case first =>
        cases hh : has S.L ik
        · have HH := Lib.hid hh
          clear HB0
          go_wp2_with fail
          go_meet
          exact ⟨by simp [HH.out], rfl⟩
        · have HH := Lib.hid hh
          go_wp2_with fail
          go_meet
          exact ⟨by simp [HH.out], rfl⟩
      case rest =>
        obtain ⟨rfl, rfl⟩ := hcut
        have hc0 : 0 ≤ (S.L.length : Int) + (if has S.L ik = true then 0 else 1) := by split <;> omega
        have hc1 : (S.L.length : Int) + (if has S.L ik = true then 0 else 1) ≤ 1025 := by split <;> omega
        have HCNT : Hid (∃ c0 : Int, c0 = (S.L.length : Int) + (if has S.L ik = true then 0 else 1)) := ⟨_, rfl⟩
        generalize hcnt : (S.L.length : Int) + (if has S.L ik = true then 0 else 1) = cnt at hc0 hc1 ⊢
        have HCN := Lib.hid hcnt
        clear hcnt HCNT
        go_upto_if 57 with fail
        go_cut [11] (fun s11 wx => s11 = .int .i64 (cnt - (if qty S.L ok - oq = 0 then 1 else 0)) ∧ wx = wc.drewN nq)
        case first =>
          cases hh : (qty S.L ok - oq == 0)
          · go_wp2_with fail
            go_meet
            exact ⟨by rw [if_neg (by simpa using hh)]; simp, rfl⟩
          · go_wp2_with fail
            go_meet
            exact ⟨by rw [if_pos (by simpa using hh)], rfl⟩
        case rest =>
          obtain ⟨rfl, rfl⟩ := hcut
          have HCT := Lib.hid (show cnt - (if qty S.L ok - oq = 0 then 1 else 0) = (S.L.length : Int) + (if has S.L ik = true then 0 else 1) - (if qty S.L ok - oq = 0 then 1 else 0) from by rw [HCN.out])
          have hct0 : -1 ≤ cnt - (if qty S.L ok - oq = 0 then 1 else 0) := by split <;> omega
          have hct1 : cnt - (if qty S.L ok - oq = 0 then 1 else 0) ≤ 1025 := by split <;> omega
          generalize cnt - (if qty S.L ok - oq = 0 then 1 else 0) = ct at HCT hct0 hct1 ⊢
          have HP3 := Lib.hid (HPC.out.drewN nq)
          have HB3 := Lib.hid (below_drewN HBC.out nq)
          have HO3 := Lib.hid (show (wc.drewN nq).heap[w.heap.size]? = _ from HOC.out)
          have HI3 := Lib.hid (show (wc.drewN nq).heap[w.heap.size + 1]? = _ from HIC.out)
          have HG3 := Lib.hid (show (wc.drewN nq).heap[g]? = _ from HG.out)
          clear c0 c1 c2 c3 c4 x0 x1 hlN hc0 hc1
          generalize wc.drewN nq = W3 at HP3 HB3 HO3 HI3 HG3 ⊢
          have x0 := (blk_cell HI3.out 0).trans rfl
          go_wp2_with fail
          refine (valid_calls _ _ _ (Or.inl rfl) hsz).mono ?_
          rintro e W4 ⟨rfl, hb4⟩
          have HB4 := Lib.hid (bstep HB3.out hb4 HB3.out.size)
          have HP4 := Lib.hid (H.out.below HB4.out H.out.lt H.out.2.lt)
          have HO4 := Lib.hid (blk_keep hb4 HO3.out (Nat.le_refl _))
          have HI4 := Lib.hid (blk_keep hb4 HI3.out (Nat.le_refl _))
          have HG4 := Lib.hid (blk_keep hb4 HG3.out (Nat.le_refl _))
          clear x0 hb4
          have x0 := (blk_cell HO4.out 0).trans rfl
          have x1 := (blk_cell HO4.out 1).trans rfl
          have y0 := (blk_cell HI4.out 0).trans rfl
          have y1 := (blk_cell HI4.out 1).trans rfl
          have z0 := (blk_cell HG4.out 0).trans rfl
          by_cases hv : isinB ik = false
          · have hv1 : validB 0 ik = false := by simpa [validB] using hv
            have HV1 := Lib.hid hv
            clear hv
            go_wp2_with fail
            go_ret
            exact MutPost.same (by unfold substF; rw [HC.out, if_neg (by simp), if_pos HV1.out]) H.out HB4.out
          have hv1 : validB 0 ik = true := by simpa [validB] using hv
          have HV1 := Lib.hid hv
          clear hv
          by_cases hkk : ik = ok
          · have e1 : (ik == ok) = true := by rw [ba_beq']; exact decide_eq_true hkk
            have e2 : (ik.toList == ok.toList) = true := by rw [← beq_toListBytes]; exact e1
            have HK := Lib.hid hkk
            clear hkk
            go_wp2_with fail
            go_ret
            exact MutPost.same (by unfold substF; rw [HC.out, if_neg (by simp), if_neg HV1.out, if_pos HK.out]) H.out HB4.out
          have e1 : (ik == ok) = false := by rw [ba_beq']; exact decide_eq_false hkk
          have e2 : (ik.toList == ok.toList) = false := by rw [← beq_toListBytes]; exact e1
          have HK := Lib.hid hkk
          clear hkk
          by_cases ha : 1 ≤ iq ∧ iq ≤ 1000000000000000
          case neg =>
            have HA := Lib.hid ha
            clear ha
            go_wp2_with (go_at_call 52; refine (isAmount_no _ _ HA.out).mono ?_; rintro e w' ⟨rfl, rfl⟩)
            go_ret
            exact MutPost.same (by unfold substF; rw [HC.out, if_neg (by simp), if_neg HV1.out, if_neg HK.out, if_pos HA.out]) H.out HB4.out
          have ha0 := ha.1
          have ha1 := ha.2
          clear ha
          go_wp2_with (go_at_call 52; refine (isAmount_yes _ _ ha0 ha1).mono ?_; rintro e w' ⟨rfl, rfl⟩)
          · go_ret
            rename_i hov
            exact MutPost.same (by unfold substF; rw [HC.out, if_neg (by simp), if_neg HV1.out, if_neg HK.out, if_neg (by simp [ha0, ha1]), if_pos hov]) H.out HB4.out
          · go_ret
            rename_i hov hct
            exact MutPost.same (by unfold substF; rw [HC.out, if_neg (by simp), if_neg HV1.out, if_neg HK.out, if_neg (by simp [ha0, ha1]), if_neg (by omega), if_pos (by rw [← HCT.out]; exact hct)]) H.out HB4.out
          rename_i hov hct
          have HR : Hid (substF f S ok oq ik iq = if (worthF f ok (qty S.L ok - oq)).2.2 ≠ 0 then ((worthF f ok (qty S.L ok - oq)).2.2, S)
              else if (f ik (qty S.L ik + iq)).2 ≠ 0 then ((f ik (qty S.L ik + iq)).2, S)
              else applyF S true [⟨ok, (worthF f ok (qty S.L ok - oq)).1, (worthF f ok (qty S.L ok - oq)).2.1⟩, ⟨ik, qty S.L ik + iq, (f ik (qty S.L ik + iq)).1⟩]) := by
            unfold Hid substF
            rw [HC.out, if_neg (by simp), if_neg HV1.out, if_neg HK.out, if_neg (by simp [ha0, ha1]), if_neg (by omega), if_neg (by rw [← HCT.out]; omega)]
          have HW := Lib.hid (worthF_v f HF.out ok (qty S.L ok - oq))
          have HW2 := Lib.hid (HF.out ik (qty S.L ik + iq))
          have HBX := Lib.hid (hB.trans (HB4.out.mono hBs))
          refine (worth_calls W4 p m S ok (qty S.L ok - oq) T x B w0 f fid rv HP4.out HV.out HS.out HBX.out (Nat.le_trans hBs HB4.out.size) (by omega) (by omega)).mono ?_
          generalize hWF : worthF f ok (qty S.L ok - oq) = r at HR HW ⊢
          obtain ⟨uq, uv, ue⟩ := r
          clear hWF
          simp only at HR HW ⊢
          rintro e W5 ⟨rfl, hb5⟩
          have HB5 := Lib.hid (bstep HB4.out hb5 HB4.out.size)
          have HP5 := Lib.hid (H.out.below HB5.out H.out.lt H.out.2.lt)
          have HO5 := Lib.hid (blk_keep hb5 HO4.out (Nat.le_refl _))
          have HI5 := Lib.hid (blk_keep hb5 HI4.out (Nat.le_refl _))
          have HG5 := Lib.hid (blk_keep hb5 HG4.out (Nat.le_refl _))
          clear x0 x1 y0 y1 z0 hb5 e1 e2
          by_cases hz : ue = 0
          case neg =>
            have hz1 : (ue != 0) = true := by simpa using hz
            have HZ := Lib.hid hz
            clear hz
            go_wp2_with fail
            go_ret
            exact MutPost.same (by rw [HR.out, if_pos HZ.out]) H.out (HB5.out.alloc HB5.out.size _)
          have hz1 : (ue != 0) = false := by simpa using hz
          have HZ := Lib.hid hz
          clear hz
          have y0 := (blk_cell (blk_alloc HI5.out (.cells #[.int .i64 uq, .int .i64 uv] 82)) 0).trans rfl
          have y1 := (blk_cell (blk_alloc HI5.out (.cells #[.int .i64 uq, .int .i64 uv] 82)) 1).trans rfl
          have z0 := (blk_cell (blk_alloc HG5.out (.cells #[.int .i64 uq, .int .i64 uv] 82)) 0).trans rfl
          go_wp2_with fail
          have HB6 := Lib.hid (HB5.out.alloc HB5.out.size (.cells #[.int .i64 uq, .int .i64 uv] 82))
          have HP6 := Lib.hid (HP5.out.alloc (.cells #[.int .i64 uq, .int .i64 uv] 82))
          have HO6 := Lib.hid (blk_alloc HO5.out (.cells #[.int .i64 uq, .int .i64 uv] 82))
          have HI6 := Lib.hid (blk_alloc HI5.out (.cells #[.int .i64 uq, .int .i64 uv] 82))
          have HR6 := Lib.hid (blk_new W5 (.cells #[.int .i64 uq, .int .i64 uv] 82))
          clear y0 y1 z0
          generalize W5.alloc (.cells #[.int .i64 uq, .int .i64 uv] 82) = W6 at HB6 HP6 HO6 HI6 HR6 ⊢
          have HBY := Lib.hid (hB.trans (HB6.out.mono hBs))
          refine (worth_pos W6 p m S ik (qty S.L ik + iq) T x B w0 f fid rv HP6.out HV.out HS.out HBY.out (Nat.le_trans hBs HB6.out.size) (by omega) (by omega)).mono ?_
          generalize hWG : f ik (qty S.L ik + iq) = r2 at HR HW2 ⊢
          obtain ⟨nv, ne⟩ := r2
          clear hWG
          simp only at HR HW2 ⊢
          rintro e W7 ⟨rfl, hb7⟩
          have HB7 := Lib.hid (bstep HB6.out hb7 HB6.out.size)
          have HP7 := Lib.hid (H.out.below HB7.out H.out.lt H.out.2.lt)
          have HO7 := Lib.hid (blk_keep hb7 HO6.out (Nat.le_refl _))
          have HI7 := Lib.hid (blk_keep hb7 HI6.out (Nat.le_refl _))
          have HR7 := Lib.hid (blk_keep hb7 HR6.out (Nat.le_refl _))
          clear hb7
          by_cases hz : ne = 0
          case neg =>
            have hz1 : (ne != 0) = true := by simpa using hz
            have HZ2 := Lib.hid hz
            clear hz
            go_wp2_with fail
            go_ret
            exact MutPost.same (by rw [HR.out, if_neg (by simpa using HZ.out), if_pos HZ2.out]) H.out (HB7.out.alloc HB7.out.size _)
          have hz2 : (ne != 0) = false := by simpa using hz
          have HZ2 := Lib.hid hz
          clear hz
          have x0 := (blk_cell (blk_alloc HO7.out (.cells #[.int .i64 (qty S.L ik + iq), .int .i64 nv] 82)) 0).trans rfl
          have y0 := (blk_cell (blk_alloc HI7.out (.cells #[.int .i64 (qty S.L ik + iq), .int .i64 nv] 82)) 0).trans rfl
          have z0 := (blk_cell (blk_alloc HR7.out (.cells #[.int .i64 (qty S.L ik + iq), .int .i64 nv] 82)) 0).trans rfl
          have z1 := (blk_cell (blk_alloc HR7.out (.cells #[.int .i64 (qty S.L ik + iq), .int .i64 nv] 82)) 1).trans rfl
          go_wp2_with fail
          have HB8 := Lib.hid ((HB7.out.alloc HB7.out.size (.cells #[.int .i64 (qty S.L ik + iq), .int .i64 nv] 82)).alloc (by have := HB7.out.size; simp; omega) (.cells #[.string ok, .int .i64 uq, .int .i64 uv, .string ik, .int .i64 (qty S.L ik + iq), .int .i64 nv] 94))
          have HP8 := Lib.hid ((HP7.out.alloc (.cells #[.int .i64 (qty S.L ik + iq), .int .i64 nv] 82)).alloc (.cells #[.string ok, .int .i64 uq, .int .i64 uv, .string ik, .int .i64 (qty S.L ik + iq), .int .i64 nv] 94))
          have HC8 := Lib.hid (blk_new (W7.alloc (.cells #[.int .i64 (qty S.L ik + iq), .int .i64 nv] 82)) (.cells #[.string ok, .int .i64 uq, .int .i64 uv, .string ik, .int .i64 (qty S.L ik + iq), .int .i64 nv] 94))
          have hup : (updL S.L ⟨ok, uq, uv⟩).length ≤ S.L.length + 1 := updL_length _ _
          have hw := HW.out
          have hw2 := HW2.out
          refine (apply2_calls _ p m S true ⟨ok, uq, uv⟩ ⟨ik, qty S.L ik + iq, nv⟩ _ HP8.out hk hki (by unfold maxLen; omega) (by simpa using HC8.out) hok.v0 hok.v1 hw.1 hw.2 q2 q3 hw2.1 hw2.2 j2 j3 (by show 1 ≤ qty S.L ik + iq; omega) hup).mono ?_
          rintro e W9 hpost
          obtain ⟨rfl, hm1, hm2⟩ := hpost.mut H.out HB8.out
          have HM1 := Lib.hid hm1
          have HM2 := Lib.hid hm2
          clear hm1 hm2 hpost
          go_wp2
          go_ret
          show MutPost p m w _ (.returned (.int .i64 _)) _
          rw [HR.out, if_neg (by simpa using HZ.out), if_neg (by simpa using HZ2.out)]
          exact ⟨rfl, HM1.out, HM2.out⟩
  · have hz1 : (ck != 0) = true := by simpa using hz
    have HZ := Lib.hid hz
    clear hz
    go_wp2_with fail
    go_ret
    exact MutPost.same (by unfold substF; rw [HC.out, if_pos HZ.out]) H.out HB2.out
end Go.Proofs.YtjjnljfphaimgaaGreatDoor.C
/- giroref34.Value, girolaw34.Prices.Value: the valuer of the laws. -/
namespace Go.Proofs.YtjjnljfphaimgaaGreatDoor.C
open Go Go.RowKit Go.Shelf Go.Proofs

/-- A valuer's three slices. -/
structure VS where
  a0 : Option Addr
  a1 : Option Addr
  a2 : Option Addr
  c0 : Nat
  c1 : Nat
  c2 : Nat
  l0 : List ByteArray
  l1 : List Int
  l2 : List Int
def VS.x0 (V : VS) : Value := .slice V.a0 V.l0.length V.c0
def VS.x1 (V : VS) : Value := .slice V.a1 V.l1.length V.c1
def VS.x2 (V : VS) : Value := .slice V.a2 V.l2.length V.c2
structure VAt (w : World) (B : Nat) (V : VS) : Prop where
  r0 : ∀ i (h : i < V.l0.length), ∃ a, V.a0 = some a ∧ a.block < B ∧ w.cell? (a.add i) = some (.string V.l0[i])
  r1 : ∀ i (h : i < V.l1.length), ∃ a, V.a1 = some a ∧ a.block < B ∧ w.cell? (a.add i) = some (.int .i64 V.l1[i])
  r2 : ∀ i (h : i < V.l2.length), ∃ a, V.a2 = some a ∧ a.block < B ∧ w.cell? (a.add i) = some (.int .i64 V.l2[i])
  z1 : ∀ x ∈ V.l1, -9223372036854775808 ≤ x ∧ x ≤ 9223372036854775807
  z2 : ∀ x ∈ V.l2, -9223372036854775808 ≤ x ∧ x ≤ 9223372036854775807
  b0 : V.l0.length ≤ 10
  b1 : V.l1.length ≤ 10
  b2 : V.l2.length ≤ 10
theorem cell_drewN {w : World} {a : Addr} {v : Value} (h : w.cell? a = some v) (n : Nat) : (w.drewN n).cell? a = some v := h
theorem add_block (a : Addr) (i : Nat) : (a.add i).block = a.block := by unfold Addr.add; split <;> rfl
theorem VAt.below {w w' : World} {B : Nat} {V : VS} (h : VAt w B V) (hb : Below B w w') : VAt w' B V := by
  refine ⟨?_, ?_, ?_, h.z1, h.z2, h.b0, h.b1, h.b2⟩
  · intro i hi; obtain ⟨a, e, h1, h2⟩ := h.r0 i hi; exact ⟨a, e, h1, (hb.cell (by rw [add_block]; exact h1)).trans h2⟩
  · intro i hi; obtain ⟨a, e, h1, h2⟩ := h.r1 i hi; exact ⟨a, e, h1, (hb.cell (by rw [add_block]; exact h1)).trans h2⟩
  · intro i hi; obtain ⟨a, e, h1, h2⟩ := h.r2 i hi; exact ⟨a, e, h1, (hb.cell (by rw [add_block]; exact h1)).trans h2⟩
def VS.rows (V : VS) : List (ByteArray × Int × Int) := V.l0.zip (V.l1.zip V.l2)
def vlook : List (ByteArray × Int × Int) → ByteArray → Option (Int × Int)
  | [], _ => none
  | (a, n, e) :: r, k => if a = k then some (n, e) else vlook r k
def vnum (n : Int) : Int := Int.tmod (Int.tmod n 1000 + 1000) 1000
def verr (e : Int) : Int := 1 + Int.tmod (Int.tmod e 30 + 30) 30
def fV (V : VS) (k : ByteArray) (q : Int) : Int × Int :=
  match vlook V.rows k with
  | none => (0, 9)
  | some (n, e) => if e ≠ 0 then (0, verr e) else (min (max q 0 / 10 * vnum n + max q 0 % 10 * vnum n / 10) 1000000000000000, 0)
theorem tmod_range (x : Int) (n : Int) (h : 0 < n) : -n < Int.tmod x n ∧ Int.tmod x n < n := by
  constructor
  · have := Int.tmod_lt_of_pos x h
    rcases Int.le_total 0 x with h0 | h0
    · have := Int.tmod_nonneg n h0; omega
    · have h1 := Int.neg_tmod x n
      have h2 := Int.tmod_lt_of_pos (-x) h
      omega
  · exact Int.tmod_lt_of_pos x h
theorem vnum_range (n : Int) : 0 ≤ vnum n ∧ vnum n ≤ 999 := by
  unfold vnum
  have := tmod_range n 1000 (by omega)
  have h2 := Int.tmod_nonneg 1000 (a := Int.tmod n 1000 + 1000) (by omega)
  have h3 := Int.tmod_lt_of_pos (Int.tmod n 1000 + 1000) (b := 1000) (by omega)
  omega
theorem verr_range (n : Int) : 1 ≤ verr n ∧ verr n ≤ 30 := by
  unfold verr
  have := tmod_range n 30 (by omega)
  have h2 := Int.tmod_nonneg 30 (a := Int.tmod n 30 + 30) (by omega)
  have h3 := Int.tmod_lt_of_pos (Int.tmod n 30 + 30) (b := 30) (by omega)
  omega
theorem vlook_drop (rows : List (ByteArray × Int × Int)) (k : ByteArray) (i : Nat) (h : i < rows.length) :
    vlook (rows.drop i) k = if (rows[i]).1 = k then some (rows[i]).2 else vlook (rows.drop (i + 1)) k := by
  rw [List.drop_eq_getElem_cons h]
  rfl
theorem rows_length (V : VS) : V.rows.length = min V.l0.length (min V.l1.length V.l2.length) := by simp [VS.rows]
theorem rows_get (V : VS) (i : Nat) (h : i < V.rows.length) (h0 : i < V.l0.length) (h1 : i < V.l1.length) (h2 : i < V.l2.length) : V.rows[i] = (V.l0[i], V.l1[i], V.l2[i]) := by
  simp [VS.rows]

set_option maxRecDepth 100000 in
set_option maxHeartbeats 4000000 in
theorem rvalue_calls (w : World) (B : Nat) (V : VS) (k : ByteArray) (q : Int) (h : VAt w B V) (hB : B ≤ w.heap.size) (h0 : 0 ≤ q) (h1 : q ≤ 1000000000000000) :
    Calls Tryz.prog 46 #[.agg #[V.x0, V.x1, V.x2], .string k, .int .i64 q] w (Ret (.tuple #[.int .i64 (fV V k q).1, .int .i64 (fV V k q).2]) w.heap.size w) := by
  have HV := Lib.hid (h.below ((Below.refl B w).alloc hB (.cells #[V.x0, V.x1, V.x2] 26)))
  have hb0 := h.b0
  have hb1 := h.b1
  have hb2 := h.b2
  have HB0 := Lib.hid ((Below.refl w.heap.size w).alloc (Nat.le_refl _) (.cells #[V.x0, V.x1, V.x2] 26))
  have HX := Lib.hid (blk_new w (.cells #[V.x0, V.x1, V.x2] 26))
  clear h
  go_enter Tryz.func46, Tryz.ntmps46
  go_wp2
  unfold VS.x0 VS.x1 VS.x2 at HV HB0 HX ⊢
  generalize w.alloc (.cells #[.slice V.a0 V.l0.length V.c0, .slice V.a1 V.l1.length V.c1, .slice V.a2 V.l2.length V.c2] 26) = W1 at HV HB0 HX ⊢
  have x0 := (blk_cell HX.out 0).trans rfl
  have x1 := (blk_cell HX.out 1).trans rfl
  have x2 := (blk_cell HX.out 2).trans rfl
  go_loop [8] (fun v8 => ∃ i : Nat, i ≤ V.rows.length ∧ v8 = .int .i64 i ∧ Hid (vlook V.rows k = vlook (V.rows.drop i) k)) (fun v8 => V.rows.length - (intOf v8).toNat)
  case atStart => exact ⟨0, Nat.zero_le _, rfl, Lib.hid rfl⟩
  case round =>
    obtain ⟨i, hi, rfl, HE⟩ := hrel
    have hlen := rows_length V
    by_cases hlt : i < V.rows.length
    · have g0 : i < V.l0.length := by omega
      have g1 : i < V.l1.length := by omega
      have g2 : i < V.l2.length := by omega
      have HD := Lib.hid (vlook_drop V.rows k i hlt)
      rw [rows_get V i hlt g0 g1 g2] at HD
      obtain ⟨a0, e0, -, y0⟩ := HV.out.r0 i g0
      obtain ⟨a1, e1, -, y1⟩ := HV.out.r1 i g1
      obtain ⟨a2, e2, -, y2⟩ := HV.out.r2 i g2
      have z1 := HV.out.z1 _ (List.getElem_mem g1)
      have z2 := HV.out.z2 _ (List.getElem_mem g2)
      rw [e0] at x0
      rw [e1] at x1
      rw [e2] at x2
      generalize V.l0[i] = ak at y0 HD
      generalize V.l1[i] = an at y1 HD z1
      generalize V.l2[i] = ae at y2 HD z2
      simp only at HD
      by_cases hk : ak = k
      · have hkb := hk
        subst hkb
        have HF : Hid (vlook V.rows ak = some (an, ae)) := Lib.hid (by rw [HE.out, HD.out, if_pos rfl])
        by_cases hz : ae = 0
        · subst hz
          go_wp2
          go_ret2
          refine ⟨?_, HB0.out⟩
          unfold fV; rw [HF.out, show max q 0 = q from by omega]
          show Ending.returned (.tuple #[.int .i64 _, .int .i64 0]) = .returned (.tuple #[.int .i64 (min (q / 10 * vnum an + q % 10 * vnum an / 10) 1000000000000000), .int .i64 0])
          have hr := vnum_range an
          have ht := tmod_range an 1000 (by omega)
          have e1 : wrap64 (an.tmod 1000 + 1000) = an.tmod 1000 + 1000 := by unfold wrap64; omega
          rw [e1]
          have e2 : (an.tmod 1000 + 1000).tmod 1000 = vnum an := rfl
          rw [e2]
          have p0 : 0 ≤ q / 10 * vnum an := Int.mul_nonneg (by omega) hr.1
          have p1 : q / 10 * vnum an ≤ 100000000000000 * 999 := Int.mul_le_mul (by omega) hr.2 hr.1 (by omega)
          have p2 : 0 ≤ q % 10 * vnum an := Int.mul_nonneg (by omega) hr.1
          have p3 : q % 10 * vnum an ≤ 10 * 999 := Int.mul_le_mul (by omega) hr.2 hr.1 (by omega)
          generalize q / 10 * vnum an = X at p0 p1
          generalize q % 10 * vnum an = Y at p2 p3
          have e3 : wrap64 X = X := by unfold wrap64; omega
          have e4 : wrap64 Y = Y := by unfold wrap64; omega
          rw [e3, e4, Int.tdiv_eq_ediv_of_nonneg p2]
          have e5 : wrap64 (Y / 10) = Y / 10 := by unfold wrap64; omega
          rw [e5]
          have e6 : wrap64 (X + Y / 10) = X + Y / 10 := by unfold wrap64; omega
          rw [e6]
        · have hz1 : (ae != 0) = true := by simp [hz]
          have y2N := fun n => cell_drewN y2 n
          have x2N := fun n => cell_drewN x2 n
          go_wp2
          go_quiet (fail)
          go_wp2
          go_ret2
          refine ⟨?_, bdrewN HB0.out _⟩
          unfold fV; rw [HF.out]
          simp only [ne_eq, hz, not_false_eq_true, if_true]
          show Ending.returned (.tuple #[.int .i64 0, .int .i64 (wrap64 (1 + (wrap64 (ae.tmod 30 + 30)).tmod 30))]) = .returned (.tuple #[.int .i64 0, .int .i64 (verr ae)])
          have ht := tmod_range ae 30 (by omega)
          have hr := verr_range ae
          have e1 : wrap64 (ae.tmod 30 + 30) = ae.tmod 30 + 30 := by unfold wrap64; omega
          rw [e1]
          have e2 : 1 + (ae.tmod 30 + 30).tmod 30 = verr ae := rfl
          rw [e2]
          have e3 : wrap64 (verr ae) = verr ae := by unfold wrap64; omega
          rw [e3]
      · have hk1 : (ak == k) = false := by rw [ba_beq']; simp [hk]
        have hk2 : (ak.toList == k.toList) = false := by
          rw [ByteArray.toList_eq, ByteArray.toList_eq]
          simp only [beq_eq_false_iff_ne, ne_eq]
          intro e; exact hk (by cases ak; cases k; simp only [ByteArray.mk.injEq]; exact Array.toList_inj.1 e)
        have HD' : Hid (vlook (V.rows.drop i) k = vlook (V.rows.drop (i + 1)) k) := Lib.hid (by rw [HD.out, if_neg hk])
        clear hk
        go_wp2
        refine ⟨⟨i + 1, by omega, (by first | rfl | go_num), Lib.hid ?_⟩, by simp [intOf]; omega⟩
        rw [HE.out, HD'.out]
    · obtain rfl : i = V.rows.length := by omega
      have HF : Hid (vlook V.rows k = none) := Lib.hid (by rw [HE.out, List.drop_length]; rfl)
      by_cases g0 : V.rows.length < V.l0.length
      all_goals by_cases g1 : V.rows.length < V.l1.length
      all_goals by_cases g2 : V.rows.length < V.l2.length
      all_goals try omega
      all_goals go_wp2
      all_goals go_ret2
      all_goals exact ⟨by unfold fV; rw [HF.out]; rfl, HB0.out⟩

theorem fV_range' (V : VS) (k : ByteArray) (q : Int) : 0 ≤ (fV V k q).1 ∧ (fV V k q).1 ≤ 1000000000000000 := by
  unfold fV
  split
  · simp
  · rename_i n e _
    split
    · simp
    · have hr := vnum_range n
      have p0 : 0 ≤ max q 0 / 10 * vnum n := Int.mul_nonneg (by omega) hr.1
      have p2 : 0 ≤ max q 0 % 10 * vnum n := Int.mul_nonneg (by omega) hr.1
      simp only
      omega
theorem fV_range (V : VS) (k : ByteArray) (q : Int) (_ : 0 ≤ q) : 0 ≤ (fV V k q).1 ∧ (fV V k q).1 ≤ 1000000000000000 := fV_range' V k q
theorem fV_err (V : VS) (k : ByteArray) (q : Int) : 0 ≤ (fV V k q).2 ∧ (fV V k q).2 ≤ 30 := by
  unfold fV
  split
  · simp
  · rename_i n e _
    split
    · have := verr_range e; simp only; omega
    · simp
set_option maxRecDepth 100000 in
set_option maxHeartbeats 4000000 in
theorem pvalue_calls (w : World) (B : Nat) (V : VS) (o k : ByteArray) (q : Int) (h : VAt w B V) (hB : B ≤ w.heap.size) (h0 : 0 ≤ q) (h1 : q ≤ 1000000000000000) :
    Calls Tryz.prog 135 #[.agg #[V.x0, V.x1, V.x2], .string o, .string k, .int .i64 q] w (Ret (.tuple #[.int .i64 (fV V k q).1, .int .i64 (fV V k q).2]) w.heap.size w) := by
  have HV := Lib.hid (h.below ((Below.refl B w).alloc hB (.cells #[V.x0, V.x1, V.x2] 35)))
  have HB0 := Lib.hid ((Below.refl w.heap.size w).alloc (Nat.le_refl _) (.cells #[V.x0, V.x1, V.x2] 35))
  have HX := Lib.hid (blk_new w (.cells #[V.x0, V.x1, V.x2] 35))
  clear h
  unfold VS.x0 VS.x1 VS.x2 at HV HB0 HX ⊢
  go_enter Tryz.func135, Tryz.ntmps135
  go_wp2_with fail
  generalize w.alloc (.cells #[.slice V.a0 V.l0.length V.c0, .slice V.a1 V.l1.length V.c1, .slice V.a2 V.l2.length V.c2] 35) = W1 at HV HB0 HX ⊢
  have x0 := (blk_cell HX.out 0).trans rfl
  have x1 := (blk_cell HX.out 1).trans rfl
  have x2 := (blk_cell HX.out 2).trans rfl
  go_wp2_with fail
  refine (rvalue_calls _ B V k q HV.out (Nat.le_trans hB HB0.out.size) h0 h1).mono ?_
  rintro e w2 ⟨rfl, hb⟩
  have HB1 := Lib.hid (bstep HB0.out hb HB0.out.size)
  clear hb
  go_wp2_with fail
  go_ret2
  exact ⟨rfl, HB1.out⟩
end Go.Proofs.YtjjnljfphaimgaaGreatDoor.C
/- sort.Search over a closure that only makes memory. -/
namespace Go.Proofs.YtjjnljfphaimgaaGreatDoor.C
open Go Go.RowKit

def SearchPost (n : Int) (p : Int → Bool) (B : Nat) (w : World) (e : Ending) (w' : World) : Prop :=
  ∃ r : Int, e = .returned (.int .i64 r) ∧ 0 ≤ r ∧ r ≤ n ∧ (r < n → p r = true) ∧ (0 < r → p (r - 1) = false) ∧ Below B w w'

set_option maxRecDepth 100000 in
set_option maxHeartbeats 2000000 in
theorem search_calls (w : World) (n : Int) (g : Nat) (cb : Array Value) (p : Int → Bool) (h0 : 0 ≤ n) (h1 : n ≤ 1000000000000000)
    (eg : ∀ args w, (callFunc g args).run Tryz.prog w = .ok (.enter g args) w)
    (hf : ∀ (w' : World) (i : Int), Below w.heap.size w w' → 0 ≤ i → i < n → Calls Tryz.prog g (#[.int .i64 i] ++ cb) w' fun e w'' => e = .returned (.bool (p i)) ∧ Below w'.heap.size w' w'') :
    Calls Tryz.prog 43 #[.int .i64 n, .func (.func g) #[] cb] w (SearchPost n p w.heap.size w) := by
  have HF := Lib.hid hf
  clear hf
  go_enter Tryz.func43, Tryz.ntmps43
  go_wp2
  go_loopw [5, 6] (fun v5 v6 wr => ∃ i j : Int, v5 = .int .i64 i ∧ v6 = .int .i64 j ∧ 0 ≤ i ∧ i ≤ j ∧ j ≤ n ∧ Hid (0 < i → p (i - 1) = false) ∧ Hid (j < n → p j = true) ∧ Hid (Below w.heap.size w wr)) (fun v5 v6 _ => (intOf v6 - intOf v5).toNat)
  case atStart => exact ⟨0, n, rfl, rfl, by omega, h0, by omega, Lib.hid (fun h => absurd h (by omega)), Lib.hid (fun h => absurd h (by omega)), Lib.hid (Below.refl _ _)⟩
  case round =>
    obtain ⟨i, j, rfl, rfl, hi, hij, hj, HI, HJ, HB⟩ := hrel
    by_cases hlt : i < j
    · go_wp2_with fail
      have hm0 : 0 ≤ (i + j) / 2 := by omega
      have hm1 : i ≤ (i + j) / 2 := by omega
      have hm2 : (i + j) / 2 < j := by omega
      refine (HF.out wr ((i + j) / 2) HB.out hm0 (by omega)).mono ?_
      rintro e w'' ⟨rfl, hb⟩
      have HB2 := Lib.hid (bstep HB.out hb HB.out.size)
      clear hb
      generalize (i + j) / 2 = h at hm0 hm1 hm2 ⊢
      cases hp : p h
      · have HP := Lib.hid hp
        clear hp
        go_wp2
        go_roundw
        case rel => exact ⟨h + 1, j, rfl, rfl, by omega, by omega, hj, Lib.hid (fun _ => by rw [show h + 1 - 1 = h from by omega]; exact HP.out), HJ, HB2⟩
        case measure => simp [intOf]; omega
      · have HP := Lib.hid hp
        clear hp
        go_wp2
        go_roundw
        case rel => exact ⟨i, h, rfl, rfl, hi, by omega, by omega, HI, Lib.hid (fun _ => HP.out), HB2⟩
        case measure => simp [intOf]; omega
    · go_wp2_with fail
      go_ret
      exact ⟨i, rfl, hi, by omega, by rw [show i = j from by omega]; exact HJ.out, HI.out, HB.out⟩
end Go.Proofs.YtjjnljfphaimgaaGreatDoor.C
/- MaxRelease. -/
namespace Go.Proofs.YtjjnljfphaimgaaGreatDoor.C
open Go Go.RowKit Go.Maps

/-- MaxRelease's closure: is the release of more than i refused? -/
def refused (f : ByteArray → Int → Int × Int) (S : PS) (k : ByteArray) (i : Int) : Bool :=
  decide ((worthF f k (qty S.L k - i - 1)).2.2 ≠ 0) || decide (S.value - val S.L k + (worthF f k (qty S.L k - i - 1)).2.1 < S.req)

set_option maxRecDepth 100000 in
set_option maxHeartbeats 4000000 in
theorem closure_calls (w : World) (bp bk bo : Nat) (p m : Nat) (S : PS) (k : ByteArray) (i : Int) (T : TypeId) (x : Value) (B : Nat) (w0 : World) (f : ByteArray → Int → Int × Int) (fid : FuncId) (rv : Value)
    (h : PoolAt w p m S) (hok : S.Ok) (hv : IsValuer T x B w0 f fid rv) (hS : S.vl = .iface T x) (hB : Below B w0 w) (hBs : B ≤ w.heap.size) (hk : k.size ≤ maxLen)
    (hf : ∀ k q, 0 ≤ (f k q).1 ∧ (f k q).1 ≤ 1000000000000000)
    (b1 : w.heap[bp]? = some (.cells #[.pointer (some ⟨p, 0, none⟩)] 30 (0, 0))) (b2 : w.heap[bk]? = some (.cells #[.string k] 9 (0, 0)))
    (b3 : w.heap[bo]? = some (.cells #[.int .i64 (qty S.L k), .int .i64 (val S.L k)] 82 (0, 0))) (i0 : 0 ≤ i) (i1 : i < qty S.L k) :
    Calls Tryz.prog 41 #[.int .i64 i, .pointer (some ⟨bp, 0, none⟩), .pointer (some ⟨bk, 0, none⟩), .pointer (some ⟨bo, 0, none⟩)] w fun e w' => e = .returned (.bool (refused f S k i)) ∧ Below w.heap.size w w' := by
  obtain ⟨q0, q1, q2, q3⟩ := hok.qty k
  have v0 := hok.v0
  have v1 := hok.v1
  have H := Lib.hid h
  have HV := Lib.hid hv
  have HS := Lib.hid hS
  have B1 := Lib.hid b1
  have B2 := Lib.hid b2
  have B3 := Lib.hid b3
  have HW := Lib.hid (worthF_v f hf k (qty S.L k - i - 1))
  have x1 := (blk_cell b1 0).trans rfl
  have x2 := (blk_cell b2 0).trans rfl
  have x3 := (blk_cell b3 0).trans rfl
  clear h hv hS b1 b2 b3
  go_enter Tryz.func41, Tryz.ntmps41
  go_wp2_with fail
  refine (worth_calls _ p m S k (qty S.L k - i - 1) T x B w0 f fid rv H.out HV.out HS.out hB hBs (by omega) (by omega)).mono ?_
  generalize hWF : worthF f k (qty S.L k - i - 1) = r at HW ⊢
  have HWF := Lib.hid hWF
  clear hWF
  obtain ⟨wq, wv, we⟩ := r
  simp only at HW ⊢
  rintro e w2 ⟨rfl, hb2⟩
  have HB2 := Lib.hid hb2
  have HP2 := Lib.hid (H.out.below hb2 H.out.lt H.out.2.lt)
  have w0 := HW.out.1
  have w1 := HW.out.2
  have y1 := (blk_cell (blk_keep hb2 B1.out (Nat.le_refl _)) 0).trans rfl
  have y3 := (blk_cell (blk_keep hb2 B3.out (Nat.le_refl _)) 1).trans rfl
  clear x1 x2 x3 hb2
  obtain ⟨c0, c1, c2, c3, c4⟩ := HP2.out.cells
  have d1 := cell_alloc y1 (.cells #[.int .i64 wq, .int .i64 wv] 82)
  have d3 := cell_alloc y3 (.cells #[.int .i64 wq, .int .i64 wv] 82)
  have d4 := cell_alloc c3 (.cells #[.int .i64 wq, .int .i64 wv] 82)
  have d5 := cell_alloc c4 (.cells #[.int .i64 wq, .int .i64 wv] 82)
  have d6 := (blk_cell (blk_new w2 (.cells #[.int .i64 wq, .int .i64 wv] 82)) 1).trans rfl
  by_cases he : we = 0
  · have he1 : (we != 0) = false := by simpa using he
    have HE := Lib.hid he
    clear he
    go_wp2_with fail
    go_quiet (fail)
    go_wp2
    go_ret
    refine ⟨?_, below_drewN (HB2.out.alloc HB2.out.size _) _⟩
    show Ending.returned (.bool _) = _
    unfold refused
    rw [HWF.out]
    simp [HE.out]
  · have he1 : (we != 0) = true := by simpa using he
    have HE := Lib.hid he
    clear he
    go_wp2_with fail
    go_quiet (fail)
    go_wp2
    go_ret
    refine ⟨?_, below_drewN (HB2.out.alloc HB2.out.size _) _⟩
    show Ending.returned (.bool _) = _
    unfold refused
    rw [HWF.out]
    simp [HE.out]
theorem enters41 : ∀ args w, (callFunc 41 args).run Tryz.prog w = .ok (.enter 41 args) w := enters_of Tryz.func41 (by kernel_rfl) rfl

set_option maxRecDepth 100000 in
set_option maxHeartbeats 4000000 in
theorem maxRelease_calls (w : World) (p m : Nat) (S : PS) (k : ByteArray) (T : TypeId) (x : Value) (B : Nat) (w0 : World) (f : ByteArray → Int → Int × Int) (fid : FuncId) (rv : Value)
    (h : PoolAt w p m S) (hok : S.Ok) (hv : IsValuer T x B w0 f fid rv) (hS : S.vl = .iface T x) (hB : Below B w0 w) (hBs : B ≤ w.heap.size) (hk : k.size ≤ maxLen)
    (hf : ∀ k q, 0 ≤ (f k q).1 ∧ (f k q).1 ≤ 1000000000000000) :
    Calls Tryz.prog 17 #[.pointer (some ⟨p, 0, none⟩), .string k] w (SearchPost (qty S.L k) (refused f S k) w.heap.size w) := by
  obtain ⟨q0, q1, q2, q3⟩ := hok.qty k
  have H := Lib.hid h
  have HV := Lib.hid hv
  have HS := Lib.hid hS
  have HF := Lib.hid hf
  have HB0 := Lib.hid hB
  have H2 := Lib.hid ((h.alloc (.cells #[.pointer (some ⟨p, 0, none⟩)] 30)).alloc (.cells #[.string k] 9))
  have B1 := Lib.hid (blk_alloc (blk_new w (.cells #[.pointer (some ⟨p, 0, none⟩)] 30)) (.cells #[.string k] 9))
  have B2 := Lib.hid (blk_new (w.alloc (.cells #[.pointer (some ⟨p, 0, none⟩)] 30)) (.cells #[.string k] 9))
  have HB2 := Lib.hid (((Below.refl w.heap.size w).alloc (Nat.le_refl _) (.cells #[.pointer (some ⟨p, 0, none⟩)] 30)).alloc (by simp) (.cells #[.string k] 9))
  have hs2 : ((w.alloc (.cells #[.pointer (some ⟨p, 0, none⟩)] 30)).alloc (.cells #[.string k] 9)).heap.size = w.heap.size + 2 := by simp
  have HSZ := Lib.hid hs2
  have hb' : (w.alloc (.cells #[.pointer (some ⟨p, 0, none⟩)] 30)).heap.size = w.heap.size + 1 := by simp
  rw [hb'] at B2
  clear h hv hS hf hB hs2 hb'
  go_enter Tryz.func17, Tryz.ntmps17
  go_wp2
  generalize (w.alloc (.cells #[.pointer (some ⟨p, 0, none⟩)] 30)).alloc (.cells #[.string k] 9) = W at H2 B1 B2 HB2 HSZ ⊢
  obtain ⟨c0, c1, c2, c3, c4⟩ := H2.out.cells
  have x1 := (blk_cell B1.out 0).trans rfl
  have x2 := (blk_cell B2.out 0).trans rfl
  have hl0 := H2.out.2.drew.look1 hk
  have hl1 := fun o => (H2.out.2.drew.alloc o).look1 hk
  clear c0 c1 c3 c4
  go_region_held3 (fun w' => w'.cell? ⟨w.heap.size, 0, none⟩ = some (.pointer (some ⟨p, 0, none⟩)) ∧ w'.cell? ⟨w.heap.size + 1, 0, none⟩ = some (.string k) ∧ w'.cell? ⟨p, 2, none⟩ = some (.map (some m)) ∧
      (Instr.lookup 74 (.map (some m)) (.string k) false).run Tryz.prog w' = .ok (.agg #[.int .i64 (qty S.L k), .int .i64 (val S.L k)]) w')
    (first | (refine ⟨x1, x2, c2, hl0⟩) | (refine ⟨cell_alloc (cell_drew x1) _, cell_alloc (cell_drew x2) _, cell_alloc (cell_drew c2) _, hl1 _⟩) | trivial)
    (fail)
  all_goals
    rename_i hHeld
    clear hHeld hl0 hl1 x1 x2 c2
    have H3 := Lib.hid ((H2.out.alloc (.cells #[.int .i64 (qty S.L k), .int .i64 (val S.L k)] 82)).drew)
    have B4 := Lib.hid (blk_drew (blk_alloc B1.out (.cells #[.int .i64 (qty S.L k), .int .i64 (val S.L k)] 82)))
    have B5 := Lib.hid (blk_drew (blk_alloc B2.out (.cells #[.int .i64 (qty S.L k), .int .i64 (val S.L k)] 82)))
    have B6 := Lib.hid (blk_drew (blk_new W (.cells #[.int .i64 (qty S.L k), .int .i64 (val S.L k)] 82)))
    have HB3 := Lib.hid ((HB2.out.alloc HB2.out.size (.cells #[.int .i64 (qty S.L k), .int .i64 (val S.L k)] 82)).drew)
    generalize (W.alloc (.cells #[.int .i64 (qty S.L k), .int .i64 (val S.L k)] 82)).drew = W2 at H3 B4 B5 B6 HB3 ⊢
    have y := (blk_cell B6.out 0).trans rfl
    go_wp2_with fail
    refine (search_calls W2 (qty S.L k) 41 _ (refused f S k) q0 q1 enters41 ?_).mono ?_
    · intro w' i hb hi0 hi1
      have hBB : Below B w0 w' := (HB0.out.trans (HB3.out.mono hBs)).trans (hb.mono (Nat.le_trans hBs HB3.out.size))
      exact closure_calls w' _ _ _ p m S k i T x B w0 f fid rv (H3.out.below hb H3.out.lt H3.out.2.lt) hok HV.out HS.out hBB (Nat.le_trans (Nat.le_trans hBs HB3.out.size) hb.size) hk HF.out
        (blk_keep hb B4.out (Nat.le_refl _)) (blk_keep hb B5.out (Nat.le_refl _)) (blk_keep hb B6.out (Nat.le_refl _)) hi0 hi1
    · rintro e w' ⟨r, rfl, r0, r1, r2, r3, r4⟩
      have R := Lib.hid (And.intro r2 (And.intro r3 r4))
      clear r2 r3 r4
      go_wp2
      go_ret
      exact ⟨r, rfl, r0, r1, R.out.1, R.out.2.1, bstep HB3.out R.out.2.2 HB3.out.size⟩
end Go.Proofs.YtjjnljfphaimgaaGreatDoor.C
/- Clone. -/
namespace Go.Proofs.YtjjnljfphaimgaaGreatDoor.C
open Go Go.RowKit Go.Maps

set_option maxRecDepth 100000 in
set_option maxHeartbeats 2000000 in
theorem mapsClone_calls (w : World) (m : Nat) (L : List Hold) (h : MapIs w m L) :
    Calls Tryz.prog 48 #[.map (some m)] w fun e w' => e = .returned (.map (some w.heap.size)) ∧ MapIs w' w.heap.size L ∧ Below w.heap.size w w' := by
  obtain ⟨es, clock, hb, r⟩ := h
  have R := Lib.hid r
  have hq := fun w => run_eql_map_nil_sl (P := Tryz.prog) w 74 _ _ (some m) Tryz.underlying74
  clear r
  go_enter Tryz.func48, Tryz.ntmps48
  go_wp2
  rw [run_callFunc_extern Tryz.func59 (by kernel_rfl) (by kernel_rfl) (by kernel_rfl) (e := Extern.MapsClone.clone) (by kernel_rfl), run_maps_clone_sl w 74 hb]
  simp only [Result.andThen]
  rw [Oper.upon_value]
  go_wp2
  rw [run_typeAssert_map_sl _ 74 20 _ _ _ Tryz.underlying74]
  simp only [Result.andThen]
  rw [Oper.upon_value]
  go_wp2
  go_ret
  exact ⟨rfl, ⟨es, clock, (MapKept.heap_alloc w _).1, R.out⟩, (Below.refl _ w).alloc (Nat.le_refl _) _⟩

def ClonePost (S : PS) (B : Nat) (w : World) (e : Ending) (w' : World) : Prop := ∃ p' m', e = .returned (.pointer (some ⟨p', 0, none⟩)) ∧ PoolAt w' p' m' S ∧ B ≤ p' ∧ B ≤ m' ∧ Below B w w'

set_option maxRecDepth 100000 in
set_option maxHeartbeats 2000000 in
theorem clone_calls (w : World) (p m : Nat) (S : PS) (T : TypeId) (x : Value) (h : PoolAt w p m S) (hS : S.vl = .iface T x) :
    Calls Tryz.prog 20 #[.pointer (some ⟨p, 0, none⟩)] w (ClonePost S w.heap.size w) := by
  obtain ⟨c0, c1, c2, c3, c4⟩ := h.cells
  have H := Lib.hid h
  have hp := h.lt
  have hm := h.2.lt
  rw [hS] at c1
  have HS := Lib.hid hS
  clear h hS
  go_enter Tryz.func20, Tryz.ntmps20
  go_wp2_with fail
  have B0 := Lib.hid (blk_new w (.cells #[.string S.owner, .iface T x, .map (some m), .int .i64 S.req, .int .i64 S.value] 76))
  have HB := Lib.hid ((Below.refl w.heap.size w).alloc (Nat.le_refl _) (.cells #[.string S.owner, .iface T x, .map (some m), .int .i64 S.req, .int .i64 S.value] 76))
  have HM := Lib.hid (H.out.2.alloc (.cells #[.string S.owner, .iface T x, .map (some m), .int .i64 S.req, .int .i64 S.value] 76))
  generalize w.alloc (.cells #[.string S.owner, .iface T x, .map (some m), .int .i64 S.req, .int .i64 S.value] 76) = W at B0 HB HM ⊢
  refine (mapsClone_calls W m S.L HM.out).mono ?_
  rintro e w2 ⟨rfl, h2, hb2⟩
  have B2 := Lib.hid (blk_keep hb2 B0.out (Nat.le_refl _))
  have HB2 := Lib.hid (bstep HB.out hb2 HB.out.size)
  have H2 := Lib.hid h2
  have hW : w.heap.size < W.heap.size := blk_lt B0.out
  clear c0 c1 c2 c3 c4 h2 hb2
  have y2 := (blk_cell B2.out 2).trans rfl
  have f2 := blk_frozen B2.out 2
  go_wp2
  go_ret
  refine ⟨w.heap.size, W.heap.size, rfl, ⟨?_, H2.out.setCell (by simp; omega) _⟩, Nat.le_refl _, by omega, HB2.out.setCell (by simp) _⟩
  rw [blk_set B2.out 2]
  rw [PS.row, HS.out]
  rfl
end Go.Proofs.YtjjnljfphaimgaaGreatDoor.C
/- New. -/
namespace Go.Proofs.YtjjnljfphaimgaaGreatDoor.C
open Go Go.RowKit Go.Maps

def NewOk (owner : ByteArray) (vl : Value) (B : Nat) (w : World) (e : Ending) (w' : World) : Prop :=
  ∃ p m, e = .returned (.tuple #[.pointer (some ⟨p, 0, none⟩), .int .i64 0]) ∧ PoolAt w' p m ⟨owner, vl, [], 0, 0⟩ ∧ B ≤ p ∧ B ≤ m ∧ Below B w w'

set_option maxRecDepth 100000 in
set_option maxHeartbeats 2000000 in
theorem new_ok (w : World) (owner : ByteArray) (hsz : owner.size ≤ maxLen) (T : TypeId) (x : Value) (h : memberB owner = true) :
    Calls Tryz.prog 12 #[.string owner, .iface T x] w (NewOk owner (.iface T x) w.heap.size w) := by
  have hv : validB 1 owner = true := by simpa [validB] using h
  have hmm := @run_makeMap Tryz.prog
  clear h
  go_enter Tryz.func12, Tryz.ntmps12
  go_wp2_with (go_at_call 34; refine (valid_calls _ _ _ (Or.inr rfl) hsz).mono ?_; rintro e w1 ⟨rfl, hb1⟩)
  go_ret2
  have hs := hb1.size
  refine ⟨w1.heap.size + 1, w1.heap.size, rfl, ⟨?_, (MapIs.made w1).alloc _⟩, by omega, hs, ((hb1.alloc hs _).alloc (by simp; omega) _)⟩
  have := blk_new (w1.alloc (.map #[] 0)) (.cells #[.string owner, .iface T x, .map (some w1.heap.size), .int .i64 0, .int .i64 0] 76)
  simpa [PS.row] using this
set_option maxRecDepth 100000 in
set_option maxHeartbeats 2000000 in
theorem new_bad (w : World) (owner : ByteArray) (hsz : owner.size ≤ maxLen) (T : TypeId) (x : Value) (h : memberB owner = false) :
    Calls Tryz.prog 12 #[.string owner, .iface T x] w (Ret (.tuple #[.pointer none, .int .i64 6]) w.heap.size w) := by
  have hv : validB 1 owner = false := by simpa [validB] using h
  have hmm := @run_makeMap Tryz.prog
  clear h
  go_enter Tryz.func12, Tryz.ntmps12
  go_wp2_with (go_at_call 34; refine (valid_calls _ _ _ (Or.inr rfl) hsz).mono ?_; rintro e w1 ⟨rfl, hb1⟩)
  go_ret2
  exact ⟨rfl, hb1⟩
end Go.Proofs.YtjjnljfphaimgaaGreatDoor.C
/- The keys of a pool's map, sorted: the shelf's contracts on slices.Sorted(maps.Keys(m)), put into the words of MapIs. -/
namespace Go.Proofs.YtjjnljfphaimgaaGreatDoor.C
open Go Go.RowKit Go.Maps Go.Sort Go.Shelf Go.Proofs

theorem bytesBefore_lt : ∀ a b : List UInt8, bytesBefore a b = true ↔ a < b
  | [], [] => by simp [bytesBefore]
  | [], _ :: _ => by simp [bytesBefore]
  | _ :: _, [] => by simp [bytesBefore]
  | a :: r, b :: s => by
    simp only [bytesBefore, Bool.or_eq_true, decide_eq_true_eq, Bool.and_eq_true, beq_iff_eq, bytesBefore_lt r s]
    constructor
    · rintro (h | ⟨rfl, h⟩)
      · exact List.Lex.rel h
      · exact List.Lex.cons h
    · intro h
      cases h with
      | rel h => exact Or.inl h
      | cons h => exact Or.inr ⟨rfl, h⟩

theorem MapIs.sorted {w : World} {m : Nat} {L : List Hold} (h : MapIs w m L) : L.Pairwise (fun a b => kbefore a.key b.key = true) := by
  obtain ⟨es, he, hp, _⟩ := World.ownsMap.canon h klaw
  simp only [mapD, DataW.map.injEq] at he
  subst he
  rw [List.pairwise_map] at hp
  exact hp
theorem strKeys_mapD (L : List Hold) : strKeys (mapD L) = L.map fun h => h.key.data.toList := by
  simp [strKeys, mapD, ent, litK, strOf]
theorem mergeSort_keys {ss : List (List UInt8)} {L : List Hold} (hp : ss.Perm (strKeys (mapD L))) (hs : L.Pairwise (fun a b => kbefore a.key b.key = true)) :
    ss.mergeSort (fun x y => decide (x ≤ y)) = L.map fun h => h.key.data.toList := by
  rw [strKeys_mapD] at hp
  have h1 : (ss.mergeSort (fun x y => decide (x ≤ y))).Pairwise (fun x y => decide (x ≤ y) = true) :=
    List.pairwise_mergeSort (fun a b c h1 h2 => by simp only [decide_eq_true_eq] at *; exact List.le_trans h1 h2) (fun a b => by simp only [Bool.or_eq_true, decide_eq_true_eq]; exact List.le_total a b) ss
  have h2 : (L.map fun h => h.key.data.toList).Pairwise (fun x y => decide (x ≤ y) = true) := by
    rw [List.pairwise_map]
    exact hs.imp fun {a b} h => by
      simp only [decide_eq_true_eq]
      exact List.le_of_lt ((bytesBefore_lt _ _).1 h)
  refine List.Perm.eq_of_pairwise ?_ h1 h2 ((List.mergeSort_perm _ _).trans hp)
  intro a b _ _ ha hb
  simp only [decide_eq_true_eq] at ha hb
  exact List.le_antisymm ha hb

theorem keys_calls (mb : Option Nat) (W : World) : Calls Tryz.prog 55 #[.map mb] W fun e w' => e = .returned (.func (.func 62) #[] #[.pointer (some ⟨W.heap.size, 0, none⟩)]) ∧ w' = W.alloc (.cells #[.map mb] 74) :=
  callsIn_wide.1 (AnyZ.keys_in Tryz.keys55 Fence.wide 5 trivial rfl mb W)

def keyRow (L : List Hold) : List Value := L.map fun h => .string h.key
def SortedPost (base : Nat) (L : List Hold) (w : World) (e : Ending) (w' : World) : Prop := ∃ v, e = .returned v ∧ w'.ownsRow base 9 1 v L.length (keyRow L) ∧ Below w.heap.size w w'

set_option maxHeartbeats 1000000 in
theorem sortedKeys_calls (w : World) (m : Nat) (L : List Hold) (h : MapIs w m L) (hl : L.length ≤ 1024) :
    Calls Tryz.prog 54 #[.func (.func 62) #[] #[.pointer (some ⟨w.heap.size, 0, none⟩)]] (w.alloc (.cells #[.map (some m)] 74)) (SortedPost w.heap.size L (w.alloc (.cells #[.map (some m)] 74))) := by
  have hbl := h.lt
  have hsz := mapD_size L
  have sorts : ∀ j, AnyZ.SortsIn Tryz.prog Tryz.sorted54_ren Fence.wide j := fun j =>
    ⟨fun blk off cap ss W hH hblk hsz => callsIn_wide.2 (AnyM.slices_Sort_string Tryz.laysSlM6_f61 blk off cap ss W hH hblk hsz),
      fun p cap W => callsIn_wide.2 (AnyM.slices_Sort_string_none Tryz.laysSlM6_f61 p cap W)⟩
  have hseq : SeqGives Fence.wide 2 Tryz.prog 62 #[.pointer (some ⟨w.heap.size, 0, none⟩)] encStr (fun ss => ss.Perm (strKeys (mapD L))) (Maps.size (mapD L)) (w.alloc (.cells #[.map (some m)] 74)) :=
    AnyZ.keys_gives (ρ := Tryz.keys55_ren) { Tryz.keys55 with } Fence.wide _ trivial rfl (by omega) w.heap.size m L.length (mapD L) _ (by simp) (by simp) (by
      obtain ⟨es, clock, hb, Ft, hs, hD⟩ := h
      exact ⟨es, clock, (Below.heap_alloc _ _ m hbl).trans hb, Ft, hs, hD⟩)
  have key := callsIn_wide.1 (AnyZ.sorted_in Tryz.sorted54 Fence.wide 5 trivial trivial trivial trivial rfl (by omega) (sorts _) (enters_of Tryz.func61 (by kernel_rfl) rfl) 62 #[.pointer (some ⟨w.heap.size, 0, none⟩)] trivial (enters_of Tryz.func62 (by kernel_rfl) rfl) _ _ (by rw [hsz]; unfold maxLen; omega) (by rw [hsz]; omega) _ hseq)
  refine key.mono ?_
  rintro e w' ⟨v, ss, rfl, hp, hrow, _, hb⟩
  refine ⟨v, rfl, ?_, hb⟩
  have e1 : ss.length = L.length := by rw [hp.length_eq, strKeys_mapD]; simp
  rw [e1, mergeSort_keys hp h.sorted] at hrow
  have e2 : (L.map fun h => h.key.data.toList).map encStr = keyRow L := by
    simp only [keyRow, List.map_map]
    congr 1
  rw [e2] at hrow
  obtain ⟨r1, r2⟩ := hrow
  refine ⟨r1, ?_⟩
  rcases r2 with r2 | ⟨g, cap, cur, r3, r4, r5⟩
  · exact Or.inl r2
  · exact Or.inr ⟨g, cap, cur, r3, by simp at r4; omega, r5⟩
end Go.Proofs.YtjjnljfphaimgaaGreatDoor.C
/- Positions. -/
namespace Go.Proofs.YtjjnljfphaimgaaGreatDoor.C
open Go Go.RowKit Go.Maps

theorem info62 : (Tryz.prog.info? 62).map (fun i => (i.zero, i.size, i.bytes)) = some (some (.agg #[.string ⟨#[]⟩, .int .i64 0]), 2, 24) := by kernel_rfl

def posRow (L : List Hold) : List Value := L.flatMap fun h => [.string h.key, .int .i64 h.q]
theorem posRow_length (L : List Hold) : (posRow L).length = L.length * 2 := by
  induction L with
  | nil => rfl
  | cons h r ih => simp only [posRow, List.flatMap_cons, List.length_append, List.length_cons, List.length_nil] at ih ⊢; omega
theorem posRow_take (L : List Hold) (k : Nat) (hk : k < L.length) : posRow (L.take (k + 1)) = posRow (L.take k) ++ [.string L[k].key, .int .i64 L[k].q] := by
  unfold posRow
  rw [List.take_succ_eq_append_getElem hk, List.flatMap_append]
  rfl

theorem kbefore_irrefl (a : ByteArray) : kbefore a a = false := by
  cases h : kbefore a a
  · rfl
  · exact absurd ((bytesBefore_lt _ _).1 h) (List.lt_irrefl _)
theorem find_sorted : ∀ {L : List Hold} (_ : L.Pairwise (fun a b => kbefore a.key b.key = true)) {h : Hold} (_ : h ∈ L), find L h.key = some h
  | x :: r, hs, h, hm => by
    rw [List.pairwise_cons] at hs
    unfold find
    rw [List.find?_cons]
    rcases List.mem_cons.1 hm with rfl | hr
    · simp
    · have hb := hs.1 h hr
      have hne : x.key ≠ h.key := fun e => by rw [e, kbefore_irrefl] at hb; cases hb
      simp only [hne, decide_false]
      exact find_sorted hs.2 hr
theorem qty_sorted {L : List Hold} (hs : L.Pairwise (fun a b => kbefore a.key b.key = true)) {h : Hold} (hm : h ∈ L) : qty L h.key = h.q ∧ val L h.key = h.v := by
  unfold qty val; rw [find_sorted hs hm]; exact ⟨rfl, rfl⟩
theorem MapIs.keysize {w : World} {m : Nat} {L : List Hold} (h : MapIs w m L) : ∀ x ∈ L, x.key.size ≤ maxLen := by
  intro x hx
  obtain ⟨es, clock, hb, F, _, hD⟩ := h
  simp only [mapD, DataW.map.injEq] at hD
  have hk : KeysOf Tryz.prog 9 (litK x.key) := by
    have hm : ent x ∈ (es.toList.map (Go.WideElems.rg Tryz.prog 9 holdR)).foldr DataW.insert [] := by rw [← hD]; exact List.mem_map_of_mem hx
    exact fit_keys F _ (mem_sorted.1 hm)
  obtain ⟨v, hv⟩ := hk
  obtain ⟨s, _, h2, h3⟩ := WideMaps.string_of_keyOf Tryz.underlying9 hv
  rw [litK_inj h2]; exact h3

theorem posRow_cons (h : Hold) (L : List Hold) : posRow (h :: L) = .string h.key :: .int .i64 h.q :: posRow L := rfl
theorem posRow_get : ∀ (L : List Hold) (k : Nat) (h : k < L.length), (posRow L)[k * 2]? = some (.string L[k].key) ∧ (posRow L)[k * 2 + 1]? = some (.int .i64 L[k].q)
  | a :: r, 0, _ => ⟨rfl, rfl⟩
  | a :: r, k + 1, h => by
    have := posRow_get r k (by simpa using h)
    rw [posRow_cons, show (k + 1) * 2 = k * 2 + 2 from by omega, show k * 2 + 2 + 1 = k * 2 + 1 + 2 from by omega]
    simpa using this
def PosPost (L : List Hold) (B : Nat) (w : World) (e : Ending) (w' : World) : Prop := ∃ v, e = .returned v ∧ w'.ownsRow B 62 2 v L.length (posRow L) ∧ Below B w w'

set_option maxRecDepth 100000 in
set_option maxHeartbeats 4000000 in
theorem positions_calls (w : World) (p m : Nat) (S : PS) (h : PoolAt w p m S) (hlen : S.L.length ≤ 1024) :
    Calls Tryz.prog 33 #[.pointer (some ⟨p, 0, none⟩)] w (PosPost S.L w.heap.size w) := by
  obtain ⟨i0, hi, hz0, hz1, hz2⟩ := info_parts info62
  obtain ⟨c0, c1, c2, c3, c4⟩ := h.cells
  have H := Lib.hid h
  have hp := h.lt
  have hm := h.2.lt
  have HSO := Lib.hid h.2.sorted
  have HKS := Lib.hid h.2.keysize
  clear h
  go_enter Tryz.func33, Tryz.ntmps33
  go_wp2_with fail
  refine (keys_calls _ _).mono ?_
  rintro e w1 ⟨rfl, rfl⟩
  go_wp2_with fail
  refine (sortedKeys_calls w m S.L H.out.2 hlen).mono ?_
  rintro e w2 ⟨vs, rfl, hrow, hb⟩
  have HB := Lib.hid (bstep ((Below.refl w.heap.size w).alloc (Nat.le_refl _) _) hb (by simp))
  have HP := Lib.hid (H.out.below HB.out hp hm)
  have HROW := Lib.hid hrow
  clear c0 c1 c2 c3 c4 hb hrow
  obtain ⟨c0, c1, c2, c3, c4⟩ := HP.out.cells
  rcases HROW.out.2 with ⟨e1, e2⟩ | ⟨g, cap, cur, e1, e2, e3, e4, e5, e6, e7⟩
  · subst e1
    have HE := Lib.hid e2
    clear e2
    go_wp2
    refine wp_loop_rounds 1 ?_
    rw [rounds_succ]
    go_wp2
    go_ret
    refine ⟨_, rfl, ?_, HB.out⟩
    rw [List.length_eq_zero_iff.1 HE.out]
    exact World.ownsRow_nil _ _ _ _
  · subst e1
    have HS2 := Lib.hid (HB.out.size)
    have HEE := Lib.hid (And.intro e2 (And.intro e3 (And.intro e4 (And.intro e5 (And.intro e6 e7)))))
    clear e2 e3 e4 e5 e6 e7
    go_wp2
    go_loopw [3, 15] (fun v3 v15 wr => ∃ k : Nat, k ≤ S.L.length ∧ v15 = .int .i64 k ∧ Hid (wr.ownsRow w2.heap.size 62 2 v3 k (posRow (S.L.take k))) ∧ Hid (Below w2.heap.size w2 wr)) (fun _ v15 _ => S.L.length - (intOf v15).toNat)
    case atStart => exact ⟨0, Nat.zero_le _, rfl, Lib.hid (World.ownsRow_nil _ _ _ _), Lib.hid (Below.refl _ _)⟩
    case round =>
      obtain ⟨k, hk, rfl, HO, HB2⟩ := hrel
      by_cases hlt : k < S.L.length
      · have HMEM := Lib.hid (List.getElem_mem hlt)
        have hks := HKS.out _ HMEM.out
        have HQ := Lib.hid (qty_sorted HSO.out HMEM.out)
        have HPk := Lib.hid (HP.out.below HB2.out HP.out.lt HP.out.2.lt)
        have HTK := Lib.hid (posRow_take S.L k hlt)
        clear c0 c1 c2 c3 c4
        obtain ⟨c0, c1, c2, c3, c4⟩ := HPk.out.cells
        have hcell : wr.cell? ⟨g, k, none⟩ = some (.string S.L[k].key) := by
          have hg : g < w2.heap.size := blk_lt HEE.out.2.1
          rw [HB2.out.cell (p := ⟨g, k, none⟩) hg]
          rw [World.ownsRow.cellAt HROW.out k (by omega)]
          simp [keyRow, hlt]
        have hl := HPk.out.2.look1 hks
        rw [HQ.out.1, HQ.out.2] at hl
        have hf0 := field0
        generalize hh : S.L[k] = h at HMEM hks HQ HTK hcell hl
        have HHH := Lib.hid hh
        clear hh
        go_wp2_with (at_builtin; refine wpList_append_own _ rfl _ _ 68 rfl w2.heap.size 62 i0 (.agg #[.string ⟨#[]⟩, .int .i64 0]) 2 24 Tryz.underlying68 hi hz0 hz1 hz2 rfl (by decide) _ _ _ rfl (HO.out.alloc _) ⟨wr.heap.size, 0, none⟩ 1 1 [.string h.key, .int .i64 h.q] rfl rfl ?c1 ?c2 ?c3 ?c4 ?c5 ?_; rotate_right; intro v' w3 hown3 hgr3 _)
        case roundEnd =>
          refine ⟨⟨k + 1, by omega, by go_num, Lib.hid (by rw [HTK.out]; exact hown3), Lib.hid ?_⟩, by simp [intOf]; omega⟩
          exact (HB2.out.alloc HB2.out.size _).grown hgr3 (by have := HB2.out.size; simp; omega) fun j hj => (HO.out.lt j hj).1
        case c1 => exact World.news_of_block (cs := #[.string h.key, .int .i64 h.q]) (blk_new wr _)
        case c2 => simp [Value.oneCell']
        case c3 => unfold maxLen; omega
        case c4 => omega
        case c5 => have := HB2.out.size; simp; omega
      · obtain rfl : k = S.L.length := by omega
        have HO2 := Lib.hid HO.out
        clear c0 c1 c2 c3 c4
        go_wp2
        go_ret
        refine ⟨_, rfl, ?_, bstep HB.out HB2.out HB.out.size⟩
        have ho := HO.out
        rw [List.take_length] at ho
        obtain ⟨r1, r2⟩ := ho
        refine ⟨r1, ?_⟩
        rcases r2 with r2 | ⟨g', cap', cur', r3, r4, r5⟩
        · exact Or.inl r2
        · exact Or.inr ⟨g', cap', cur', r3, Nat.le_trans HB.out.size r4, r5⟩
end Go.Proofs.YtjjnljfphaimgaaGreatDoor.C
/- '==' of structs of two fields. -/
namespace Go.Proofs.YtjjnljfphaimgaaGreatDoor.C
open Go Go.RowKit

theorem eq_pair {P : Program} {t : TypeId} {w : World} {xs ys : Array Value} {f g : Field} {a b c d : Value} {r s : Bool} (hu : P.underlying t = some (.struct #[f, g])) (hp : P.stoodInHeld t = false)
    (n1 : (f.name == "_") = false) (n2 : (g.name == "_") = false) (h1 : (part f.type xs f.offset).run P w = .ok a w) (h2 : (part f.type ys f.offset).run P w = .ok b w)
    (h3 : (part g.type xs g.offset).run P w = .ok c w) (h4 : (part g.type ys g.offset).run P w = .ok d w) (e1 : (Op.equalIn 9999 f.type a b).run P w = .ok r w) (e2 : (Op.equalIn 9999 g.type c d).run P w = .ok s w) :
    (Op.equalIn 10000 t (.agg xs) (.agg ys)).run P w = .ok (r && s) w := by
  have hf : P.fieldsOf t = #[f, g] := by unfold Program.fieldsOf; rw [hu]
  rw [run_equalIn_struct w 9999 t xs ys (by rw [hf]; exact hu) hp, hf]
  have m1 : f.name ≠ "_" := by simpa using n1
  have m2 : g.name ≠ "_" := by simpa using n2
  show (Op.eqFields 9999 xs ys [f, g]).run P w = _
  unfold Op.eqFields
  rw [if_pos m1]
  simp only [Sem.run_bind, h1, h2, e1, Result.andThen_ok]
  cases r
  · simp
  · unfold Op.eqFields
    rw [if_pos m2]
    simp only [Bool.not_true, Bool.false_eq_true, if_false, Sem.run_bind, h3, h4, e2, Result.andThen_ok]
    cases s <;> simp [Op.eqFields]
end Go.Proofs.YtjjnljfphaimgaaGreatDoor.C
