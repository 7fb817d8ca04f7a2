/- Contracts and plain laws, without conditions beyond each theorem's own: girolaw34.same, where the pool and the reference agree. Words for the laws of girolaw34: the round that calls do. girolaw34.CollateralOperations. (Printed by genlaw34.py.) The laws' arguments opened; the end of a row whose law answers true and changes nothing. Words for the laws of girolaw34: a pool by itself, its methods' contracts. Plain: an operation that fails changes nothing. Plain: a release that fails changes nothing. Words for CollateralClones: a pair stays while another pool is worked on. -/
import Derived.Deep.Slices
import Derived.SliceStrings
import Derived.ChangeSlices
import Derived.Carry
import Derived.ChangeSame
import Derived.ChangeVars
import Derived.JoinedOf
import Derived.LaidMore
import Derived.OpenShut
import Derived.ProofKit
import Derived.Stop.Joined
import Derived.Lib.SmallJoins
import Derived.ChangeMaps5
import Derived.Test.YtjjnljfphaimgaaGreatDoorK10
import Derived.Test.YtjjnljfphaimgaaGreatDoorK13
import Derived.Test.YtjjnljfphaimgaaGreatDoorK14
set_option linter.all false
/- girolaw34.same, where the pool and the reference agree. -/
namespace Go.Proofs.YtjjnljfphaimgaaGreatDoor.C
open Go Go.RowKit Go.Shelf Go.Proofs

abbrev SameS (w0 W : World) (b0 p m : Nat) (V : VS) (S : PS) (sl : Value) : Prop :=
  W.cell? ⟨b0, 0, none⟩ = some (.string S.owner) ∧ W.cell? ⟨b0, 4, none⟩ = some sl ∧ W.cell? ⟨b0, 5, none⟩ = some (.int .i64 S.req) ∧ PoolAt W p m S ∧ Below w0.heap.size w0 W
theorem pos_open {w : World} {B : Nat} {sl : Value} {L : List Hold} (h : w.ownsRow B 62 2 sl L.length (posRow L)) : ∃ ao cap, sl = .slice ao L.length cap ∧ cellsOK w L ao := by
  have h2 := h.2
  rcases h2 with ⟨rfl, e⟩ | ⟨g, cap, cur, rfl, _, _, _⟩
  · refine ⟨none, 0, ?_, fun i hi => absurd hi (by omega)⟩
    rw [e]
  · refine ⟨some ⟨g, 0, none⟩, cap, rfl, fun i hi => ⟨g, rfl, ?_, ?_⟩⟩
    · rw [World.ownsRow.cellAt h (i * 2) (by omega), (posRow_get L i hi).1]
    · rw [World.ownsRow.cellAt h (i * 2 + 1) (by omega), (posRow_get L i hi).2]
theorem q_same {P : Program} {f : FuncId} {args : Array Value} {w : World} {v : Value} (h : Calls P f args w fun e w' => e = .returned v ∧ w = w') : Calls P f args w fun e w' => e = .returned v ∧ w' = w := h.mono fun _ _ ⟨he, hw⟩ => ⟨he, hw.symm⟩
set_option maxRecDepth 100000 in
set_option maxHeartbeats 8000000 in
theorem same_calls (w : World) (p m : Nat) (B : Nat) (V : VS) (S R : PS) (sl : Value) (h : PoolAt w p m S) (hs : Sim (fV V) S) (ho : R.owner = S.owner) (hq : R.req = S.req) (hRL : R.L = S.L) (hr : RowAt w B sl R.L) (hv : VAt w B V) (hB : B ≤ w.heap.size) :
    Calls Tryz.prog 14 #[.pointer (some ⟨p, 0, none⟩), rP V R sl] w fun e w' => e = .returned (.bool true) ∧ Below w.heap.size w w' := by
  obtain ⟨Ro, Rvl, RL, Rq, Rv⟩ := R
  simp only at ho hq hRL
  subst ho hq hRL
  obtain ⟨ao, cap, hsl, hc⟩ := row_open hr
  subst hsl
  simp only at hr hc
  have hlen := hs.ok.len
  have hp := h.lt
  have hm := h.2.lt
  have v0 := hs.ok.v0
  have v1 := hs.ok.v1
  have r0 := hs.ok.r0
  have r1 := hs.ok.r1
  have HB := Lib.hid ((Below.refl w.heap.size w).alloc (Nat.le_refl _) (pBox V ⟨S.owner, Rvl, S.L, S.req, Rv⟩ (.slice ao S.L.length cap)))
  have HP := Lib.hid (h.alloc (pBox V ⟨S.owner, Rvl, S.L, S.req, Rv⟩ (.slice ao S.L.length cap)))
  have HX : Hid (boxAt (w.alloc (pBox V ⟨S.owner, Rvl, S.L, S.req, Rv⟩ (.slice ao S.L.length cap))) w.heap.size V ⟨S.owner, Rvl, S.L, S.req, Rv⟩ (.slice ao S.L.length cap)) := Lib.hid (blk_new w (pBox V ⟨S.owner, Rvl, S.L, S.req, Rv⟩ (.slice ao S.L.length cap)))
  have HR := Lib.hid (ownsRow_below hr HB.out (Nat.le_refl _))
  have HC := Lib.hid (hc.alloc (pBox V ⟨S.owner, Rvl, S.L, S.req, Rv⟩ (.slice ao S.L.length cap)))
  have HV := Lib.hid (hv.below ((Below.refl B w).alloc hB (pBox V ⟨S.owner, Rvl, S.L, S.req, Rv⟩ (.slice ao S.L.length cap))))
  have HS := Lib.hid hs
  have HK := Lib.hid h.2.keysize
  clear h hr hv hc hs
  unfold rP
  unfold pBox at HB HP HX HR HC HV
  go_enter Tryz.func14, Tryz.ntmps14
  go_wp2_with fail
  generalize w.alloc (.cells #[.string S.owner, V.x0, V.x1, V.x2, .slice ao S.L.length cap, .int .i64 S.req] 38) = W1 at HB HP HX HR HC HV ⊢
  refine (positions_calls _ p m S HP.out hlen).mono ?_
  rintro e W2 ⟨v, rfl, hrow, hb⟩
  have HB2 := Lib.hid (bstep HB.out hb HB.out.size)
  have HP2 := Lib.hid (HP.out.below hb HP.out.lt HP.out.2.lt)
  have HX2 : Hid (boxAt W2 w.heap.size V ⟨S.owner, Rvl, S.L, S.req, Rv⟩ (.slice ao S.L.length cap)) := Lib.hid (blk_keep hb HX.out (Nat.le_refl _))
  have HR2 := Lib.hid (ownsRow_below HR.out hb (Nat.le_refl _))
  have HV2 := Lib.hid (HV.out.below (hb.mono (Nat.le_trans hB HB.out.size)))
  have HW2 := Lib.hid hrow
  clear hb hrow HB HP HX HR HV
  obtain ⟨c0, c1, c2, c3, c4, c5⟩ := six HX2.out
  go_wp2_with fail
  refine (rtotal_calls _ B V ⟨S.owner, Rvl, S.L, S.req, Rv⟩ (.slice ao S.L.length cap) HR2.out (by show S.L.length ≤ 2000; omega) HV2.out (Nat.le_trans hB HB2.out.size) (fun x hx => ⟨by have := HS.out.ok.q0 x hx; omega, HS.out.ok.q1 x hx⟩)).mono ?_
  rintro e W3 ⟨rfl, hb⟩
  simp only
  rw [HS.out.tot]
  have HB3 := Lib.hid (bstep HB2.out hb HB2.out.size)
  have HP3 := Lib.hid (HP2.out.below hb HP2.out.lt HP2.out.2.lt)
  have HX3 : Hid (boxAt W3 w.heap.size V ⟨S.owner, Rvl, S.L, S.req, Rv⟩ (.slice ao S.L.length cap)) := Lib.hid (blk_keep hb HX2.out (Nat.le_refl _))
  have HR3 := Lib.hid (ownsRow_below HR2.out hb (Nat.le_refl _))
  have HW3 := Lib.hid (ownsRow_below HW2.out hb (Nat.le_refl _))
  clear hb HP2 HX2 HR2 HW2 HV2 HC c0 c1 c2 c3 c4 c5
  obtain ⟨ao3, cap3, hsl3, -⟩ := pos_open HW3.out
  subst hsl3
  have hx := fun n => six (show (W3.drewN n).heap[w.heap.size]? = _ from HX3.out)
  have c0 := fun n => (hx n).1
  have c4 := fun n => (hx n).2.2.2.2.1
  have c5 := fun n => (hx n).2.2.2.2.2
  clear hx
  have t1 : (S.owner == S.owner) = true := by rw [ba_beq]; simp
  have t2 : (S.owner.toList == S.owner.toList) = true := by simp
  have hws : IntKind.i64.wrap (S.value - S.req) = S.value - S.req := by rw [IntKind.wrap_i64]; omega
  go_wp2_with fail
  go_quiet ((first
    | (go_at_call 37; exact Calls.quiet_of_same (q_same (owner_calls _ p m S (HP3.out.drewN _))))
    | (go_at_call 24; exact Calls.quiet_of_same (q_same (required_calls _ p m S (HP3.out.drewN _))))
    | (go_at_call 23; exact Calls.quiet_of_same (q_same (value_calls _ p m S (HP3.out.drewN _))))
    | (go_at_call 22; exact Calls.quiet_of_same (q_same (excess_calls _ p m S (HP3.out.drewN _) v0 v1 r0 r1)))))
  go_wp2_with fail
  have HWQ := Lib.hid (bdrewN (Below.refl W3.heap.size W3) nq)
  clear c0 c4 c5 t1 t2 hws
  generalize W3.drewN nq = W4 at HWQ ⊢
  have hpn := L_neq
  go_loopw [8] (fun v8 wr => ∃ k : Nat, k ≤ S.L.length ∧ v8 = .int .i64 k ∧ Hid (Below W3.heap.size W3 wr)) (fun v8 _ => S.L.length - (intOf v8).toNat)
  case atStart => exact ⟨0, Nat.zero_le _, rfl, HWQ⟩
  case round =>
    obtain ⟨k, hk, rfl, HWr⟩ := hrel
    have HBr := Lib.hid (HB3.out.trans (HWr.out.mono HB3.out.size))
    by_cases hlt : k < S.L.length
    · have HPr := Lib.hid (HP3.out.below HWr.out HP3.out.lt HP3.out.2.lt)
      have HXr : Hid (boxAt wr w.heap.size V ⟨S.owner, Rvl, S.L, S.req, Rv⟩ (.slice ao S.L.length cap)) := Lib.hid (blk_keep HWr.out HX3.out (Nat.le_refl _))
      obtain ⟨ao1, cap1, e1, hc1⟩ := row_open (ownsRow_below HR3.out HWr.out (Nat.le_refl _) : RowAt wr B (.slice ao S.L.length cap) S.L)
      obtain ⟨ao2, cap2, e2, hc2⟩ := pos_open (ownsRow_below HW3.out HWr.out (Nat.le_refl _))
      simp only [Value.slice.injEq] at e1 e2
      obtain ⟨rfl, -, -⟩ := e1
      obtain ⟨rfl, -, -⟩ := e2
      obtain ⟨g1, rfl, -, -⟩ := hc1 k hlt
      obtain ⟨g2, rfl, -, -⟩ := hc2 k hlt
      obtain ⟨x0, x1⟩ := cellsOK.at hc1 hlt
      obtain ⟨y0, y1⟩ := cellsOK.at hc2 hlt
      have c4 := HXr.out.cells.2.2.2
      have HQK := Lib.hid (qty_sorted HS.out.sorted (List.getElem_mem hlt)).1
      have HKS := Lib.hid (HK.out _ (List.getElem_mem hlt))
      clear hc1 hc2
      generalize S.L[k].key = a1 at x0 y0 HQK HKS
      generalize S.L[k].q = b1 at x1 y1 HQK
      have heb1 : decide (a1 = a1) = true := by simp
      have heb2 : decide (b1 = b1) = true := by simp
      have HQC : Hid (∀ n, Calls Tryz.prog 38 #[.pointer (some ⟨p, 0, none⟩), .string a1] (wr.drewN n) fun e w' => e = .returned (.int .i64 b1) ∧ w' = wr.drewN n) := Lib.hid (by
        intro n
        have := q_same (quantity_calls _ p m S a1 (HPr.out.drewN n) HKS.out)
        rw [HQK.out] at this
        exact this)
      go_wp2_with fail
      go_quiet ((go_at_call 38; exact Calls.quiet_of_same (HQC.out _)))
      go_wp2
      exact ⟨⟨k + 1, by omega, by go_num, Lib.hid (bdrewN HWr.out _)⟩, by simp [intOf]; omega⟩
    · obtain rfl : k = S.L.length := by omega
      go_wp2
      go_ret
      exact ⟨rfl, HBr.out⟩
end Go.Proofs.YtjjnljfphaimgaaGreatDoor.C
/- Words for the laws of girolaw34: the round that calls do. -/
namespace Go.Proofs.YtjjnljfphaimgaaGreatDoor.C
open Go Go.RowKit Go.Shelf Go.Proofs

/-- Between two operations: the reference lies in block b8. -/
structure BSq (w0 w W : World) (p m : Nat) (V : VS) (S : PS) (sl : Value) (b8 : Nat) : Prop where
  pair : Pair w0 W p m V S sl
  x : boxAt W b8 V S sl
  b : Below w.heap.size w W
structure D3q (w0 wr W : World) (p m : Nat) (V : VS) (S : PS) (sl : Value) (b8 : Nat) : Prop where
  x : boxAt W b8 V S sl
  fr : Fr p m wr W
  up : Below w0.heap.size w0 W
theorem D3q.below {w0 wr W W' : World} {p m : Nat} {V : VS} {S : PS} {sl : Value} {b8 : Nat} (h : D3q w0 wr W p m V S sl b8) (hb : Below W.heap.size W W') : D3q w0 wr W' p m V S sl b8 :=
  ⟨blk_keep hb h.x (Nat.le_refl _), h.fr.bstep hb, bstep h.up hb h.up.size⟩
theorem D3q.go {w0 wr W W' : World} {p m : Nat} {V : VS} {S T : PS} {sl : Value} {b8 : Nat} (h : D3q w0 wr W p m V S sl b8) (hP : PoolAt W p m T) (hp : w0.heap.size ≤ p) (hm : w0.heap.size ≤ m) (hF : Fr p m W W') : D3q w0 wr W' p m V S sl b8 :=
  ⟨(hF.block b8 (blk_lt h.x) (box_ne h.x hP).1 (box_ne h.x hP).2).trans h.x, h.fr.trans hF, hF.up h.up hp hm⟩
theorem D3q.set {w0 wr W : World} {p m : Nat} {V : VS} {S : PS} {sl : Value} {b8 b : Nat} (h : D3q w0 wr W p m V S sl b8) (hb : wr.heap.size ≤ b) (h8 : b8 < wr.heap.size) (h0 : w0.heap.size ≤ wr.heap.size) (v0 v1 v2 v3 v4 v5 : Value) : D3q w0 wr (set6 W b v0 v1 v2 v3 v4 v5) p m V S sl b8 :=
  ⟨set6_keep h.x (by omega) _ _ _ _ _ _, (((((h.fr.setn hb 0 v0).setn hb 1 v1).setn hb 2 v2).setn hb 3 v3).setn hb 4 v4).setn hb 5 v5, set6_below h.up (by omega) _ _ _ _ _ _⟩
abbrev D3qc (w0 wr W : World) (p m : Nat) (V : VS) (S : PS) (sl : Value) (b8 : Nat) (a : Addr) (k : Nat) (o : OpS) : Prop :=
  W.cell? ⟨b8, 0, none⟩ = some (.string S.owner) ∧ W.cell? ⟨b8, 1, none⟩ = some (.slice V.a0 V.l0.length V.c0) ∧ W.cell? ⟨b8, 2, none⟩ = some (.slice V.a1 V.l1.length V.c1) ∧ W.cell? ⟨b8, 3, none⟩ = some (.slice V.a2 V.l2.length V.c2) ∧ W.cell? ⟨b8, 4, none⟩ = some sl ∧ W.cell? ⟨b8, 5, none⟩ = some (.int .i64 S.req) ∧
  W.cell? (a.add (k * 9)) = some (.int .u8 o.kd) ∧ W.cell? ⟨(a.add (k * 9)).block, (a.add (k * 9)).off + 1, none⟩ = some (.string o.ak) ∧ W.cell? ⟨(a.add (k * 9)).block, (a.add (k * 9)).off + 2, none⟩ = some (.int .i64 o.aq) ∧ W.cell? ⟨(a.add (k * 9)).block, (a.add (k * 9)).off + 3, none⟩ = some (.string o.bk) ∧ W.cell? ⟨(a.add (k * 9)).block, (a.add (k * 9)).off + 4, none⟩ = some (.int .i64 o.bq) ∧ W.cell? ⟨(a.add (k * 9)).block, (a.add (k * 9)).off + 5, none⟩ = some (.int .i64 o.n) ∧
  W.cell? ⟨(a.add (k * 9)).block, (a.add (k * 9)).off + 6, none⟩ = some (.slice o.V.a0 o.V.l0.length o.V.c0) ∧ W.cell? ⟨(a.add (k * 9)).block, (a.add (k * 9)).off + 7, none⟩ = some (.slice o.V.a1 o.V.l1.length o.V.c1) ∧ W.cell? ⟨(a.add (k * 9)).block, (a.add (k * 9)).off + 8, none⟩ = some (.slice o.V.a2 o.V.l2.length o.V.c2) ∧ D3q w0 wr W p m V S sl b8
theorem D3q.cells {w0 wr W : World} {p m : Nat} {V : VS} {S : PS} {sl : Value} {b8 : Nat} (h : D3q w0 wr W p m V S sl b8) {a : Addr} {k : Nat} {o : OpS} (ha : a.block < w0.heap.size) (hc : ∀ j, j < 9 → w0.cell? (a.add (k * 9 + j)) = o.cells[j]?) : D3qc w0 wr W p m V S sl b8 a k o := by
  obtain ⟨x0, x1, x2, x3, x4, x5⟩ := six h.x
  have g : ∀ j, j < 9 → W.cell? (a.add (k * 9 + j)) = o.cells[j]? := fun j hj => (h.up.cell (by rw [add_block]; exact ha)).trans (hc j hj)
  have e : ∀ j, (⟨(a.add (k * 9)).block, (a.add (k * 9)).off + (j + 1), none⟩ : Addr) = a.add (k * 9 + (j + 1)) := fun j => by
    rw [← Go.Deep.add_add]
    show _ = Addr.add (a.add (k * 9)) (j + 1)
    unfold Addr.add
    rw [if_neg (Nat.succ_ne_zero j)]
  exact ⟨x0, x1, x2, x3, x4, x5, g 0 (by omega), by rw [e 0]; exact g 1 (by omega), by rw [e 1]; exact g 2 (by omega), by rw [e 2]; exact g 3 (by omega), by rw [e 3]; exact g 4 (by omega), by rw [e 4]; exact g 5 (by omega), by rw [e 5]; exact g 6 (by omega), by rw [e 6]; exact g 7 (by omega), by rw [e 7]; exact g 8 (by omega), h⟩

end Go.Proofs.YtjjnljfphaimgaaGreatDoor.C
/- girolaw34.CollateralOperations. (Printed by genlaw34.py.) -/
namespace Go.Proofs.YtjjnljfphaimgaaGreatDoor.C
open Go Go.RowKit Go.Shelf Go.Proofs

def LawPost (w : World) (e : Ending) (w' : World) : Prop := e = .returned (.bool true) ∧ Below w.heap.size w w'
theorem known_post {w w1 : World} (hb : Below w.heap.size w w1) : Calls Tryz.prog 11 #[] w1 (LawPost w) := (known_calls w1).mono fun _ _ ⟨he, h⟩ => ⟨he, bstep hb h hb.size⟩
structure VOk (w : World) (V : VS) : Prop where
  rd : VRd w w.heap.size V
  l0 : V.l0.length ≤ maxLen
  l1 : V.l1.length ≤ maxLen
  l2 : V.l2.length ≤ maxLen
theorem Pair.same_calls {w0 w : World} {p m : Nat} {V : VS} {S : PS} {sl : Value} (h : Pair w0 w p m V S sl) :
    Calls Tryz.prog 14 #[.pointer (some ⟨p, 0, none⟩), rP V S sl] w fun e w' => e = .returned (.bool true) ∧ Below w.heap.size w w' :=
  C.same_calls w p m w0.heap.size V S S sl h.pool h.sim rfl rfl rfl h.row h.v h.base.size

set_option maxRecDepth 100000 in
set_option maxHeartbeats 16000000 in
theorem operations_calls (w : World) (V : VS) (v : Value) (l : List OpS) (hv : VOk w V) (hl : OpsAt w w.heap.size v l) :
    Calls Tryz.prog 3 #[aggV V, v] w (LawPost w) := by
  obtain ⟨ao, cap, hsl, hc⟩ := hl.ex
  subst hsl
  have HC := Lib.hid hc
  have HOK := Lib.hid hl.ok
  have hlen := hl.len
  have HV := Lib.hid hv
  have HB := Lib.hid ((Below.refl w.heap.size w).alloc (Nat.le_refl _) (.cells #[V.x0, V.x1, V.x2] 26))
  have HX := Lib.hid (blk_new w (.cells #[V.x0, V.x1, V.x2] 26))
  clear hc hl hv
  unfold maxLen at hlen
  unfold aggV
  unfold VS.x0 VS.x1 VS.x2 at *
  go_enter Tryz.func3, Tryz.ntmps3
  go_wp2_with fail
  generalize w.alloc (.cells #[.slice V.a0 V.l0.length V.c0, .slice V.a1 V.l1.length V.c1, .slice V.a2 V.l2.length V.c2] 26) = W1 at HB HX ⊢
  have x0 := (blk_cell HX.out 0).trans rfl
  have x1 := (blk_cell HX.out 1).trans rfl
  have x2 := (blk_cell HX.out 2).trans rfl
  go_wp2_with fail
  refine (few_calls _ V HV.out.l0 HV.out.l1 HV.out.l2).mono ?_
  rintro e W2 ⟨rfl, hb⟩
  have HB2 := Lib.hid (bstep HB.out hb HB.out.size)
  have HX2 := Lib.hid (blk_keep hb HX.out (Nat.le_refl _))
  clear hb HB HX x0 x1 x2
  have x0 := (blk_cell HX2.out 0).trans rfl
  have x1 := (blk_cell HX2.out 1).trans rfl
  have x2 := (blk_cell HX2.out 2).trans rfl
  cases hfw : fewB V
  · clear hfw
    go_wp2_with fail
    refine (known_calls _).mono ?_
    rintro e W3 ⟨rfl, hb⟩
    have HB3 := Lib.hid (bstep HB2.out hb HB2.out.size)
    clear hb
    go_wp2_with fail
    go_ret
    exact ⟨rfl, HB3.out⟩
  · have HVA := Lib.hid (HV.out.rd.few hfw)
    clear hfw
    go_wp2_with fail
    refine (new_ok W2 bankA (by decide) 35 (.agg #[.slice V.a0 V.l0.length V.c0, .slice V.a1 V.l1.length V.c1, .slice V.a2 V.l2.length V.c2]) bankA_member).mono ?_
    rintro e W3 ⟨p, m, rfl, hP, hp, hm, hb⟩
    have HB3 := Lib.hid (bstep HB2.out hb HB2.out.size)
    have HX3 := Lib.hid (blk_keep hb HX2.out (Nat.le_refl _))
    have HP3 : Hid (Pair w W3 p m V (new0 V).2 (.slice none 0 0)) := Lib.hid ⟨hP, rfl, row_nil _ _, HVA.out, sim_new V, HB3.out, by have := HB2.out.size; omega, by have := HB2.out.size; omega⟩
    clear hb HB2 HX2 x0 x1 x2 hP hp hm
    have x0 := (blk_cell HX3.out 0).trans rfl
    have x1 := (blk_cell HX3.out 1).trans rfl
    have x2 := (blk_cell HX3.out 2).trans rfl
    go_wp2_with fail
    refine (refNew_calls W3 V bankA (by decide)).mono ?_
    rw [if_pos bankA_member]
    rintro e W4 ⟨rfl, hb⟩
    unfold VS.x0 VS.x1 VS.x2
    have HP4 := Lib.hid (HP3.out.below hb)
    have HB4 := Lib.hid (bstep HB3.out hb HB3.out.size)
    clear hb HB3 HX3 HP3 x0 x1 x2
    have HS5 : Hid (BSq w w (W4.alloc (.cells #[.string bankA, .slice V.a0 V.l0.length V.c0, .slice V.a1 V.l1.length V.c1, .slice V.a2 V.l2.length V.c2, .slice none 0 0, .int .i64 0] 38)) p m V (new0 V).2 (.slice none 0 0) W4.heap.size) := Lib.hid
      ⟨HP4.out.below ((Below.refl _ _).alloc (Nat.le_refl _) _), blk_new _ _, HB4.out.alloc HB4.out.size _⟩
    go_upto_region 5 with fail
    obtain ⟨b8, hb8e⟩ : ∃ b8, W4.heap.size = b8 := ⟨_, rfl⟩
    have hb8 : w.heap.size ≤ b8 := by have := HB4.out.size; omega
    rw [hb8e] at HS5
    simp only [hb8e]
    clear hb8e HP4
    generalize W4.alloc (.cells #[.string bankA, .slice V.a0 V.l0.length V.c0, .slice V.a1 V.l1.length V.c1, .slice V.a2 V.l2.length V.c2, .slice none 0 0, .int .i64 0] 38) = W5 at HS5 ⊢
    obtain ⟨y0, y1, y2, y3, y4, y5⟩ := sixV HS5.out.x
    go_wp2_with fail
    refine (HS5.out.pair.same_calls).mono ?_
    rintro e W6 ⟨rfl, hb⟩
    have HS6 : Hid (BSq w w W6 p m V (new0 V).2 (.slice none 0 0) b8) := Lib.hid ⟨HS5.out.pair.below hb, blk_keep hb HS5.out.x (Nat.le_refl _), bstep HS5.out.b hb HS5.out.b.size⟩
    clear hb HS5 y0 y1 y2 y3 y4 y5
    go_wp2_with fail
    go_loopw [9] (fun v9 wr => ∃ k : Nat, k ≤ l.length ∧ k ≤ 30 ∧ v9 = .int .i64 k ∧ Hid (∃ m' sl', BSq w w wr p m' (bldF (l.take k) (new0 V)).1 (bldF (l.take k) (new0 V)).2 sl' b8)) (fun v9 _ => 30 - (intOf v9).toNat)
    case atStart => exact ⟨0, Nat.zero_le _, by omega, rfl, Lib.hid ⟨m, .slice none 0 0, HS6.out⟩⟩
    case round =>
      obtain ⟨k, hk, hk30, rfl, HR⟩ := hrel
      by_cases hlt : k < l.length ∧ k < 30
      · obtain ⟨hlt, hlt3⟩ := hlt
        obtain ⟨m', sl', hr⟩ := HR.out
        have HNX := Lib.hid (bldF_succ l (new0 V) k hlt)
        generalize bldF (l.take k) (new0 V) = r at hr HNX
        obtain ⟨V', S'⟩ := r
        simp only at hr HNX
        have HOo := Lib.hid (HOK.out l[k] (List.getElem_mem hlt))
        obtain ⟨a, ha, hab, hac⟩ := HC.out k hlt
        subst ha
        have HAC := Lib.hid hac
        generalize l[k] = o at HNX HOo HAC
        obtain ⟨ao2, cap2, hsl2, -⟩ := row_open hr.pair.row
        subst hsl2
        have HS := Lib.hid hr
        clear hr hac HR
        have HD0 := Lib.hid (D3q.mk (wr := wr) (p := p) (m := m') HS.out.x (Fr.refl _ _ _) HS.out.pair.base)
        have HPA := HS.out.pair.below (Below.refl _ _).drew
        have HPB := fun ob => HS.out.pair.below (((Below.refl _ _).alloc (Nat.le_refl _) ob).drew)
        have HD : D3qc w wr wr.drew p m' V' S' (.slice ao2 S'.L.length cap2) b8 a k o := (HD0.out.below (Below.refl _ _).drew).cells hab HAC.out
        have HDB : ∀ ob, D3qc w wr (wr.alloc ob).drew p m' V' S' (.slice ao2 S'.L.length cap2) b8 a k o := fun ob => (HD0.out.below (((Below.refl _ _).alloc (Nat.le_refl _) ob).drew)).cells hab HAC.out
        unfold D3qc at HD HDB
        have hl8 : b8 < wr.heap.size := blk_lt HS.out.x
        have hl0 : w.heap.size ≤ wr.heap.size := HS.out.pair.base.size
        have hlp : p < wr.heap.size := HS.out.pair.pool.lt
        have hlm : m' < wr.heap.size := HS.out.pair.pool.2.lt
        have hlpw : w.heap.size ≤ p := HS.out.pair.hp
        have hlmw : w.heap.size ≤ m' := HS.out.pair.hm
        go_upto_region 10 with fail
        go_region_held3 (fun W => W.cell? ⟨b8, 0, none⟩ = some (.string S'.owner) ∧ W.cell? ⟨b8, 1, none⟩ = some (.slice V'.a0 V'.l0.length V'.c0) ∧ W.cell? ⟨b8, 2, none⟩ = some (.slice V'.a1 V'.l1.length V'.c1) ∧ W.cell? ⟨b8, 3, none⟩ = some (.slice V'.a2 V'.l2.length V'.c2) ∧ W.cell? ⟨b8, 4, none⟩ = some (.slice ao2 S'.L.length cap2) ∧ W.cell? ⟨b8, 5, none⟩ = some (.int .i64 S'.req) ∧
            W.cell? (a.add (k * 9)) = some (.int .u8 o.kd) ∧ W.cell? ⟨(a.add (k * 9)).block, (a.add (k * 9)).off + 1, none⟩ = some (.string o.ak) ∧ W.cell? ⟨(a.add (k * 9)).block, (a.add (k * 9)).off + 2, none⟩ = some (.int .i64 o.aq) ∧ W.cell? ⟨(a.add (k * 9)).block, (a.add (k * 9)).off + 3, none⟩ = some (.string o.bk) ∧ W.cell? ⟨(a.add (k * 9)).block, (a.add (k * 9)).off + 4, none⟩ = some (.int .i64 o.bq) ∧ W.cell? ⟨(a.add (k * 9)).block, (a.add (k * 9)).off + 5, none⟩ = some (.int .i64 o.n) ∧ W.cell? ⟨(a.add (k * 9)).block, (a.add (k * 9)).off + 6, none⟩ = some (.slice o.V.a0 o.V.l0.length o.V.c0) ∧ W.cell? ⟨(a.add (k * 9)).block, (a.add (k * 9)).off + 7, none⟩ = some (.slice o.V.a1 o.V.l1.length o.V.c1) ∧ W.cell? ⟨(a.add (k * 9)).block, (a.add (k * 9)).off + 8, none⟩ = some (.slice o.V.a2 o.V.l2.length o.V.c2) ∧ D3q w wr W p m' V' S' (.slice ao2 S'.L.length cap2) b8)
          (first | with_reducible exact HD | with_reducible exact HDB _ | with_reducible exact HH4 | with_reducible exact HH4a _ | with_reducible exact HH5 | with_reducible trivial)
          (first
            | (go_at_call 15
               refine (do_calls w _ p m' V' S' (.slice ao2 S'.L.length cap2) o (by first | with_reducible exact HPA | with_reducible exact HPB _) HOo.out.1 HOo.out.2).mono ?_
               rintro e W5 ⟨m2, sl2, rfl, hp5, hF5, hm5⟩
               have HK5 := Lib.hid (fun (b : Nat) (ob : Obj) (h : _ = some ob) (h1 : b ≠ p) (h2 : b ≠ m') => (hF5.block b (blk_lt h) h1 h2).trans h)
               have HD5 : Hid (D3q w wr W5 p m' V' S' (.slice ao2 S'.L.length cap2) b8) := by
                 first
                   | with_reducible exact Lib.hid ((HD0.out.below (Below.refl _ _).drew).go HPA.pool HS.out.pair.hp HS.out.pair.hm hF5)
                   | with_reducible exact Lib.hid ((HD0.out.below (((Below.refl _ _).alloc (Nat.le_refl _) _).drew)).go (HPB _).pool HS.out.pair.hp HS.out.pair.hm hF5)
               have HH4 : D3qc w wr W5 p m' V' S' (.slice ao2 S'.L.length cap2) b8 a k o := HD5.out.cells hab HAC.out
               have HH4a : ∀ ob, D3qc w wr (W5.alloc ob) p m' V' S' (.slice ao2 S'.L.length cap2) b8 a k o := fun ob => (HD5.out.below ((Below.refl _ _).alloc (Nat.le_refl _) ob)).cells hab HAC.out
               have HP5 := Lib.hid hp5
               have HM5 : Hid (m2 = m' ∨ wr.heap.size ≤ m2) := Lib.hid (by rcases hm5 with h | h; exact Or.inl h; right; simp at h; omega)
               obtain ⟨ao3, cap3, hsl3, -⟩ := row_open hp5.row
               subst hsl3
               unfold D3qc at HH4 HH4a
               generalize doF o V' S' = r2 at HNX HP5 ⊢
               obtain ⟨V2, S2⟩ := r2
               unfold rP VS.x0 VS.x1 VS.x2
               simp only at HP5 HNX ⊢
               clear hp5 hm5 hF5
               first
                 | (with_reducible have HZ0 := HK5.out _ _ (blk_drew (blk_new wr (.cells #[.string ⟨#[]⟩, .slice none 0 0, .slice none 0 0, .slice none 0 0, .slice none 0 0, .int .i64 0] 38)))
                    have HZ : Hid (W5.heap[wr.heap.size]? = some (.cells zeroP 38 (0, 0))) := Lib.hid (HZ0 (by omega) (by omega))
                    clear HZ0
                    obtain ⟨⟨d0, d1, d2, d3, d4, d5⟩, g0, g1, g2, g3, g4, g5⟩ := zcells HZ.out
                    have HD6 := Lib.hid (HD5.out.set (b := wr.heap.size) (Nat.le_refl _) hl8 hl0 (.string S2.owner) (.slice V2.a0 V2.l0.length V2.c0) (.slice V2.a1 V2.l1.length V2.c1) (.slice V2.a2 V2.l2.length V2.c2) (.slice ao3 S2.L.length cap3) (.int .i64 S2.req))
                    have HH5 : D3qc w wr _ p m' V' S' (.slice ao2 S'.L.length cap2) b8 a k o := HD6.out.cells hab HAC.out
                    unfold D3qc set6 at HH5)
                 | skip))
        all_goals
          have hw5 : wr.heap.size ≤ W5.heap.size := HD5.out.fr.size
          rename_i hHeld
          clear hHeld
        · have HE : Hid (Pair w (W5.alloc (.cells #[.string S2.owner, .slice V2.a0 V2.l0.length V2.c0, .slice V2.a1 V2.l1.length V2.c1, .slice V2.a2 V2.l2.length V2.c2, .slice ao3 S2.L.length cap3, .int .i64 S2.req] 38)) p m2 V2 S2 (.slice ao3 S2.L.length cap3)) := Lib.hid (HP5.out.below ((Below.refl _ _).alloc (Nat.le_refl _) _))
          have HX11 : Hid (boxAt (W5.alloc (.cells #[.string S2.owner, .slice V2.a0 V2.l0.length V2.c0, .slice V2.a1 V2.l1.length V2.c1, .slice V2.a2 V2.l2.length V2.c2, .slice ao3 S2.L.length cap3, .int .i64 S2.req] 38)) W5.heap.size V2 S2 (.slice ao3 S2.L.length cap3)) := Lib.hid (blk_new _ _)
          have HX8 : Hid (boxAt (W5.alloc (.cells #[.string S2.owner, .slice V2.a0 V2.l0.length V2.c0, .slice V2.a1 V2.l1.length V2.c1, .slice V2.a2 V2.l2.length V2.c2, .slice ao3 S2.L.length cap3, .int .i64 S2.req] 38)) b8 V' S' (.slice ao2 S'.L.length cap2)) := Lib.hid (blk_alloc HD5.out.x _)
          have HR6 := Lib.hid (HD5.out.fr.alloc (.cells #[.string S2.owner, .slice V2.a0 V2.l0.length V2.c0, .slice V2.a1 V2.l1.length V2.c1, .slice V2.a2 V2.l2.length V2.c2, .slice ao3 S2.L.length cap3, .int .i64 S2.req] 38))
          clear HD HDB HH4 HH4a HPA HPB
          have hlb : wr.heap.size ≤ W5.heap.size := hw5
          generalize W5.alloc (.cells #[.string S2.owner, .slice V2.a0 V2.l0.length V2.c0, .slice V2.a1 V2.l1.length V2.c1, .slice V2.a2 V2.l2.length V2.c2, .slice ao3 S2.L.length cap3, .int .i64 S2.req] 38) = W6 at HE HX11 HX8 HR6 ⊢
          obtain ⟨x0, x1, x2, x3, x4, x5⟩ := sixV HX11.out
          go_wp2_with fail
          refine (HE.out.same_calls).mono ?_
          rintro e W7 ⟨rfl, hb⟩
          have HE7 := Lib.hid (HE.out.below hb)
          have HX17 : Hid (boxAt W7 _ V2 S2 (.slice ao3 S2.L.length cap3)) := Lib.hid (blk_keep hb HX11.out (Nat.le_refl _))
          have HX87 : Hid (boxAt W7 b8 V' S' (.slice ao2 S'.L.length cap2)) := Lib.hid (blk_keep hb HX8.out (Nat.le_refl _))
          clear hb x0 x1 x2 x3 x4 x5 HX11 HX8 HE
          obtain ⟨x0, x1, x2, x3, x4, x5⟩ := sixV HX17.out
          obtain ⟨y0, y1, y2, y3, y4, y5⟩ := sixV HX87.out
          obtain ⟨f0, f1, f2, f3, f4, f5⟩ := fr6 HX87.out
          go_wp2_with fail
          have HE8 := Lib.hid (HE7.out.set6 HX87.out (show w.heap.size ≤ b8 by omega) (.string S2.owner) (.slice V2.a0 V2.l0.length V2.c0) (.slice V2.a1 V2.l1.length V2.c1) (.slice V2.a2 V2.l2.length V2.c2) (.slice ao3 S2.L.length cap3) (.int .i64 S2.req))
          have HX88 : Hid (boxAt _ b8 V2 S2 (.slice ao3 S2.L.length cap3)) := Lib.hid (set6_over HX87.out (.string S2.owner) (.slice V2.a0 V2.l0.length V2.c0) (.slice V2.a1 V2.l1.length V2.c1) (.slice V2.a2 V2.l2.length V2.c2) (.slice ao3 S2.L.length cap3) (.int .i64 S2.req))
          unfold set6 at HE8 HX88
          clear x0 x1 x2 x3 x4 x5 y0 y1 y2 y3 y4 y5 f0 f1 f2 f3 f4 f5
          generalize (((((W7.setCell _ _).setCell _ _).setCell _ _).setCell _ _).setCell _ _).setCell _ _ = W8 at HE8 HX88 ⊢
          go_wp2
          exact ⟨⟨k + 1, by omega, by omega, by go_num, Lib.hid (by rw [HNX.out]; exact ⟨m2, _, ⟨HE8.out, HX88.out, HE8.out.base⟩⟩)⟩, by simp [intOf]; omega⟩
        · have HE := Lib.hid (HP5.out.set6 HZ.out hl0 (.string S2.owner) (.slice V2.a0 V2.l0.length V2.c0) (.slice V2.a1 V2.l1.length V2.c1) (.slice V2.a2 V2.l2.length V2.c2) (.slice ao3 S2.L.length cap3) (.int .i64 S2.req))
          have HX11 : Hid (boxAt _ wr.heap.size V2 S2 (.slice ao3 S2.L.length cap3)) := Lib.hid (set6_over HZ.out (.string S2.owner) (.slice V2.a0 V2.l0.length V2.c0) (.slice V2.a1 V2.l1.length V2.c1) (.slice V2.a2 V2.l2.length V2.c2) (.slice ao3 S2.L.length cap3) (.int .i64 S2.req))
          have HX8 : Hid (boxAt _ b8 V' S' (.slice ao2 S'.L.length cap2)) := Lib.hid (set6_keep HD5.out.x (show b8 ≠ wr.heap.size by omega) (.string S2.owner) (.slice V2.a0 V2.l0.length V2.c0) (.slice V2.a1 V2.l1.length V2.c1) (.slice V2.a2 V2.l2.length V2.c2) (.slice ao3 S2.L.length cap3) (.int .i64 S2.req))
          have HR6 : Hid (Fr p m' wr (set6 W5 wr.heap.size (.string S2.owner) (.slice V2.a0 V2.l0.length V2.c0) (.slice V2.a1 V2.l1.length V2.c1) (.slice V2.a2 V2.l2.length V2.c2) (.slice ao3 S2.L.length cap3) (.int .i64 S2.req))) := Lib.hid ((HD5.out.set (b := wr.heap.size) (Nat.le_refl _) hl8 hl0 (.string S2.owner) (.slice V2.a0 V2.l0.length V2.c0) (.slice V2.a1 V2.l1.length V2.c1) (.slice V2.a2 V2.l2.length V2.c2) (.slice ao3 S2.L.length cap3) (.int .i64 S2.req)).fr)
          unfold set6 at HE HX11 HX8 HR6
          clear HD HDB HH4 HH4a HH5 HPA HPB d0 d1 d2 d3 d4 d5 g0 g1 g2 g3 g4 g5
          have hlb : wr.heap.size ≤ wr.heap.size := Nat.le_refl _
          generalize (((((W5.setCell _ _).setCell _ _).setCell _ _).setCell _ _).setCell _ _).setCell _ _ = W6 at HE HX11 HX8 HR6 ⊢
          obtain ⟨x0, x1, x2, x3, x4, x5⟩ := sixV HX11.out
          go_wp2_with fail
          refine (HE.out.same_calls).mono ?_
          rintro e W7 ⟨rfl, hb⟩
          have HE7 := Lib.hid (HE.out.below hb)
          have HX17 : Hid (boxAt W7 _ V2 S2 (.slice ao3 S2.L.length cap3)) := Lib.hid (blk_keep hb HX11.out (Nat.le_refl _))
          have HX87 : Hid (boxAt W7 b8 V' S' (.slice ao2 S'.L.length cap2)) := Lib.hid (blk_keep hb HX8.out (Nat.le_refl _))
          clear hb x0 x1 x2 x3 x4 x5 HX11 HX8 HE
          obtain ⟨x0, x1, x2, x3, x4, x5⟩ := sixV HX17.out
          obtain ⟨y0, y1, y2, y3, y4, y5⟩ := sixV HX87.out
          obtain ⟨f0, f1, f2, f3, f4, f5⟩ := fr6 HX87.out
          go_wp2_with fail
          have HE8 := Lib.hid (HE7.out.set6 HX87.out (show w.heap.size ≤ b8 by omega) (.string S2.owner) (.slice V2.a0 V2.l0.length V2.c0) (.slice V2.a1 V2.l1.length V2.c1) (.slice V2.a2 V2.l2.length V2.c2) (.slice ao3 S2.L.length cap3) (.int .i64 S2.req))
          have HX88 : Hid (boxAt _ b8 V2 S2 (.slice ao3 S2.L.length cap3)) := Lib.hid (set6_over HX87.out (.string S2.owner) (.slice V2.a0 V2.l0.length V2.c0) (.slice V2.a1 V2.l1.length V2.c1) (.slice V2.a2 V2.l2.length V2.c2) (.slice ao3 S2.L.length cap3) (.int .i64 S2.req))
          unfold set6 at HE8 HX88
          clear x0 x1 x2 x3 x4 x5 y0 y1 y2 y3 y4 y5 f0 f1 f2 f3 f4 f5
          generalize (((((W7.setCell _ _).setCell _ _).setCell _ _).setCell _ _).setCell _ _).setCell _ _ = W8 at HE8 HX88 ⊢
          go_wp2
          exact ⟨⟨k + 1, by omega, by omega, by go_num, Lib.hid (by rw [HNX.out]; exact ⟨m2, _, ⟨HE8.out, HX88.out, HE8.out.base⟩⟩)⟩, by simp [intOf]; omega⟩
      · obtain ⟨m', sl', hr⟩ := HR.out
        have HBr := Lib.hid hr.b
        clear hr HR
        by_cases hkl : k < l.length
        all_goals go_wp2_with fail
        all_goals
          refine (known_calls _).mono ?_
          rintro e W7 ⟨rfl, hb⟩
          have HB7 := Lib.hid (bstep HBr.out hb HBr.out.size)
          clear hb
          go_wp2_with fail
          go_ret
          exact ⟨rfl, HB7.out⟩
end Go.Proofs.YtjjnljfphaimgaaGreatDoor.C
/- The laws' arguments opened; the end of a row whose law answers true and changes nothing. -/
namespace Go.Proofs.YtjjnljfphaimgaaGreatDoor.C
open Go Go.RowKit Go.ChangeShapes Go.WideShapes Go.Deep

section
variable {H : Type} {enc : TypeId × Value → H} {w : World} {base : Nat} {spare : Nat → Bool} {held : Bool} {fuel : Nat} {cs : List Value} {x : DataW H × List MemPlace}
theorem wf64 {x : Int} (h : (Lit.int .i64 x).wf = true) : -9223372036854775808 ≤ x ∧ x ≤ 9223372036854775807 := by
  simp [Lit.wf, IntKind.min, IntKind.max, IntKind.bits, IntKind.signed] at h; omega
theorem take_len {α : Type} {l : List α} {n c : Nat} {b : Bool} (h : l.length = if b = true then c else n) (hl : n ≤ c) : (l.take n).length = n := by
  rw [List.length_take]; split at h <;> omega
theorem open_strsV (h : DataW.trod enc Tryz.prog w base spare held fuel 22 cs = some x) :
    ∃ (a : Option Addr) (c : Nat) (l : List ByteArray), cs = [.slice a l.length c] ∧ l.length ≤ maxLen ∧ ∀ i (h : i < l.length), ∃ b, a = some b ∧ b.block < w.heap.size ∧ w.cell? (b.add i) = some (.string l[i]) := by
  rcases open_strings Tryz.underlying22 Tryz.underlying9 (by kernel_rfl) h with ⟨rfl, _⟩ | ⟨a, len, cap, ss, rfl, _, hl, hm, hs, _, hc, _⟩
  · exact ⟨none, 0, [], rfl, Nat.zero_le _, fun i h => absurd h (Nat.not_lt_zero i)⟩
  · have ht := take_len hs hl
    refine ⟨some a, cap, ss.take len, by rw [ht], by rw [ht]; omega, fun i hi => ?_⟩
    have hi' : i < ss.length := by rw [List.length_take] at hi; omega
    have hcell := hc i hi'
    have hb := World.block_lt_of_cell? w _ hcell
    rw [add_block] at hb
    refine ⟨a, rfl, hb, ?_⟩
    rw [hcell, List.getElem_take, List.getD_eq_getElem?_getD, List.getElem?_eq_getElem hi']
    rfl
theorem open_intsV {t : TypeId} {e : TypeId} (ht : Tryz.prog.underlying t = some (.slice e)) (he : Tryz.prog.underlying e = some (.int .i64)) (hc1 : Tryz.prog.cellsOf e = 1) (h : DataW.trod enc Tryz.prog w base spare held fuel t cs = some x) :
    ∃ (a : Option Addr) (c : Nat) (l : List Int), cs = [.slice a l.length c] ∧ l.length ≤ maxLen ∧ (∀ i (h : i < l.length), ∃ b, a = some b ∧ b.block < w.heap.size ∧ w.cell? (b.add i) = some (.int .i64 l[i])) ∧
      ∀ x ∈ l, -9223372036854775808 ≤ x ∧ x ≤ 9223372036854775807 := by
  rcases open_ints ht he hc1 h with ⟨rfl, _⟩ | ⟨a, len, cap, ss, rfl, _, hl, hm, hs, _, hc, hw⟩
  · exact ⟨none, 0, [], rfl, Nat.zero_le _, fun i h => absurd h (Nat.not_lt_zero i), fun x hx => by cases hx⟩
  · have ht := take_len hs hl
    refine ⟨some a, cap, ss.take len, by rw [ht], by rw [ht]; omega, fun i hi => ?_, fun x hx => ?_⟩
    · have hi' : i < ss.length := by rw [List.length_take] at hi; omega
      have hcell := hc i hi'
      have hb := World.block_lt_of_cell? w _ hcell
      rw [add_block] at hb
      refine ⟨a, rfl, hb, ?_⟩
      rw [hcell, List.getElem_take, List.getD_eq_getElem?_getD, List.getElem?_eq_getElem hi']
      rfl
    · have := wf64 (hw x (List.mem_of_mem_take hx))
      omega
set_option maxRecDepth 100000 in
theorem open_V (h : DataW.trod enc Tryz.prog w base spare held fuel 26 cs = some x) : ∃ V : VS, cs = [V.x0, V.x1, V.x2] ∧ VOk w V := by
  obtain ⟨xs, n, rfl, hx, hlen, hxl, hf⟩ := DataW.trod_struct Tryz.underlying26 h
  rw [show Tryz.prog.cellsOf 26 = 3 from by kernel_rfl] at hlen
  match cs, hlen, xs, hxl with
  | [c0, c1, c2], _, [y0, y1, y2], _ =>
    have h0 := hf 0 _ rfl
    have h1 := hf 1 _ rfl
    have h2 := hf 2 _ rfl
    obtain ⟨a0, k0, l0, e0, m0, g0⟩ := open_strsV (show DataW.trod enc Tryz.prog w base spare held n 22 [c0] = some y0 from h0)
    obtain ⟨a1, k1, l1, e1, m1, g1, z1⟩ := open_intsV Tryz.underlying23 Tryz.underlying2 (by kernel_rfl) (show DataW.trod enc Tryz.prog w base spare held n 23 [c1] = some y1 from h1)
    obtain ⟨a2, k2, l2, e2, m2, g2, z2⟩ := open_intsV Tryz.underlying24 Tryz.underlying3 (by kernel_rfl) (show DataW.trod enc Tryz.prog w base spare held n 24 [c2] = some y2 from h2)
    simp only [List.cons.injEq, and_true] at e0 e1 e2
    subst e0 e1 e2
    exact ⟨⟨a0, a1, a2, k0, k1, k2, l0, l1, l2⟩, rfl, ⟨⟨g0, g1, g2, z1, z2⟩, m0, m1, m2⟩⟩
set_option maxRecDepth 100000 in
theorem open_L (h : DataW.trod enc Tryz.prog w base spare held fuel 45 cs = some x) : ∃ (k : ByteArray) (q : Int), cs = [.string k, .int .i64 q] ∧ k.size ≤ maxLen ∧ -9223372036854775808 ≤ q ∧ q ≤ 9223372036854775807 := by
  obtain ⟨xs, n, rfl, hx, hlen, hxl, hf⟩ := DataW.trod_struct Tryz.underlying45 h
  rw [show Tryz.prog.cellsOf 45 = 2 from by kernel_rfl] at hlen
  match cs, hlen, xs, hxl with
  | [c0, c1], _, [y0, y1], _ =>
    have h0 := hf 0 _ rfl
    have h1 := hf 1 _ rfl
    obtain ⟨k, e0, -, m0⟩ := DataW.trod_string Tryz.underlying9 (show DataW.trod enc Tryz.prog w base spare held n 9 [c0] = some y0 from h0)
    obtain ⟨q, e1, -, m1⟩ := DataW.trod_int Tryz.underlying2 (show DataW.trod enc Tryz.prog w base spare held n 2 [c1] = some y1 from h1)
    simp only [List.cons.injEq, and_true] at e0 e1
    subst e0 e1
    have := wf64 m1
    exact ⟨k, q, rfl, m0, by omega, by omega⟩
set_option maxRecDepth 100000 in
theorem open_op (h : DataW.trod enc Tryz.prog w base spare held fuel 47 cs = some x) : ∃ o : OpS, cs = o.cells.toList ∧ o.Ok ∧ VRd w w.heap.size o.V := by
  obtain ⟨xs, n, rfl, hx, hlen, hxl, hf⟩ := DataW.trod_struct Tryz.underlying47 h
  rw [show Tryz.prog.cellsOf 47 = 9 from by kernel_rfl] at hlen
  match cs, hlen, xs, hxl with
  | [c0, c1, c2, c3, c4, c5, c6, c7, c8], _, [y0, y1, y2, y3, y4], _ =>
    have h0 := hf 0 _ rfl
    have h1 := hf 1 _ rfl
    have h2 := hf 2 _ rfl
    have h3 := hf 3 _ rfl
    have h4 := hf 4 _ rfl
    obtain ⟨kd, e0, -, m0⟩ := DataW.trod_int Tryz.underlying5 (show DataW.trod enc Tryz.prog w base spare held n 5 [c0] = some y0 from h0)
    obtain ⟨ak, aq, e1, ka, a0, a1⟩ := open_L (show DataW.trod enc Tryz.prog w base spare held n 45 [c1, c2] = some y1 from h1)
    obtain ⟨bk, bq, e2, kb, b0, b1⟩ := open_L (show DataW.trod enc Tryz.prog w base spare held n 45 [c3, c4] = some y2 from h2)
    obtain ⟨q, e3, -, m3⟩ := DataW.trod_int Tryz.underlying2 (show DataW.trod enc Tryz.prog w base spare held n 2 [c5] = some y3 from h3)
    obtain ⟨V, e4, hV⟩ := open_V (show DataW.trod enc Tryz.prog w base spare held n 26 [c6, c7, c8] = some y4 from h4)
    simp only [List.cons.injEq, and_true] at e0 e1 e2 e3 e4
    obtain ⟨rfl, rfl⟩ := e1
    obtain ⟨rfl, rfl⟩ := e2
    obtain ⟨rfl, rfl, rfl⟩ := e4
    subst e0 e3
    have hkd : 0 ≤ kd ∧ kd ≤ 255 := by
      simp [Lit.wf, IntKind.min, IntKind.max, IntKind.bits, IntKind.signed] at m0; omega
    have hq := wf64 m3
    exact ⟨⟨kd, ak, aq, bk, bq, q, V⟩, rfl, ⟨hkd.1, hkd.2, ka, kb, a0, a1, b0, b1, by show -9223372036854775808 ≤ q; omega, by show q ≤ _; omega, hV.l0, hV.l1, hV.l2⟩, hV.rd⟩
theorem choose_list {α : Type} {p : Nat → α → Prop} : ∀ n : Nat, (∀ i, i < n → ∃ x, p i x) → ∃ l : List α, l.length = n ∧ ∀ i (h : i < l.length), p i l[i]
  | 0, _ => ⟨[], rfl, fun i h => absurd h (Nat.not_lt_zero i)⟩
  | n + 1, h => by
    obtain ⟨l, hl, hp⟩ := choose_list n (fun i hi => h i (by omega))
    obtain ⟨x, hx⟩ := h n (by omega)
    refine ⟨l ++ [x], by simp [hl], fun i hi => ?_⟩
    by_cases e : i < l.length
    · rw [List.getElem_append_left e]; exact hp i e
    · obtain rfl : i = l.length := by simp at hi; omega
      simp only [List.getElem_concat_length]
      rw [hl]; exact hx
theorem open_ops (h : DataW.trod enc Tryz.prog w base spare held fuel 27 cs = some x) : ∃ (v : Value) (l : List OpS), cs = [v] ∧ OpsAt w w.heap.size v l := by
  rcases open_slice Tryz.underlying27 h with ⟨rfl, _⟩ | ⟨a, len, cap, m, n, D, Pl, rfl, _, hl, hm, hmm, _, hc⟩
  · exact ⟨_, [], rfl, ⟨none, 0, rfl, fun i h => absurd h (Nat.not_lt_zero i)⟩, fun o ho => (by cases ho), Nat.zero_le _⟩
  · have hlm : len ≤ m := by rw [hmm]; split <;> omega
    obtain ⟨l, hll, hp⟩ := choose_list (p := fun i (o : OpS) => (a.block < w.heap.size ∧ ∀ j, j < 9 → w.cell? (a.add (i * 9 + j)) = (o.cells)[j]?) ∧ o.Ok ∧ VRd w w.heap.size o.V) len (fun i hi => by
      obtain ⟨cs', h1, h2⟩ := hc i (by omega)
      rw [show Tryz.prog.cellsOf 47 = 9 from by kernel_rfl] at h1
      obtain ⟨_, hcl, hat⟩ := World.cells?_some h1
      obtain ⟨o, rfl, h3, h4⟩ := open_op h2
      refine ⟨o, ⟨?_, fun j hj => ?_⟩, h3, h4⟩
      · have := hat 0 (by omega)
        rw [add_add] at this
        have hb := World.block_lt_of_cell? w _ (u := .int .u8 o.kd) (by rw [this]; rfl)
        rw [add_block] at hb
        exact hb
      · have := hat j hj
        rw [add_add] at this
        rw [this]; simp)
    refine ⟨_, l, rfl, ⟨some a, cap, by rw [hll], fun i hi => ⟨a, rfl, (hp i hi).1.1, (hp i hi).1.2⟩⟩, fun o ho => ?_, by omega⟩
    obtain ⟨i, hi, rfl⟩ := List.getElem_of_mem ho
    exact (hp i hi).2
end
section
variable {H : Type} {enc : TypeId × Value → H} {W W' : World}
theorem trodAll_below (hl : laidOutB Tryz.prog = true) (hb : Below W.heap.size W W') : ∀ {ts : List TypeId} {vs : List Value} {ds : List (DataW H)} {ps : List MemPlace}, (∀ t ∈ ts, Tryz.prog.readableRec t = true ∧ t < Tryz.prog.types.size) →
    DataW.TrodAll enc Tryz.prog W 0 (fun _ => true) true ts vs ds ps → (∀ x ∈ ps, x.block < W.heap.size) → DataW.TrodAll enc Tryz.prog W' 0 (fun b => decide (b < W.heap.size)) true ts vs ds ps
  | [], vs, ds, ps, _, h, _ => by obtain ⟨rfl, rfl, rfl⟩ := trodAll_nil h; exact trodAll_mk0
  | t :: ts, vs, ds, ps, hr, h, hlt => by
    obtain ⟨v, vs', d, ds', p, q, rfl, rfl, rfl, h1, h2⟩ := trodAll_cons h
    obtain ⟨r1, r2⟩ := hr t (by simp)
    exact ⟨p, q, Below.trod hl r1 r2 h1 hb (fun x hx => hlt x (by simp [hx])), trodAll_below hl hb (fun t ht => hr t (by simp [ht])) h2 (fun x hx => hlt x (by simp [hx])), rfl⟩
theorem law_post {f : Func} {s : ChangeSpec} {args : Array Value} {ds gs : List (DataW H)} {before : List MemPlace} (hl : laidOutB Tryz.prog = true) (hv : s.vars = []) (hr : f.resultTypes = #[4])
    (hfn : s.fn H (ds ++ gs) = { results := [.lit (.bool true)], args := ds }) (hrd : ∀ t ∈ f.params.toList, Tryz.prog.readableRec t = true ∧ t < Tryz.prog.types.size)
    (hW : DataW.Whole enc Tryz.prog f.params.toList s.vars false W args.toList ds gs before) (hb : Below W.heap.size W W') : s.post enc Tryz.prog f false true false false W args (.bool true) W' := by
  have hlt : ∀ p ∈ before, p.block < W.heap.size := fun p hp => hW.lt p hp
  obtain ⟨p, q, hA, hV, rfl, hz, hn⟩ := hW
  have hV' := hV
  rw [hv] at hV
  obtain ⟨rfl, rfl⟩ := trodVars_none hV
  refine ⟨ds, [], p ++ [], [], p, [], ⟨p, [], hA, hV', rfl, hz, hn⟩, ?_, ?_, ?_, ?_, fun h => by cases h⟩
  · rw [hfn, hr]
    exact trodAll_mk1 (shut_bool Tryz.underlying4 true)
  · rw [hfn]
    exact trodAll_below hl hb hrd hA (fun x hx => hlt x (by simp [hx]))
  · rw [hfn, hv]
    rfl
  · exact World.keptBut_mono (fun p hp => ⟨hp, Or.inr (Or.inl (by simpa using hp))⟩) (hb.frame (· ∈ p ++ []))
end
end Go.Proofs.YtjjnljfphaimgaaGreatDoor.C
/- Words for the laws of girolaw34: a pool by itself, its methods' contracts. -/
namespace Go.Proofs.YtjjnljfphaimgaaGreatDoor.C
open Go Go.RowKit Go.Shelf Go.Proofs

/-- A pool over the valuer V, laid behind w0; what lay before w0 is untouched. -/
structure Own (w0 w : World) (p m : Nat) (V : VS) (S : PS) : Prop where
  pool : PoolAt w p m S
  vl : S.vl = vlOf V
  v0 : VAt w0 w0.heap.size V
  sim : Sim (fV V) S
  base : Below w0.heap.size w0 w
  hp : w0.heap.size ≤ p
  hm : w0.heap.size ≤ m
variable {w0 w w' : World} {p m q n : Nat} {V V2 : VS} {S T : PS} {sl : Value}
theorem Pair.own (h : Pair w0 w p m V S sl) : Own w0 w p m V S := ⟨h.pool, h.vl, h.v0, h.sim, h.base, h.hp, h.hm⟩
theorem Own.pair (h : Own w0 w p m V S) (hr : RowAt w w0.heap.size sl S.L) : Pair w0 w p m V S sl := ⟨h.pool, h.vl, hr, h.v0, h.sim, h.base, h.hp, h.hm⟩
theorem Own.below (h : Own w0 w p m V S) (hb : Below w.heap.size w w') : Own w0 w' p m V S :=
  ⟨h.pool.below hb h.pool.lt h.pool.2.lt, h.vl, h.v0, h.sim, bstep h.base hb h.base.size, h.hp, h.hm⟩
theorem Own.up (h : Own w0 w p m V S) (hF : Fr p m w w') : Below w0.heap.size w0 w' := hF.up h.base h.hp h.hm
/-- Another pool stays. -/
theorem Own.other (h : Own w0 w q n V S) (hF : Fr p m w w') (hb : Below w0.heap.size w0 w') (h1 : q ≠ p) (h2 : q ≠ m) (h3 : n ≠ p) (h4 : n ≠ m) : Own w0 w' q n V S :=
  ⟨h.pool.fr hF h1 h2 h3 h4, h.vl, h.v0, h.sim, hb, h.hp, h.hm⟩
def OwnPost (w0 w : World) (p m : Nat) (V : VS) (r : Int × PS) (e : Ending) (w' : World) : Prop := e = .returned (.int .i64 r.1) ∧ Own w0 w' p m V r.2 ∧ Fr p m w w'
theorem Own.pledge (h : Own w0 w p m V S) (k : ByteArray) (hk : k.size ≤ maxLen) (a : Int) : Calls Tryz.prog 27 #[.pointer (some ⟨p, 0, none⟩), .string k, .int .i64 a] w (OwnPost w0 w p m V (pledgeF (fV V) S k a)) :=
  (pledge_calls w p m S k hk a 35 (aggV V) w0.heap.size w0 (fV V) 135 (aggV V) h.pool h.sim.ok (isValuer_prices h.v0) h.vl h.base h.base.size hk (fV_range' V)).mono fun _ _ ⟨he, hP, hF⟩ =>
    ⟨he, ⟨hP, (pledge_vl _ _ _ _).1.trans h.vl, h.v0, pledge_keep (fV_ok V).nn h.sim k a, h.up hF, h.hp, h.hm⟩, hF⟩
theorem Own.release (h : Own w0 w p m V S) (k : ByteArray) (hk : k.size ≤ maxLen) (a : Int) : Calls Tryz.prog 21 #[.pointer (some ⟨p, 0, none⟩), .string k, .int .i64 a] w (OwnPost w0 w p m V (releaseF (fV V) S k a)) :=
  (release_calls w p m S k a 35 (aggV V) w0.heap.size w0 (fV V) 135 (aggV V) h.pool h.sim.ok (isValuer_prices h.v0) h.vl h.base h.base.size hk (fV_range' V)).mono fun _ _ ⟨he, hP, hF⟩ =>
    ⟨he, ⟨hP, (release_vl _ _ _ _).1.trans h.vl, h.v0, release_keep (fV_ok V).nn h.sim k a, h.up hF, h.hp, h.hm⟩, hF⟩
theorem Own.require (h : Own w0 w p m V S) (a : Int) : Calls Tryz.prog 32 #[.pointer (some ⟨p, 0, none⟩), .int .i64 a] w (OwnPost w0 w p m V (requireF S a)) :=
  (require_calls w p m S a h.pool).mono fun _ _ ⟨he, hP, hF⟩ => ⟨he, ⟨hP, (require_vl _ _).1.trans h.vl, h.v0, require_keep h.sim a, h.up hF, h.hp, h.hm⟩, hF⟩
theorem Own.subst (h : Own w0 w p m V S) (ok : ByteArray) (hk : ok.size ≤ maxLen) (oq : Int) (ik : ByteArray) (hk2 : ik.size ≤ maxLen) (iq : Int) :
    Calls Tryz.prog 28 #[.pointer (some ⟨p, 0, none⟩), .agg #[.string ok, .int .i64 oq], .agg #[.string ik, .int .i64 iq]] w (OwnPost w0 w p m V (substF (fV V) S ok oq ik iq)) :=
  (substitute_calls w p m S ok oq ik hk2 iq 35 (aggV V) w0.heap.size w0 (fV V) 135 (aggV V) h.pool h.sim.ok (isValuer_prices h.v0) h.vl h.base h.base.size hk hk2 (fV_range' V)).mono fun _ _ ⟨he, hP, hF⟩ =>
    ⟨he, ⟨hP, (subst_vl _ _ _ _ _ _).1.trans h.vl, h.v0, subst_keep (fV_ok V).nn h.sim ok oq ik iq, h.up hF, h.hp, h.hm⟩, hF⟩
def RevOwn (w0 w : World) (p m : Nat) (V : VS) (r : Int × PS) (e : Ending) (w' : World) : Prop := ∃ m', e = .returned (.int .i64 r.1) ∧ Own w0 w' p m' V r.2 ∧ Fr p m w w' ∧ (m' = m ∨ w.heap.size ≤ m')
theorem Own.revalue (h : Own w0 w p m V S) (h2 : VAt w0 w0.heap.size V2) : Calls Tryz.prog 31 #[.pointer (some ⟨p, 0, none⟩), .iface 35 (.agg #[V2.x0, V2.x1, V2.x2])] w (RevOwn w0 w p m (if (revalueF (fV V2) S (vlOf V2)).1 = 0 then V2 else V) (revalueF (fV V2) S (vlOf V2))) :=
  (revalue_calls w p m S 35 (aggV V2) w0.heap.size w0 (fV V2) 135 (aggV V2) h.pool h.sim.ok (isValuer_prices h2) h.base h.base.size (fV_range' V2)).mono fun _ _ ⟨m', he, hP, hF, hm⟩ =>
    have g := revalue_pair h.sim h.vl h.v0 h2 rfl rfl
    ⟨m', he, ⟨hP, g.1, g.2.1, g.2.2, h.up hF, h.hp, by have := h.hm; have := h.base.size; omega⟩, hF, hm⟩
def CloneOwn (w0 w : World) (V : VS) (S : PS) (e : Ending) (w' : World) : Prop := ∃ p' m', e = .returned (.pointer (some ⟨p', 0, none⟩)) ∧ Own w0 w' p' m' V S ∧ w.heap.size ≤ p' ∧ w.heap.size ≤ m' ∧ Below w.heap.size w w'
theorem Own.clone (h : Own w0 w p m V S) : Calls Tryz.prog 20 #[.pointer (some ⟨p, 0, none⟩)] w (CloneOwn w0 w V S) :=
  (clone_calls w p m S 35 (aggV V) h.pool h.vl).mono fun _ _ ⟨p', m', he, hP, h1, h2, hb⟩ =>
    ⟨p', m', he, ⟨hP, h.vl, h.v0, h.sim, bstep h.base hb h.base.size, Nat.le_trans h.base.size h1, Nat.le_trans h.base.size h2⟩, h1, h2, hb⟩
theorem Own.max (h : Own w0 w p m V S) (k : ByteArray) (hk : k.size ≤ maxLen) : Calls Tryz.prog 17 #[.pointer (some ⟨p, 0, none⟩), .string k] w (SearchPost (qty S.L k) (refused (fV V) S k) w.heap.size w) :=
  maxRelease_calls w p m S k 35 (aggV V) w0.heap.size w0 (fV V) 135 (aggV V) h.pool h.sim.ok (isValuer_prices h.v0) h.vl h.base h.base.size hk (fV_range' V)
theorem Own.equal (h : Own w0 w p m V S) (h2 : Own w0 w q n V2 T) : Calls Tryz.prog 26 #[.pointer (some ⟨p, 0, none⟩), .pointer (some ⟨q, 0, none⟩)] w fun e w' => e = .returned (.bool (eqF S T)) ∧ Below w.heap.size w w' :=
  equal_calls w p m S q n T h.pool h2.pool h.sim.ok.len h2.sim.ok.len
theorem Own.excess (h : Own w0 w p m V S) : Calls Tryz.prog 22 #[.pointer (some ⟨p, 0, none⟩)] w fun e w' => e = .returned (.int .i64 (S.value - S.req)) ∧ w = w' :=
  excess_calls w p m S h.pool h.sim.ok.v0 h.sim.ok.v1 h.sim.ok.r0 h.sim.ok.r1
/-- The reference's answers at a pair, in the pool's own functions. -/
theorem Pair.refRelease (h : Pair w0 w p m V S sl) (k : ByteArray) (hk : k.size ≤ maxLen) (a : Int) (a0 : -9223372036854775808 ≤ a) (a1 : a ≤ 9223372036854775807) :
    Calls Tryz.prog 19 #[rP V S sl, .string k, .int .i64 a] w (RefPost V w0.heap.size w (releaseF (fV V) S k a)) := by
  rw [← release_sim h.sim]; exact refRelease_calls w w0.heap.size V S sl k a h.row h.v h.base.size h.lok hk a0 a1
theorem Pair.refQuantity (h : Pair w0 w p m V S sl) (k : ByteArray) : Calls Tryz.prog 18 #[rP V S sl, .string k] w (Ret (.int .i64 (qty S.L k)) w.heap.size w) := by
  have := h.sim.ok.len
  exact (rquantity_calls w w0.heap.size V S sl k h.row (by omega)).mono fun _ _ h => h
theorem Pair.refSubst (h : Pair w0 w p m V S sl) (ok : ByteArray) (hk : ok.size ≤ maxLen) (oq : Int) (ik : ByteArray) (hk2 : ik.size ≤ maxLen) (iq : Int) (a0 : -9223372036854775808 ≤ oq) (a1 : oq ≤ 9223372036854775807) (b0 : -9223372036854775808 ≤ iq) (b1 : iq ≤ 9223372036854775807) :
    Calls Tryz.prog 29 #[rP V S sl, .agg #[.string ok, .int .i64 oq], .agg #[.string ik, .int .i64 iq]] w (RefPost V w0.heap.size w (substF (fV V) S ok oq ik iq)) := by
  rw [← subst_sim h.sim]; exact refSubst_calls w w0.heap.size V S sl ok oq ik iq h.row h.v h.base.size h.lok hk hk2 a0 a1 b0 b1
theorem Pair.refRevalue (h : Pair w0 w p m V S sl) (h2 : VAt w0 w0.heap.size V2) :
    Calls Tryz.prog 30 #[rP V S sl, .agg #[V2.x0, V2.x1, V2.x2]] w (RevOk V V2 w0.heap.size w (revalueF (fV V2) S (vlOf V2))) :=
  (refRevalue_calls w w0.heap.size V V2 S sl h.row h.v (h2.below h.base) h.base.size h.lok).mono fun _ _ hr => revalue_ref (fV_ok V2).nn h.sim hr
theorem Pair.refSame {p2 m2 : Nat} {T : PS} {sl2 : Value} (h : Pair w0 w p m V S sl) (h2 : Pair w0 w p2 m2 V2 T sl2) :
    Calls Tryz.prog 25 #[rP V S sl, rP V2 T sl2] w fun e w' => e = .returned (.bool (eqF S T)) ∧ Below w.heap.size w w' := by
  rw [← eqF_same h.sim h2.sim]; exact refSame_calls w w0.heap.size V V2 S T sl sl2 h.row h2.row h.v h2.v h.base.size h.lok h2.lok
theorem BSq.below {b8 : Nat} {W W' : World} (h : BSq w0 w W p m V S sl b8) (hb : Below W.heap.size W W') : BSq w0 w W' p m V S sl b8 := ⟨h.pair.below hb, blk_keep hb h.x (Nat.le_refl _), bstep h.b hb h.b.size⟩
abbrev BSqc (w0 w W : World) (p m : Nat) (V : VS) (S : PS) (sl : Value) (b8 : Nat) : Prop :=
  W.cell? ⟨b8, 0, none⟩ = some (.string S.owner) ∧ W.cell? ⟨b8, 1, none⟩ = some (.slice V.a0 V.l0.length V.c0) ∧ W.cell? ⟨b8, 2, none⟩ = some (.slice V.a1 V.l1.length V.c1) ∧ W.cell? ⟨b8, 3, none⟩ = some (.slice V.a2 V.l2.length V.c2) ∧ W.cell? ⟨b8, 4, none⟩ = some sl ∧ W.cell? ⟨b8, 5, none⟩ = some (.int .i64 S.req) ∧ BSq w0 w W p m V S sl b8
theorem BSq.cells {b8 : Nat} {W : World} (h : BSq w0 w W p m V S sl b8) : BSqc w0 w W p m V S sl b8 := by
  obtain ⟨x0, x1, x2, x3, x4, x5⟩ := sixV h.x
  exact ⟨x0, x1, x2, x3, x4, x5, h⟩
theorem bsq_of {b8 : Nat} {W : World} (h : BSqc w0 w W p m V S sl b8) : BSq w0 w W p m V S sl b8 := h.2.2.2.2.2.2
theorem bld_owner (l : List OpS) (V : VS) : (bldF l (new0 V)).2.owner = bankA := by
  have g : ∀ (l : List OpS) (s : VS × PS), s.2.owner = bankA → (bldF l s).2.owner = bankA := by
    intro l
    induction l with
    | nil => intro s h; exact h
    | cons o r ih =>
      intro s h
      refine ih _ ?_
      show (doF o s.1 s.2).2.owner = bankA
      unfold doF
      split
      · rw [(pledge_vl _ _ _ _).2]; exact h
      split
      · rw [(release_vl _ _ _ _).2]; exact h
      split
      · rw [(require_vl _ _).2]; exact h
      split
      · rw [(subst_vl _ _ _ _ _ _).2]; exact h
      split
      · show (revalueF (fV o.V) s.2 (vlOf o.V)).2.owner = bankA
        have e : (revalueF (fV o.V) s.2 (vlOf o.V)).2.owner = s.2.owner := by
          unfold revalueF; split
          · rfl
          · split <;> rfl
        rw [e]; exact h
      · exact h
  exact g l _ rfl
end Go.Proofs.YtjjnljfphaimgaaGreatDoor.C
/- Plain: an operation that fails changes nothing. -/
namespace Go.Proofs.YtjjnljfphaimgaaGreatDoor.C
open Go Go.RowKit Go.Shelf Go.Proofs

theorem apply_bad {S : PS} {c : Bool} {cs : List Hold} (h : (applyF S c cs).1 ≠ 0) : (applyF S c cs).2 = S := by
  unfold applyF at h ⊢
  by_cases h1 : 1000000000000000 < applyTot S cs
  · rw [if_pos h1]
  rw [if_neg h1] at h ⊢
  by_cases h2 : c = true ∧ applyTot S cs < S.req
  · rw [if_pos h2]
  rw [if_neg h2] at h
  exact absurd rfl h
theorem subst_bad {f : ByteArray → Int → Int × Int} {S : PS} {ok ik : ByteArray} {oq iq : Int} (h : (substF f S ok oq ik iq).1 ≠ 0) : (substF f S ok oq ik iq).2 = S := by
  unfold substF at h ⊢
  by_cases h1 : ckRel S.L ok oq ≠ 0
  · rw [if_pos h1]
  rw [if_neg h1] at h ⊢
  by_cases h2 : isinB ik = false
  · rw [if_pos h2]
  rw [if_neg h2] at h ⊢
  by_cases h3 : ik = ok
  · rw [if_pos h3]
  rw [if_neg h3] at h ⊢
  by_cases h4 : ¬ (1 ≤ iq ∧ iq ≤ 1000000000000000)
  · rw [if_pos h4]
  rw [if_neg h4] at h ⊢
  by_cases h5 : 1000000000000000 - iq < qty S.L ik
  · rw [if_pos h5]
  rw [if_neg h5] at h ⊢
  by_cases h6 : 1024 < (S.L.length : Int) + (if has S.L ik = true then 0 else 1) - (if qty S.L ok - oq = 0 then 1 else 0)
  · rw [if_pos h6]
  rw [if_neg h6] at h ⊢
  by_cases h7 : (worthF f ok (qty S.L ok - oq)).2.2 ≠ 0
  · rw [if_pos h7]
  rw [if_neg h7] at h ⊢
  by_cases h8 : (f ik (qty S.L ik + iq)).2 ≠ 0
  · rw [if_pos h8]
  rw [if_neg h8] at h ⊢
  exact apply_bad h
end Go.Proofs.YtjjnljfphaimgaaGreatDoor.C
/- Plain: a release that fails changes nothing. -/
namespace Go.Proofs.YtjjnljfphaimgaaGreatDoor.C
open Go Go.RowKit Go.Shelf Go.Proofs

theorem release_bad {f : ByteArray → Int → Int × Int} {S : PS} {k : ByteArray} {n : Int} (h : (releaseF f S k n).1 ≠ 0) : (releaseF f S k n).2 = S := by
  unfold releaseF at h ⊢
  by_cases h1 : ckRel S.L k n ≠ 0
  · rw [if_pos h1]
  rw [if_neg h1] at h ⊢
  by_cases h2 : (worthF f k (qty S.L k - n)).2.2 ≠ 0
  · rw [if_pos h2]
  rw [if_neg h2] at h ⊢
  exact apply_bad h
end Go.Proofs.YtjjnljfphaimgaaGreatDoor.C
/- Words for CollateralClones: a pair stays while another pool is worked on. -/
namespace Go.Proofs.YtjjnljfphaimgaaGreatDoor.C
open Go Go.RowKit Go.Shelf Go.Proofs

theorem BSq.other {w0 w W W' : World} {p m q n b8 : Nat} {V : VS} {S T : PS} {sl : Value} (h : BSq w0 w W p m V S sl b8) (hP : PoolAt W q n T) (hF : Fr q n W W') (h0 : Below w0.heap.size w0 W') (hw : Below w.heap.size w W') (h1 : p ≠ q) (h2 : p ≠ n) (h3 : m ≠ q) (h4 : m ≠ n) : BSq w0 w W' p m V S sl b8 :=
  ⟨(h.pair.own.other hF h0 h1 h2 h3 h4).pair (row_fr h.pair.row hP hF), (hF.block b8 (blk_lt h.x) (box_ne h.x hP).1 (box_ne h.x hP).2).trans h.x, hw⟩
theorem BSq.set6 {w0 w W : World} {p m b8 b : Nat} {V : VS} {S : PS} {sl : Value} (h : BSq w0 w W p m V S sl b8) {u0 u1 u2 u3 u4 u5 : Value} (hb : W.heap[b]? = some (.cells #[u0, u1, u2, u3, u4, u5] 38 (0, 0))) (h0 : w0.heap.size ≤ b) (hw : w.heap.size ≤ b) (hne : b8 ≠ b) (v0 v1 v2 v3 v4 v5 : Value) : BSq w0 w (C.set6 W b v0 v1 v2 v3 v4 v5) p m V S sl b8 :=
  ⟨h.pair.set6 hb h0 v0 v1 v2 v3 v4 v5, set6_keep h.x hne _ _ _ _ _ _, set6_below h.b hw _ _ _ _ _ _⟩
theorem Pair.refSameA {w0 w : World} {p m p2 m2 : Nat} {V V2 : VS} {S T : PS} {sl sl2 : Value} (h : Pair w0 w p m V S sl) (h2 : Pair w0 w p2 m2 V2 T sl2) :
    Calls Tryz.prog 25 #[.agg #[.string S.owner, .slice V.a0 V.l0.length V.c0, .slice V.a1 V.l1.length V.c1, .slice V.a2 V.l2.length V.c2, sl, .int .i64 S.req], .agg #[.string T.owner, .slice V2.a0 V2.l0.length V2.c0, .slice V2.a1 V2.l1.length V2.c1, .slice V2.a2 V2.l2.length V2.c2, sl2, .int .i64 T.req]] w
      fun e w' => e = .returned (.bool (eqF S T)) ∧ Below w.heap.size w w' := h.refSame h2
/-- Cells of positions whose quantities are whole numbers. -/
def posInts (xs : List Value) (n : Nat) : Prop := ∀ j, j < n → ∃ q : Int, xs[j * 2 + 1]? = some (.int .i64 q)
theorem posInts_row (L : List Hold) : posInts (posRow L) L.length := fun j hj => ⟨_, (posRow_get L j hj).2⟩
theorem posInts_set {xs : List Value} {n i : Nat} (h : posInts xs n) (hi : i * 2 + 1 < xs.length) (q : Int) : posInts (xs.set (i * 2 + 1) (.int .i64 q)) n := by
  intro j hj
  by_cases e : j = i
  · subst e; exact ⟨q, by rw [List.getElem?_set_self hi]⟩
  · obtain ⟨r, hr⟩ := h j hj
    exact ⟨r, by rw [List.getElem?_set_ne (by omega)]; exact hr⟩
end Go.Proofs.YtjjnljfphaimgaaGreatDoor.C
