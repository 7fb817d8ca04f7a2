/- Contracts and plain laws, without conditions beyond each theorem's own: girolaw34.known in the seat of CollateralNil. girolaw34.CollateralNil. The laws' arguments opened; the end of a row whose law answers true and changes nothing. -/
import Derived.Deep.Slices
import Derived.SliceStrings
import Derived.ChangeSlices
import Derived.Carry
import Derived.ChangeSame
import Derived.ChangeVars
import Derived.JoinedOf
import Derived.LaidMore
import Derived.OpenShut
import Derived.ProofKit
import Derived.Stop.Joined
import Derived.Lib.SmallJoins
import Derived.ChangeMaps5
import Derived.Test.YtjjnljfphaimgaaDoorK05
set_option linter.all false
/- girolaw34.known in the seat of CollateralNil. -/
namespace Go.Proofs.YtjjnljfphaimgaaDoor.C
open Go Go.RowKit Go.Shelf Go.Proofs

def knV (b : Nat) : VS := ⟨some ⟨b, 0, none⟩, some ⟨b + 1, 0, none⟩, some ⟨b + 1 + 1, 0, none⟩, 1, 1, 1, [isinUS], [90], [0]⟩
theorem knV_f (b : Nat) (q : Int) (h0 : 0 ≤ q) (h1 : q ≤ 100) : fV (knV b) isinUS q = (9 * q, 0) := by
  have e : vlook (knV b).rows isinUS = some (90, 0) := by
    show (if isinUS = isinUS then some ((90 : Int), (0 : Int)) else _) = _
    rw [if_pos rfl]
  unfold fV
  rw [e]
  simp only
  rw [if_neg (by simp), show max q 0 = q from by omega, show vnum 90 = 90 from rfl]
  congr 1
  omega
def kn1 (b : Nat) : PS := ⟨bankA, .iface 46 (.agg #[(knV b).x0, (knV b).x1, (knV b).x2]), [⟨isinUS, 10, 90⟩], 0, 90⟩
def kn0 (b : Nat) : PS := ⟨bankA, .iface 46 (.agg #[(knV b).x0, (knV b).x1, (knV b).x2]), [], 0, 0⟩
theorem kn_pledge (b : Nat) : pledgeF (fV (knV b)) (kn0 b) isinUS 10 = (0, kn1 b) := by
  have hq : qty (kn0 b).L isinUS = 0 := rfl
  have hv : val (kn0 b).L isinUS = 0 := rfl
  have hf := knV_f b 10 (by omega) (by omega)
  have e : qty (kn0 b).L isinUS + 10 = 10 := by rw [hq]; rfl
  unfold pledgeF
  rw [isinUS_isin, if_neg (by simp), if_neg (by omega), hq, if_neg (by omega), if_neg (fun h => absurd h.2 (by show ¬ 1024 ≤ 0; omega)), show (0 : Int) + 10 = 10 from rfl, hf, if_neg (by simp)]
  unfold applyF
  have ht : applyTot (kn0 b) [⟨isinUS, 10, 9 * 10⟩] = 90 := by
    show (0 : Int) + (9 * 10 - val (kn0 b).L isinUS) = 90
    rw [hv]; rfl
  rw [ht, if_neg (by omega), if_neg (by simp)]
  rfl
theorem kn_find (b : Nat) : find (kn1 b).L isinUS = some ⟨isinUS, 10, 90⟩ := by
  show find [⟨isinUS, 10, 90⟩] isinUS = _
  unfold find
  rw [List.find?_cons]
  simp
theorem kn_qty (b : Nat) : qty (kn1 b).L isinUS = 10 := by unfold qty; rw [kn_find]; rfl
theorem kn_val (b : Nat) : val (kn1 b).L isinUS = 90 := by unfold val; rw [kn_find]; rfl
theorem kn_has (b : Nat) : has (kn1 b).L isinUS = true := by
  have := kn_find b
  exact find_some_has this
theorem kn_require (b : Nat) : requireF (kn1 b) 50 = (0, { kn1 b with req := 50 }) := by
  unfold requireF
  rw [if_neg (by omega), if_neg (by show ¬ (90 : Int) < 50; omega)]
theorem kn_worth (b : Nat) (q : Int) (h0 : 0 ≤ q) (h1 : q ≤ 100) : worthF (fV (knV b)) isinUS q = (q, 9 * q, 0) := by
  unfold worthF
  split
  · rename_i h; subst h; rfl
  · rw [knV_f b q h0 h1]
theorem kn_refused (b : Nat) (i : Int) (h0 : 0 ≤ i) (h1 : i < 10) : refused (fV (knV b)) { kn1 b with req := 50 } isinUS i = decide (9 * (9 - i) < 50) := by
  unfold refused
  rw [show qty ({ kn1 b with req := 50 } : PS).L isinUS = 10 from kn_qty b, show val ({ kn1 b with req := 50 } : PS).L isinUS = 90 from kn_val b, kn_worth b _ (by omega) (by omega)]
  show (decide ((0 : Int) ≠ 0) || decide ((90 : Int) - 90 + 9 * (10 - i - 1) < 50)) = _
  rw [show (90 : Int) - 90 + 9 * (10 - i - 1) = 9 * (9 - i) from by omega]
  simp
theorem kn_search {b : Nat} {r : Int} (h0 : 0 ≤ r) (h1 : r ≤ 10) (h2 : r < 10 → refused (fV (knV b)) { kn1 b with req := 50 } isinUS r = true) (h3 : 0 < r → refused (fV (knV b)) { kn1 b with req := 50 } isinUS (r - 1) = false) : r = 4 := by
  have a : r < 10 → 9 * (9 - r) < 50 := fun h => by have := h2 h; rw [kn_refused b r h0 h] at this; simpa using this
  have c : 0 < r → ¬ 9 * (9 - (r - 1)) < 50 := fun h => by have := h3 h; rw [kn_refused b (r - 1) (by omega) (by omega)] at this; simpa using this
  by_cases e : r < 10
  · have := a e
    by_cases e' : 0 < r
    · have := c e'; omega
    · omega
  · have := c (by omega); omega
theorem kn_release (b : Nat) : releaseF (fV (knV b)) { kn1 b with req := 50 } isinUS 5 = (25, { kn1 b with req := 50 }) := by
  unfold releaseF
  rw [show ckRel ({ kn1 b with req := 50 } : PS).L isinUS 5 = 0 from by
    unfold ckRel
    rw [show has ({ kn1 b with req := 50 } : PS).L isinUS = true from kn_has b, show qty ({ kn1 b with req := 50 } : PS).L isinUS = 10 from kn_qty b]; rfl]
  rw [if_neg (by simp), show qty ({ kn1 b with req := 50 } : PS).L isinUS = 10 from kn_qty b, kn_worth b _ (by omega) (by omega)]
  simp only
  rw [if_neg (by simp)]
  unfold applyF
  rw [show applyTot ({ kn1 b with req := 50 } : PS) [⟨isinUS, 10 - 5, 9 * (10 - 5)⟩] = 90 + (9 * (10 - 5) - val (kn1 b).L isinUS) from rfl]
  rw [show val (kn1 b).L isinUS = 90 from kn_val b]
  rw [if_neg (by show ¬ (1000000000000000 : Int) < 90 + _; omega), if_pos ⟨rfl, by show (90 : Int) + _ < 50; omega⟩]
theorem kn_ok0 (b : Nat) : (kn0 b).Ok :=
  ⟨by show (0 : Int) ≤ 0; omega, by show (0 : Int) ≤ _; omega, by show (0 : Int) ≤ 0; omega, by show (0 : Int) ≤ _; omega, (by intro h hm; cases hm), (by intro h hm; cases hm), (by intro h hm; cases hm), (by intro h hm; cases hm), by show 0 ≤ 1024; omega⟩
theorem kn_ok2 (b : Nat) : ({ kn1 b with req := 50 } : PS).Ok := by
  have g : ∀ h ∈ ({ kn1 b with req := 50 } : PS).L, h = ⟨isinUS, 10, 90⟩ := by intro h hm; simpa [kn1] using hm
  refine ⟨by show (0 : Int) ≤ 90; omega, by show (90 : Int) ≤ _; omega, by show (0 : Int) ≤ 50; omega, by show (50 : Int) ≤ _; omega, ?_, ?_, ?_, ?_, by show 1 ≤ 1024; omega⟩
  all_goals intro h hm; rw [g h hm]; simp
set_option maxRecDepth 100000 in
set_option maxHeartbeats 8000000 in
theorem known_calls (w : World) : Calls Tryd.prog 20 #[] w fun e w' => e = .returned (.bool true) ∧ Below w.heap.size w w' := by
  go_enter Tryd.func20, Tryd.ntmps20
  go_wp2_with fail
  have HVK : Hid (VAt (((w.alloc (.cells #[.string ⟨#[85, 83, 48, 51, 55, 56, 51, 51, 49, 48, 48, 53]⟩] 9)).alloc (.cells #[.int .i64 90] 2)).alloc (.cells #[.int .i64 0] 3))
      (((w.alloc (.cells #[.string ⟨#[85, 83, 48, 51, 55, 56, 51, 51, 49, 48, 48, 53]⟩] 9)).alloc (.cells #[.int .i64 90] 2)).alloc (.cells #[.int .i64 0] 3)).heap.size (knV w.heap.size)) := Lib.hid (by
    have hz : (((w.alloc (.cells #[.string ⟨#[85, 83, 48, 51, 55, 56, 51, 51, 49, 48, 48, 53]⟩] 9)).alloc (.cells #[.int .i64 90] 2)).alloc (.cells #[.int .i64 0] 3)).heap.size = w.heap.size + 3 := by simp
    have b0 := blk_alloc (blk_alloc (blk_new w (.cells #[.string ⟨#[85, 83, 48, 51, 55, 56, 51, 51, 49, 48, 48, 53]⟩] 9)) (.cells #[.int .i64 90] 2)) (.cells #[.int .i64 0] 3)
    have b1 := blk_alloc (blk_new (w.alloc (.cells #[.string ⟨#[85, 83, 48, 51, 55, 56, 51, 51, 49, 48, 48, 53]⟩] 9)) (.cells #[.int .i64 90] 2)) (.cells #[.int .i64 0] 3)
    have b2 := blk_new ((w.alloc (.cells #[.string ⟨#[85, 83, 48, 51, 55, 56, 51, 51, 49, 48, 48, 53]⟩] 9)).alloc (.cells #[.int .i64 90] 2)) (.cells #[.int .i64 0] 3)
    rw [show (w.alloc (.cells #[.string ⟨#[85, 83, 48, 51, 55, 56, 51, 51, 49, 48, 48, 53]⟩] 9)).heap.size = w.heap.size + 1 from by simp] at b1
    rw [show ((w.alloc (.cells #[.string ⟨#[85, 83, 48, 51, 55, 56, 51, 51, 49, 48, 48, 53]⟩] 9)).alloc (.cells #[.int .i64 90] 2)).heap.size = w.heap.size + 1 + 1 from by simp] at b2
    rw [hz]
    refine ⟨?_, ?_, ?_, ?_, ?_, (by show (1 : Nat) ≤ 10; omega), (by show (1 : Nat) ≤ 10; omega), (by show (1 : Nat) ≤ 10; omega)⟩
    · intro i hi
      obtain rfl : i = 0 := by have : i < 1 := hi; omega
      exact ⟨⟨w.heap.size, 0, none⟩, rfl, by show w.heap.size < _; omega, (blk_cell b0 0).trans rfl⟩
    · intro i hi
      obtain rfl : i = 0 := by have : i < 1 := hi; omega
      exact ⟨⟨w.heap.size + 1, 0, none⟩, rfl, by show w.heap.size + 1 < _; omega, (blk_cell b1 0).trans rfl⟩
    · intro i hi
      obtain rfl : i = 0 := by have : i < 1 := hi; omega
      exact ⟨⟨w.heap.size + 1 + 1, 0, none⟩, rfl, by show w.heap.size + 1 + 1 < _; omega, (blk_cell b2 0).trans rfl⟩
    · intro x hx; have : x = 90 := by simpa [knV] using hx
      omega
    · intro x hx; have : x = 0 := by simpa [knV] using hx
      omega)
  have HB := Lib.hid ((((Below.refl w.heap.size w).alloc (Nat.le_refl _) (.cells #[.string ⟨#[85, 83, 48, 51, 55, 56, 51, 51, 49, 48, 48, 53]⟩] 9)).alloc (by simp) (.cells #[.int .i64 90] 2)).alloc (by simp; omega) (.cells #[.int .i64 0] 3))
  generalize ((w.alloc (.cells #[.string ⟨#[85, 83, 48, 51, 55, 56, 51, 51, 49, 48, 48, 53]⟩] 9)).alloc (.cells #[.int .i64 90] 2)).alloc (.cells #[.int .i64 0] 3) = W1 at HVK HB ⊢
  refine (new_ok W1 bankA (by decide) 46 (.agg #[(knV w.heap.size).x0, (knV w.heap.size).x1, (knV w.heap.size).x2]) bankA_member).mono ?_
  rintro e W2 ⟨p, m, rfl, hP, hp, hm, hb⟩
  have HW2 := Lib.hid hb
  have HP2 : Hid (PoolAt W2 p m (kn0 w.heap.size)) := Lib.hid hP
  clear hP hb
  go_wp2_with fail
  refine (pledge_calls W2 p m (kn0 w.heap.size) isinUS (by decide) 10 46 (aggV (knV w.heap.size)) W1.heap.size W1 (fV (knV w.heap.size)) 111 (aggV (knV w.heap.size)) HP2.out (kn_ok0 w.heap.size) (isValuer_prices HVK.out) rfl HW2.out HW2.out.size (by decide) (fV_range' _)).mono ?_
  rw [kn_pledge]
  rintro e W3 ⟨rfl, hP, hF⟩
  have HP3 := Lib.hid hP
  have HW3 := Lib.hid (hF.up HW2.out hp hm)
  clear hP hF HP2 HW2
  have HV3 := Lib.hid (value_calls W3 p m (kn1 w.heap.size) HP3.out)
  go_wp2_with fail
  refine HV3.out.mono ?_
  rintro e w' ⟨rfl, rfl⟩
  clear HV3
  rw [show (kn1 w.heap.size).value = 90 from rfl]
  go_wp2_with fail
  refine (require_calls W3 p m (kn1 w.heap.size) 50 HP3.out).mono ?_
  rw [kn_require]
  rintro e W4 ⟨rfl, hP, hF⟩
  have HP4 := Lib.hid hP
  have HW4 := Lib.hid (hF.up HW3.out hp hm)
  clear hP hF HP3 HW3
  go_wp2_with fail
  refine (maxRelease_calls W4 p m { kn1 w.heap.size with req := 50 } isinUS 46 (aggV (knV w.heap.size)) W1.heap.size W1 (fV (knV w.heap.size)) 111 (aggV (knV w.heap.size)) HP4.out (kn_ok2 w.heap.size) (isValuer_prices HVK.out) rfl HW4.out HW4.out.size (by decide) (fV_range' _)).mono ?_
  rw [show qty ({ kn1 w.heap.size with req := 50 } : PS).L isinUS = 10 from kn_qty w.heap.size]
  rintro e W5 ⟨r, rfl, r0, r1, r2, r3, hb⟩
  obtain rfl := kn_search r0 r1 r2 r3
  have HP5 := Lib.hid (HP4.out.below hb HP4.out.lt HP4.out.2.lt)
  have HW5 := Lib.hid (bstep HW4.out hb HW4.out.size)
  clear hb HP4 HW4 r0 r1 r2 r3
  go_wp2_with fail
  refine (release_calls W5 p m { kn1 w.heap.size with req := 50 } isinUS 5 46 (aggV (knV w.heap.size)) W1.heap.size W1 (fV (knV w.heap.size)) 111 (aggV (knV w.heap.size)) HP5.out (kn_ok2 w.heap.size) (isValuer_prices HVK.out) rfl HW5.out HW5.out.size (by decide) (fV_range' _)).mono ?_
  rw [kn_release]
  rintro e W6 ⟨rfl, hP, hF⟩
  have HP6 := Lib.hid hP
  have HW6 := Lib.hid (hF.up HW5.out hp hm)
  clear hP hF HP5 HW5
  have HX6 := Lib.hid (excess_calls W6 p m { kn1 w.heap.size with req := 50 } HP6.out (kn_ok2 w.heap.size).v0 (kn_ok2 w.heap.size).v1 (kn_ok2 w.heap.size).r0 (kn_ok2 w.heap.size).r1)
  go_wp2_with fail
  refine HX6.out.mono ?_
  rintro e w' ⟨rfl, rfl⟩
  clear HX6
  rw [show ({ kn1 w.heap.size with req := 50 } : PS).value - ({ kn1 w.heap.size with req := 50 } : PS).req = 40 from rfl]
  go_wp2_with fail
  go_ret
  exact ⟨rfl, HB.out.trans (HW6.out.mono HB.out.size)⟩
end Go.Proofs.YtjjnljfphaimgaaDoor.C
/- girolaw34.CollateralNil. -/
namespace Go.Proofs.YtjjnljfphaimgaaDoor.C
open Go Go.RowKit Go.Shelf Go.Proofs

def LawPost (w : World) (e : Ending) (w' : World) : Prop := e = .returned (.bool true) ∧ Below w.heap.size w w'
/-- A valuer's slices, of any lengths. -/
structure VOk (w : World) (V : VS) : Prop where
  l0 : V.l0.length ≤ maxLen
theorem ownr_nil : ((⟨#[]⟩ : ByteArray) != ⟨#[]⟩) = false := by decide
set_option maxRecDepth 100000 in
set_option maxHeartbeats 16000000 in
theorem nil_law (w : World) (o : ByteArray) (V : VS) (ak : ByteArray) (an : Int) (ho : o.size ≤ maxLen) (ha : ak.size ≤ maxLen ∧ -9223372036854775808 ≤ an ∧ an ≤ 9223372036854775807) :
    Calls Tryd.prog 3 #[.string o, aggV V, .agg #[.string ak, .int .i64 an]] w (LawPost w) := by
  have HA := Lib.hid ha
  have HO := Lib.hid ho
  have HB := Lib.hid (((Below.refl w.heap.size w).alloc (Nat.le_refl _) (.cells #[V.x0, V.x1, V.x2] 26)).alloc (by simp) (.cells #[.string ak, .int .i64 an] 28))
  have HX := Lib.hid (blk_alloc (blk_new w (.cells #[V.x0, V.x1, V.x2] 26)) (.cells #[.string ak, .int .i64 an] 28))
  have HZ : Hid (((w.alloc (.cells #[V.x0, V.x1, V.x2] 26)).alloc (.cells #[.string ak, .int .i64 an] 28)).heap[w.heap.size + 1]? = some (.cells #[.string ak, .int .i64 an] 28 (0, 0))) := Lib.hid (by
    have := blk_new (w.alloc (.cells #[V.x0, V.x1, V.x2] 26)) (.cells #[.string ak, .int .i64 an] 28)
    rw [show (w.alloc (.cells #[V.x0, V.x1, V.x2] 26)).heap.size = w.heap.size + 1 from by simp] at this
    exact this)
  clear ho ha
  unfold aggV
  unfold VS.x0 VS.x1 VS.x2 at *
  go_enter Tryd.func3, Tryd.ntmps3
  go_wp2_with fail
  generalize (w.alloc (.cells #[.slice V.a0 V.l0.length V.c0, .slice V.a1 V.l1.length V.c1, .slice V.a2 V.l2.length V.c2] 26)).alloc (.cells #[.string ak, .int .i64 an] 28) = W1 at HB HX HZ ⊢
  obtain ⟨a0, a1⟩ : W1.cell? ⟨w.heap.size + 1, 0, none⟩ = some (.string ak) ∧ W1.cell? ⟨w.heap.size + 1, 1, none⟩ = some (.int .i64 an) := ⟨(blk_cell HZ.out 0).trans rfl, (blk_cell HZ.out 1).trans rfl⟩
  have hnn := ownr_nil
  go_wp2_with (first
    | (go_at_call 4; refine (nil_pledge _ _ _).mono ?_; rintro e w' ⟨rfl, rfl⟩)
    | (go_at_call 5; refine (nil_release _ _ _).mono ?_; rintro e w' ⟨rfl, rfl⟩)
    | (go_at_call 6; refine (nil_require _ _).mono ?_; rintro e w' ⟨rfl, rfl⟩))
  refine (nil_revalue _).mono ?_
  rintro e W2 ⟨rfl, hb⟩
  have HB2 := Lib.hid (bstep HB.out hb HB.out.size)
  have HX2 := Lib.hid (blk_keep hb HX.out (Nat.le_refl _))
  have HZ2 := Lib.hid (blk_keep hb HZ.out (Nat.le_refl _))
  clear hb HB HX HZ a0 a1
  obtain ⟨a0, a1⟩ : W2.cell? ⟨w.heap.size + 1, 0, none⟩ = some (.string ak) ∧ W2.cell? ⟨w.heap.size + 1, 1, none⟩ = some (.int .i64 an) := ⟨(blk_cell HZ2.out 0).trans rfl, (blk_cell HZ2.out 1).trans rfl⟩
  go_wp2_with fail
  refine (nil_subst ak ak an an _).mono ?_
  rintro e W3 ⟨rfl, hb⟩
  have HB3 := Lib.hid (bstep HB2.out hb HB2.out.size)
  have HX3 := Lib.hid (blk_keep hb HX2.out (Nat.le_refl _))
  have HZ3 := Lib.hid (blk_keep hb HZ2.out (Nat.le_refl _))
  clear hb HB2 HX2 HZ2 a0 a1
  go_wp2_with (first
    | (go_at_call 9; refine (nil_owner _).mono ?_; rintro e w' ⟨rfl, rfl⟩)
    | (go_at_call 10; refine (nil_required _).mono ?_; rintro e w' ⟨rfl, rfl⟩)
    | (go_at_call 11; refine (nil_value _).mono ?_; rintro e w' ⟨rfl, rfl⟩)
    | (go_at_call 12; refine (nil_excess _).mono ?_; rintro e w' ⟨rfl, rfl⟩))
  refine (nil_positions _).mono ?_
  rintro e W4 ⟨rfl, hb⟩
  have HB4 := Lib.hid (bstep HB3.out hb HB3.out.size)
  have HX4 := Lib.hid (blk_keep hb HX3.out (Nat.le_refl _))
  have HZ4 := Lib.hid (blk_keep hb HZ3.out (Nat.le_refl _))
  clear hb HB3 HX3 HZ3
  obtain ⟨a0, a1⟩ : W4.cell? ⟨w.heap.size + 1, 0, none⟩ = some (.string ak) ∧ W4.cell? ⟨w.heap.size + 1, 1, none⟩ = some (.int .i64 an) := ⟨(blk_cell HZ4.out 0).trans rfl, (blk_cell HZ4.out 1).trans rfl⟩
  go_wp2_with (go_at_call 14; refine (nil_quantity _ _).mono ?_; rintro e w' ⟨rfl, rfl⟩)
  refine (nil_max _ _).mono ?_
  rintro e W5 ⟨rfl, hb⟩
  have HB5 := Lib.hid (bstep HB4.out hb HB4.out.size)
  have HX5 := Lib.hid (blk_keep hb HX4.out (Nat.le_refl _))
  clear hb HB4 HX4 HZ4 a0 a1
  have x0 := (blk_cell HX5.out 0).trans rfl
  have x1 := (blk_cell HX5.out 1).trans rfl
  have x2 := (blk_cell HX5.out 2).trans rfl
  go_wp2_with (first
    | (go_at_call 16; refine (nil_clone _).mono ?_; rintro e w' ⟨rfl, rfl⟩)
    | (go_at_call 17; refine (equal_nn _).mono ?_; rintro e w' ⟨rfl, rfl⟩))
  cases hm : memberB o
  · refine (new_bad W5 o HO.out 46 (.agg #[.slice V.a0 V.l0.length V.c0, .slice V.a1 V.l1.length V.c1, .slice V.a2 V.l2.length V.c2]) hm).mono ?_
    rintro e W6 ⟨rfl, hb⟩
    have HB6 := Lib.hid (bstep HB5.out hb HB5.out.size)
    have HX6 := Lib.hid (blk_keep hb HX5.out (Nat.le_refl _))
    clear hb HB5 HX5 x0 x1 x2
    have x0 := (blk_cell HX6.out 0).trans rfl
    have x1 := (blk_cell HX6.out 1).trans rfl
    have x2 := (blk_cell HX6.out 2).trans rfl
    go_wp2_with fail
    refine (refNew_calls W6 V o HO.out).mono ?_
    rw [hm, if_neg Bool.false_ne_true]
    clear hm
    rintro e W7 ⟨rfl, hb⟩
    unfold zeroP
    have HB7 := Lib.hid (bstep HB6.out hb HB6.out.size)
    clear hb HB6 HX6 x0 x1 x2
    go_upto_region 8 with fail
    have HB8 := Lib.hid (HB7.out.alloc HB7.out.size (.cells #[.string ⟨#[]⟩, .slice none 0 0, .slice none 0 0, .slice none 0 0, .slice none 0 0, .int .i64 0] 49))
    generalize W7.alloc (.cells #[.string ⟨#[]⟩, .slice none 0 0, .slice none 0 0, .slice none 0 0, .slice none 0 0, .int .i64 0] 49) = W8 at HB8 ⊢
    clear HB7
    go_wp2_with fail
    refine (new_nil W8 bankA (by decide) bankA_member).mono ?_
    rintro e W9 ⟨rfl, hb⟩
    have HB9 := Lib.hid (bstep HB8.out hb HB8.out.size)
    clear hb HB8
    go_wp2_with fail
    refine (known_calls _).mono ?_
    rintro e W12 ⟨rfl, hb⟩
    have HB12 := Lib.hid (bstep HB9.out hb (HB9.out).size)
    clear hb
    go_wp2_with fail
    go_ret
    exact ⟨rfl, HB12.out⟩
  · refine (new_ok W5 o HO.out 46 (.agg #[.slice V.a0 V.l0.length V.c0, .slice V.a1 V.l1.length V.c1, .slice V.a2 V.l2.length V.c2]) hm).mono ?_
    rintro e W6 ⟨p, m, rfl, -, -, -, hb⟩
    have HB6 := Lib.hid (bstep HB5.out hb HB5.out.size)
    have HX6 := Lib.hid (blk_keep hb HX5.out (Nat.le_refl _))
    clear hb HB5 HX5 x0 x1 x2
    have x0 := (blk_cell HX6.out 0).trans rfl
    have x1 := (blk_cell HX6.out 1).trans rfl
    have x2 := (blk_cell HX6.out 2).trans rfl
    go_wp2_with fail
    refine (refNew_calls W6 V o HO.out).mono ?_
    rw [if_pos hm]
    clear hm
    rintro e W7 ⟨rfl, hb⟩
    unfold VS.x0 VS.x1 VS.x2
    have HB7 := Lib.hid (bstep HB6.out hb HB6.out.size)
    clear hb HB6 HX6 x0 x1 x2
    go_upto_region 8 with fail
    have HB8 := Lib.hid (HB7.out.alloc HB7.out.size (.cells #[.string o, .slice V.a0 V.l0.length V.c0, .slice V.a1 V.l1.length V.c1, .slice V.a2 V.l2.length V.c2, .slice none 0 0, .int .i64 0] 49))
    generalize W7.alloc (.cells #[.string o, .slice V.a0 V.l0.length V.c0, .slice V.a1 V.l1.length V.c1, .slice V.a2 V.l2.length V.c2, .slice none 0 0, .int .i64 0] 49) = W8 at HB8 ⊢
    clear HB7
    go_wp2_with fail
    refine (new_nil W8 bankA (by decide) bankA_member).mono ?_
    rintro e W9 ⟨rfl, hb⟩
    have HB9 := Lib.hid (bstep HB8.out hb HB8.out.size)
    clear hb HB8
    go_wp2_with fail
    refine (revalue_nil p _).mono ?_
    rintro e W10 ⟨rfl, hb⟩
    have HB10 := Lib.hid (bstep HB9.out hb HB9.out.size)
    clear hb HB9
    go_wp2_with (go_at_call 17; refine (equal_np _ p).mono ?_; rintro e w' ⟨rfl, rfl⟩)
    refine (known_calls _).mono ?_
    rintro e W12 ⟨rfl, hb⟩
    have HB12 := Lib.hid (bstep HB10.out hb (HB10.out).size)
    clear hb
    go_wp2_with fail
    go_ret
    exact ⟨rfl, HB12.out⟩
end Go.Proofs.YtjjnljfphaimgaaDoor.C
/- The laws' arguments opened; the end of a row whose law answers true and changes nothing. -/
namespace Go.Proofs.YtjjnljfphaimgaaDoor.C
open Go Go.RowKit Go.ChangeShapes Go.WideShapes Go.Deep

section
variable {H : Type} {enc : TypeId × Value → H} {w : World} {base : Nat} {spare : Nat → Bool} {held : Bool} {fuel : Nat} {cs : List Value} {x : DataW H × List MemPlace}
theorem wf64 {x : Int} (h : (Lit.int .i64 x).wf = true) : -9223372036854775808 ≤ x ∧ x ≤ 9223372036854775807 := by
  simp [Lit.wf, IntKind.min, IntKind.max, IntKind.bits, IntKind.signed] at h; omega
theorem take_len {α : Type} {l : List α} {n c : Nat} {b : Bool} (h : l.length = if b = true then c else n) (hl : n ≤ c) : (l.take n).length = n := by
  rw [List.length_take]; split at h <;> omega
theorem open_strsV (h : DataW.trod enc Tryd.prog w base spare held fuel 22 cs = some x) :
    ∃ (a : Option Addr) (c : Nat) (l : List ByteArray), cs = [.slice a l.length c] ∧ l.length ≤ maxLen ∧ ∀ i (h : i < l.length), ∃ b, a = some b ∧ b.block < w.heap.size ∧ w.cell? (b.add i) = some (.string l[i]) := by
  rcases open_strings Tryd.underlying22 Tryd.underlying9 (by kernel_rfl) h with ⟨rfl, _⟩ | ⟨a, len, cap, ss, rfl, _, hl, hm, hs, _, hc, _⟩
  · exact ⟨none, 0, [], rfl, Nat.zero_le _, fun i h => absurd h (Nat.not_lt_zero i)⟩
  · have ht := take_len hs hl
    refine ⟨some a, cap, ss.take len, by rw [ht], by rw [ht]; omega, fun i hi => ?_⟩
    have hi' : i < ss.length := by rw [List.length_take] at hi; omega
    have hcell := hc i hi'
    have hb := World.block_lt_of_cell? w _ hcell
    rw [add_block] at hb
    refine ⟨a, rfl, hb, ?_⟩
    rw [hcell, List.getElem_take, List.getD_eq_getElem?_getD, List.getElem?_eq_getElem hi']
    rfl
theorem open_intsV {t : TypeId} {e : TypeId} (ht : Tryd.prog.underlying t = some (.slice e)) (he : Tryd.prog.underlying e = some (.int .i64)) (hc1 : Tryd.prog.cellsOf e = 1) (h : DataW.trod enc Tryd.prog w base spare held fuel t cs = some x) :
    ∃ (a : Option Addr) (c : Nat) (l : List Int), cs = [.slice a l.length c] ∧ l.length ≤ maxLen ∧ (∀ i (h : i < l.length), ∃ b, a = some b ∧ b.block < w.heap.size ∧ w.cell? (b.add i) = some (.int .i64 l[i])) ∧
      ∀ x ∈ l, -9223372036854775808 ≤ x ∧ x ≤ 9223372036854775807 := by
  rcases open_ints ht he hc1 h with ⟨rfl, _⟩ | ⟨a, len, cap, ss, rfl, _, hl, hm, hs, _, hc, hw⟩
  · exact ⟨none, 0, [], rfl, Nat.zero_le _, fun i h => absurd h (Nat.not_lt_zero i), fun x hx => by cases hx⟩
  · have ht := take_len hs hl
    refine ⟨some a, cap, ss.take len, by rw [ht], by rw [ht]; omega, fun i hi => ?_, fun x hx => ?_⟩
    · have hi' : i < ss.length := by rw [List.length_take] at hi; omega
      have hcell := hc i hi'
      have hb := World.block_lt_of_cell? w _ hcell
      rw [add_block] at hb
      refine ⟨a, rfl, hb, ?_⟩
      rw [hcell, List.getElem_take, List.getD_eq_getElem?_getD, List.getElem?_eq_getElem hi']
      rfl
    · have := wf64 (hw x (List.mem_of_mem_take hx))
      omega
set_option maxRecDepth 100000 in
theorem open_V (h : DataW.trod enc Tryd.prog w base spare held fuel 26 cs = some x) : ∃ V : VS, cs = [V.x0, V.x1, V.x2] := by
  obtain ⟨xs, n, rfl, hx, hlen, hxl, hf⟩ := DataW.trod_struct Tryd.underlying26 h
  rw [show Tryd.prog.cellsOf 26 = 3 from by kernel_rfl] at hlen
  match cs, hlen, xs, hxl with
  | [c0, c1, c2], _, [y0, y1, y2], _ =>
    have h0 := hf 0 _ rfl
    have h1 := hf 1 _ rfl
    have h2 := hf 2 _ rfl
    obtain ⟨a0, k0, l0, e0, m0, g0⟩ := open_strsV (show DataW.trod enc Tryd.prog w base spare held n 22 [c0] = some y0 from h0)
    obtain ⟨a1, k1, l1, e1, m1, g1, z1⟩ := open_intsV Tryd.underlying23 Tryd.underlying2 (by kernel_rfl) (show DataW.trod enc Tryd.prog w base spare held n 23 [c1] = some y1 from h1)
    obtain ⟨a2, k2, l2, e2, m2, g2, z2⟩ := open_intsV Tryd.underlying24 Tryd.underlying3 (by kernel_rfl) (show DataW.trod enc Tryd.prog w base spare held n 24 [c2] = some y2 from h2)
    simp only [List.cons.injEq, and_true] at e0 e1 e2
    subst e0 e1 e2
    exact ⟨⟨a0, a1, a2, k0, k1, k2, l0, l1, l2⟩, rfl⟩
set_option maxRecDepth 100000 in
theorem open_L (h : DataW.trod enc Tryd.prog w base spare held fuel 28 cs = some x) : ∃ (k : ByteArray) (q : Int), cs = [.string k, .int .i64 q] ∧ k.size ≤ maxLen ∧ -9223372036854775808 ≤ q ∧ q ≤ 9223372036854775807 := by
  obtain ⟨xs, n, rfl, hx, hlen, hxl, hf⟩ := DataW.trod_struct Tryd.underlying28 h
  rw [show Tryd.prog.cellsOf 28 = 2 from by kernel_rfl] at hlen
  match cs, hlen, xs, hxl with
  | [c0, c1], _, [y0, y1], _ =>
    have h0 := hf 0 _ rfl
    have h1 := hf 1 _ rfl
    obtain ⟨k, e0, -, m0⟩ := DataW.trod_string Tryd.underlying9 (show DataW.trod enc Tryd.prog w base spare held n 9 [c0] = some y0 from h0)
    obtain ⟨q, e1, -, m1⟩ := DataW.trod_int Tryd.underlying2 (show DataW.trod enc Tryd.prog w base spare held n 2 [c1] = some y1 from h1)
    simp only [List.cons.injEq, and_true] at e0 e1
    subst e0 e1
    have := wf64 m1
    exact ⟨k, q, rfl, m0, by omega, by omega⟩
end
section
variable {H : Type} {enc : TypeId × Value → H} {W W' : World}
theorem trodAll_below (hl : laidOutB Tryd.prog = true) (hb : Below W.heap.size W W') : ∀ {ts : List TypeId} {vs : List Value} {ds : List (DataW H)} {ps : List MemPlace}, (∀ t ∈ ts, Tryd.prog.readableRec t = true ∧ t < Tryd.prog.types.size) →
    DataW.TrodAll enc Tryd.prog W 0 (fun _ => true) true ts vs ds ps → (∀ x ∈ ps, x.block < W.heap.size) → DataW.TrodAll enc Tryd.prog W' 0 (fun b => decide (b < W.heap.size)) true ts vs ds ps
  | [], vs, ds, ps, _, h, _ => by obtain ⟨rfl, rfl, rfl⟩ := trodAll_nil h; exact trodAll_mk0
  | t :: ts, vs, ds, ps, hr, h, hlt => by
    obtain ⟨v, vs', d, ds', p, q, rfl, rfl, rfl, h1, h2⟩ := trodAll_cons h
    obtain ⟨r1, r2⟩ := hr t (by simp)
    exact ⟨p, q, Below.trod hl r1 r2 h1 hb (fun x hx => hlt x (by simp [hx])), trodAll_below hl hb (fun t ht => hr t (by simp [ht])) h2 (fun x hx => hlt x (by simp [hx])), rfl⟩
theorem law_post {f : Func} {s : ChangeSpec} {args : Array Value} {ds gs : List (DataW H)} {before : List MemPlace} (hl : laidOutB Tryd.prog = true) (hv : s.vars = []) (hr : f.resultTypes = #[4])
    (hfn : s.fn H (ds ++ gs) = { results := [.lit (.bool true)], args := ds }) (hrd : ∀ t ∈ f.params.toList, Tryd.prog.readableRec t = true ∧ t < Tryd.prog.types.size)
    (hW : DataW.Whole enc Tryd.prog f.params.toList s.vars false W args.toList ds gs before) (hb : Below W.heap.size W W') : s.post enc Tryd.prog f false true false false W args (.bool true) W' := by
  have hlt : ∀ p ∈ before, p.block < W.heap.size := fun p hp => hW.lt p hp
  obtain ⟨p, q, hA, hV, rfl, hz, hn⟩ := hW
  have hV' := hV
  rw [hv] at hV
  obtain ⟨rfl, rfl⟩ := trodVars_none hV
  refine ⟨ds, [], p ++ [], [], p, [], ⟨p, [], hA, hV', rfl, hz, hn⟩, ?_, ?_, ?_, ?_, fun h => by cases h⟩
  · rw [hfn, hr]
    exact trodAll_mk1 (shut_bool Tryd.underlying4 true)
  · rw [hfn]
    exact trodAll_below hl hb hrd hA (fun x hx => hlt x (by simp [hx]))
  · rw [hfn, hv]
    rfl
  · exact World.keptBut_mono (fun p hp => ⟨hp, Or.inr (Or.inl (by simpa using hp))⟩) (hb.frame (· ∈ p ++ []))
end
end Go.Proofs.YtjjnljfphaimgaaDoor.C
