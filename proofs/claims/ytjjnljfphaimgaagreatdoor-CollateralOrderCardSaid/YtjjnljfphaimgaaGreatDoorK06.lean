/- Contracts and plain laws, without conditions beyond each theorem's own: slices.Equal at positions; Equal. Equal. Revalue. giroref34: less, within, Quantity, takes. giroref34: Quantity, takes, Total, covers. -/
import Derived.StillTailTactics
import Derived.Test.YtjjnljfphaimgaaGreatDoorK05
set_option linter.all false
/- slices.Equal at positions; Equal. -/
namespace Go.Proofs.YtjjnljfphaimgaaGreatDoor.C
open Go Go.RowKit Go.Maps

theorem pos_eq (a b : ByteArray) (x y : Int) (w : World) : (Op.equalIn 10000 62 (.agg #[.string a, .int .i64 x]) (.agg #[.string b, .int .i64 y])).run Tryz.prog w = .ok (a == b && x == y) w := by
  refine eq_pair (a := .string a) (b := .string b) (c := .int .i64 x) (d := .int .i64 y) (r := a == b) (s := x == y) Tryz.underlying62 (by kernel_rfl) (by rfl) (by rfl) (by kernel_rfl) (by kernel_rfl) (by kernel_rfl) (by kernel_rfl) ?_ ?_
  · rw [beq_toListBytes]; exact run_equalIn_string _ _ _ _ _ Tryz.underlying9
  · exact run_equalIn_int _ _ _ _ _ _ _ Tryz.underlying2
theorem ba_beq (a b : ByteArray) : (a == b) = decide (a = b) := by
  cases a with | mk a => cases b with | mk b =>
  show (a == b) = _
  by_cases h : a = b
  · subst h; simp
  · have : (ByteArray.mk a) ≠ ByteArray.mk b := fun e => h (by injection e)
    simp [h, this]
theorem pos_neq (a b : ByteArray) (x y : Int) (w : World) : (binOp .neq 62 (.agg #[.string a, .int .i64 x]) (.agg #[.string b, .int .i64 y])).run Tryz.prog w = .ok (.bool (!(decide (a = b) && decide (x = y)))) w := by
  rw [run_neq_struct, pos_eq, ba_beq]
  rfl

/-- The positions of two lists of holdings are the same. -/
def posEq (L1 L2 : List Hold) : Bool := decide (L1.map (fun h => (h.key, h.q)) = L2.map (fun h => (h.key, h.q)))
theorem posRow_inj : ∀ {L1 L2 : List Hold}, posRow L1 = posRow L2 ↔ L1.map (fun h => (h.key, h.q)) = L2.map (fun h => (h.key, h.q))
  | [], [] => by simp [posRow]
  | [], h :: r => by simp [posRow]
  | h :: r, [] => by simp [posRow]
  | a :: r, b :: s => by
    rw [posRow_cons, posRow_cons]
    simp only [List.cons.injEq, Value.string.injEq, Value.int.injEq, true_and, List.map_cons, Prod.mk.injEq]
    rw [posRow_inj, and_assoc]

set_option maxRecDepth 100000 in
set_option maxHeartbeats 4000000 in
theorem sliceEqual_calls (w : World) (v1 v2 : Value) (B1 B2 : Nat) (L1 L2 : List Hold) (h1 : w.ownsRow B1 62 2 v1 L1.length (posRow L1)) (h2 : w.ownsRow B2 62 2 v2 L2.length (posRow L2))
    (l1 : L1.length ≤ 1024) (l2 : L2.length ≤ 1024) :
    Calls Tryz.prog 51 #[v1, v2] w fun e w' => e = .returned (.bool (posEq L1 L2)) ∧ Below w.heap.size w w' := by
  by_cases hl : L1.length = L2.length
  · by_cases hz : L1.length = 0
    · have e1 : L1 = [] := List.length_eq_zero_iff.1 hz
      have e2 : L2 = [] := List.length_eq_zero_iff.1 (by omega)
      subst e1; subst e2
      have hv1 : ∃ A c, v1 = .slice A 0 c := by
        rcases h1.2 with ⟨e, e'⟩ | ⟨g, cap, cur, e, _⟩
        · exact ⟨none, 0, e⟩
        · exact ⟨_, cap, e⟩
      have hv2 : ∃ A c, v2 = .slice A 0 c := by
        rcases h2.2 with ⟨e, e'⟩ | ⟨g, cap, cur, e, _⟩
        · exact ⟨none, 0, e⟩
        · exact ⟨_, cap, e⟩
      obtain ⟨A1, k1, rfl⟩ := hv1
      obtain ⟨A2, k2, rfl⟩ := hv2
      clear h1 h2 hl hz l1 l2
      go_enter Tryz.func51, Tryz.ntmps51
      go_wp2
      refine wp_loop_rounds 1 ?_
      rw [rounds_succ]
      go_wp2
      go_ret
      exact ⟨rfl, Below.refl _ _⟩
    · obtain ⟨g1, k1, cur1, rfl, r1⟩ : ∃ g cap cur, v1 = .slice (some ⟨g, 0, none⟩) L1.length cap ∧ w.heap[g]? = some (.cells cur 62 (0, 0)) := by
        rcases h1.2 with ⟨e, e'⟩ | ⟨g, cap, cur, e, _, e3, _⟩
        · exact absurd e' hz
        · exact ⟨g, cap, cur, e, e3⟩
      obtain ⟨g2, k2, cur2, rfl, r2⟩ : ∃ g cap cur, v2 = .slice (some ⟨g, 0, none⟩) L2.length cap ∧ w.heap[g]? = some (.cells cur 62 (0, 0)) := by
        rcases h2.2 with ⟨e, e'⟩ | ⟨g, cap, cur, e, _, e3, _⟩
        · exact absurd e' (by omega)
        · exact ⟨g, cap, cur, e, e3⟩
      have hlt1 := blk_lt r1
      have hlt2 := blk_lt r2
      have HL := Lib.hid hl
      have H1 := Lib.hid h1
      have H2 := Lib.hid h2
      have hll : L1.length ≤ L2.length := by omega
      have hll' : L2.length ≤ L1.length := by omega
      have hne : ((L1.length : Int) != (L2.length : Int)) = false := by simp; omega
      have hpn := pos_neq
      clear hl h1 h2 r1 r2
      go_enter Tryz.func51, Tryz.ntmps51
      go_wp2
      go_loopw [13] (fun v13 wr => ∃ k : Nat, k ≤ L1.length ∧ v13 = .int .i64 k ∧ Hid (∀ j (h : j < L1.length) (h' : j < L2.length), j < k → (L1[j].key, L1[j].q) = (L2[j].key, L2[j].q)) ∧ Hid (Below w.heap.size w wr)) (fun v13 _ => L1.length - (intOf v13).toNat)
      case atStart => exact ⟨0, Nat.zero_le _, rfl, Lib.hid (fun j _ _ h => absurd h (by omega)), Lib.hid (Below.refl _ _)⟩
      case round =>
        obtain ⟨k, hk, rfl, HE, HB⟩ := hrel
        by_cases hlt : k < L1.length
        · have hlt' : k < L2.length := by omega
          have x0 : wr.cell? ⟨g1, k * 2, none⟩ = some (.string L1[k].key) := by
            rw [HB.out.cell (p := ⟨g1, k * 2, none⟩) hlt1, World.ownsRow.cellAt H1.out (k * 2) (by omega)]; exact (posRow_get L1 k hlt).1
          have x1 : wr.cell? ⟨g1, k * 2 + 1, none⟩ = some (.int .i64 L1[k].q) := by
            rw [HB.out.cell (p := ⟨g1, k * 2 + 1, none⟩) hlt1, World.ownsRow.cellAt H1.out (k * 2 + 1) (by omega)]; exact (posRow_get L1 k hlt).2
          have y0 : wr.cell? ⟨g2, k * 2, none⟩ = some (.string L2[k].key) := by
            rw [HB.out.cell (p := ⟨g2, k * 2, none⟩) hlt2, World.ownsRow.cellAt H2.out (k * 2) (by omega)]; exact (posRow_get L2 k hlt').1
          have y1 : wr.cell? ⟨g2, k * 2 + 1, none⟩ = some (.int .i64 L2[k].q) := by
            rw [HB.out.cell (p := ⟨g2, k * 2 + 1, none⟩) hlt2, World.ownsRow.cellAt H2.out (k * 2 + 1) (by omega)]; exact (posRow_get L2 k hlt').2
          by_cases he : L1[k].key = L2[k].key ∧ L1[k].q = L2[k].q
          · have heb1 : decide (L1[k].key = L2[k].key) = true := by simp [he.1]
            have heb2 : decide (L1[k].q = L2[k].q) = true := by simp [he.2]
            have HEE := Lib.hid he
            have HEX := Lib.hid (show (L1[k].key, L1[k].q) = (L2[k].key, L2[k].q) from by rw [he.1, he.2])
            clear he
            generalize L1[k].key = a1 at x0 heb1 HEE
            generalize L1[k].q = b1 at x1 heb2 HEE
            generalize L2[k].key = a2 at y0 heb1 HEE
            generalize L2[k].q = b2 at y1 heb2 HEE
            go_wp2_with fail
            go_quiet (fail)
            go_wp2
            refine ⟨⟨k + 1, by omega, by go_num, Lib.hid (fun j h h' hj => ?_), Lib.hid (below_drewN HB.out nq)⟩, by simp [intOf]; omega⟩
            rcases Nat.lt_or_ge j k with hjk | hjk
            · exact HE.out j h h' hjk
            · obtain rfl : j = k := by omega
              exact HEX.out
          · have HPF : Hid (posEq L1 L2 = false) := by
              show posEq L1 L2 = false
              unfold posEq
              simp only [decide_eq_false_iff_not]
              intro e
              have e1 := congrArg (fun l => l[k]?) e
              simp only [List.getElem?_map, List.getElem?_eq_getElem hlt, List.getElem?_eq_getElem hlt', Option.map_some, Option.some.injEq, Prod.mk.injEq] at e1
              exact he e1
            have heb : (decide (L1[k].key = L2[k].key) && decide (L1[k].q = L2[k].q)) = false := by
              simp only [Bool.and_eq_false_iff, decide_eq_false_iff_not]
              by_cases e : L1[k].key = L2[k].key
              · exact Or.inr fun e' => he ⟨e, e'⟩
              · exact Or.inl e
            clear he
            generalize L1[k].key = a1 at x0 heb
            generalize L1[k].q = b1 at x1 heb
            generalize L2[k].key = a2 at y0 heb
            generalize L2[k].q = b2 at y1 heb
            have hpn' : ∀ w, (binOp .neq 62 (.agg #[.string a1, .int .i64 b1]) (.agg #[.string a2, .int .i64 b2])).run Tryz.prog w = .ok (.bool true) w := fun w => by rw [pos_neq, heb]; rfl
            clear hpn
            go_wp2_with fail
            go_quiet (fail)
            go_wp2
            go_ret
            exact ⟨by rw [HPF.out]; rfl, below_drewN HB.out _⟩
        · obtain rfl : k = L1.length := by omega
          have HPT : Hid (posEq L1 L2 = true) := by
            show posEq L1 L2 = true
            unfold posEq
            simp only [decide_eq_true_eq]
            refine List.ext_getElem (by simpa using HL.out) fun j h h' => ?_
            simp only [List.length_map] at h h'
            simp only [List.getElem_map]
            exact HE.out j h h' h
          go_wp2
          go_ret
          exact ⟨by rw [HPT.out]; rfl, HB.out⟩
  · have hv1 : ∃ A c, v1 = .slice A L1.length c := by
      rcases h1.2 with ⟨e, e'⟩ | ⟨g, cap, cur, e, _⟩
      · exact ⟨none, 0, by rw [e, e']⟩
      · exact ⟨_, cap, e⟩
    have hv2 : ∃ A c, v2 = .slice A L2.length c := by
      rcases h2.2 with ⟨e, e'⟩ | ⟨g, cap, cur, e, _⟩
      · exact ⟨none, 0, by rw [e, e']⟩
      · exact ⟨_, cap, e⟩
    obtain ⟨A1, k1, rfl⟩ := hv1
    obtain ⟨A2, k2, rfl⟩ := hv2
    have hp : posEq L1 L2 = false := by
      unfold posEq
      simp only [decide_eq_false_iff_not]
      intro e
      have := congrArg List.length e
      simp at this; exact hl this
    have HP := Lib.hid hp
    have hne : ((L1.length : Int) != (L2.length : Int)) = true := by simpa using (by omega : ¬ (L1.length : Int) = L2.length)
    clear hp hl h1 h2
    go_enter Tryz.func51, Tryz.ntmps51
    go_wp2
    go_ret
    exact ⟨by rw [HP.out]; rfl, Below.refl _ _⟩
end Go.Proofs.YtjjnljfphaimgaaGreatDoor.C
/- Equal. -/
namespace Go.Proofs.YtjjnljfphaimgaaGreatDoor.C
open Go Go.RowKit Go.Maps

theorem ownsRow_below {w w' : World} {base e size B n : Nat} {v : Value} {xs : List Value} (h : w.ownsRow base e size v n xs) (hb : Below B w w') (hB : w.heap.size ≤ B) : w'.ownsRow base e size v n xs := by
  obtain ⟨r1, r2⟩ := h
  refine ⟨r1, ?_⟩
  rcases r2 with r2 | ⟨g, cap, cur, r3, r4, r5, r6⟩
  · exact Or.inl r2
  · exact Or.inr ⟨g, cap, cur, r3, r4, blk_keep hb r5 hB, r6⟩

def eqF (S1 S2 : PS) : Bool := decide (S1.owner = S2.owner) && decide (S1.req = S2.req) && decide (S1.value = S2.value) && posEq S1.L S2.L

theorem eqS {w : World} {p m p2 m2 : Nat} {S S2 : PS} (h1 : PoolAt w p m S) (h2 : PoolAt w p2 m2 S2) (e : S.owner = S2.owner ∧ S.req = S2.req ∧ S.value = S2.value) :
    w.cell? ⟨p, 0, none⟩ = some (.string S2.owner) ∧ w.cell? ⟨p, 3, none⟩ = some (.int .i64 S2.req) ∧ w.cell? ⟨p, 4, none⟩ = some (.int .i64 S2.value) ∧
      w.cell? ⟨p2, 0, none⟩ = some (.string S2.owner) ∧ w.cell? ⟨p2, 3, none⟩ = some (.int .i64 S2.req) ∧ w.cell? ⟨p2, 4, none⟩ = some (.int .i64 S2.value) := by
  obtain ⟨c0, c1, c2, c3, c4⟩ := h1.cells
  obtain ⟨d0, d1, d2, d3, d4⟩ := h2.cells
  rw [← e.1, ← e.2.1, ← e.2.2]
  exact ⟨c0, c3, c4, by rw [e.1]; exact d0, by rw [e.2.1]; exact d3, by rw [e.2.2]; exact d4⟩
set_option maxRecDepth 100000 in
set_option maxHeartbeats 8000000 in
theorem equal_yes (w : World) (p m : Nat) (S : PS) (p2 m2 : Nat) (S2 : PS) (h : PoolAt w p m S) (h2 : PoolAt w p2 m2 S2) (hl : S.L.length ≤ 1024) (hl2 : S2.L.length ≤ 1024)
    (e1 : S.owner = S2.owner) (e2 : S.req = S2.req) (e3 : S.value = S2.value) :
    Calls Tryz.prog 26 #[.pointer (some ⟨p, 0, none⟩), .pointer (some ⟨p2, 0, none⟩)] w fun e w' => e = .returned (.bool (posEq S.L S2.L)) ∧ Below w.heap.size w w' := by
  obtain ⟨c0, c1, c2, c3, c4⟩ := h.cells
  obtain ⟨d0, d1, d2, d3, d4⟩ := h2.cells
  have P1 := Lib.hid h
  have P2 := Lib.hid h2
  rw [e1] at c0
  rw [e2] at c3
  rw [e3] at c4
  have HE := Lib.hid (And.intro e1 (And.intro e2 e3))
  clear h h2 e1 e2 e3
  have HB : Hid (Below w.heap.size w w.drew) := (Below.refl _ _).drew
  go_enter Tryz.func26, Tryz.ntmps26
  go_wp2_with fail
  go_region_held3 (fun w' => w'.cell? ⟨p, 0, none⟩ = some (.string S2.owner) ∧ w'.cell? ⟨p, 3, none⟩ = some (.int .i64 S2.req) ∧ w'.cell? ⟨p, 4, none⟩ = some (.int .i64 S2.value) ∧
      w'.cell? ⟨p2, 0, none⟩ = some (.string S2.owner) ∧ w'.cell? ⟨p2, 3, none⟩ = some (.int .i64 S2.req) ∧ w'.cell? ⟨p2, 4, none⟩ = some (.int .i64 S2.value))
    (first | exact ⟨c0, c3, c4, d0, d3, d4⟩ | exact eqS (P1.out.below HB.out P1.out.lt P1.out.2.lt) (P2.out.below HB.out P2.out.lt P2.out.2.lt) HE.out | trivial)
    (first
      | (go_at_call_of 33 (Value.pointer (some ⟨p, 0, none⟩))
         refine (positions_calls _ p m S (P1.out.below HB.out P1.out.lt P1.out.2.lt) hl).mono ?_
         rintro e w1 ⟨v1, rfl, hr1, hb1⟩
         have HB := Lib.hid (bstep HB.out hb1 HB.out.size)
         have HR1 := Lib.hid hr1
         have HB1 := Lib.hid hb1
         clear hr1 hb1)
      | (go_at_call_of 33 (Value.pointer (some ⟨p2, 0, none⟩))
         refine (positions_calls _ p2 m2 S2 (P2.out.below HB.out P2.out.lt P2.out.2.lt) hl2).mono ?_
         rintro e w2 ⟨v2, rfl, hr2, hb2⟩
         have HB := Lib.hid (bstep HB.out hb2 HB.out.size)
         have HR2 := Lib.hid hr2
         have HB2 := Lib.hid hb2
         clear hr2 hb2)
      | (go_at_call 51
         refine (sliceEqual_calls _ v1 v2 _ _ S.L S2.L (by first | exact HR1.out | exact ownsRow_below HR1.out HB2.out (Nat.le_refl _)) (by first | exact HR2.out | exact ownsRow_below HR2.out HB1.out (Nat.le_refl _)) hl hl2).mono ?_
         rintro e w3 ⟨rfl, hb3⟩
         have HB := Lib.hid (bstep HB.out hb3 HB.out.size)
         clear hb3))
  all_goals go_wp2
  all_goals go_ret
  all_goals exact ⟨rfl, HB.out⟩

set_option maxRecDepth 100000 in
set_option maxHeartbeats 8000000 in
theorem equal_no (w : World) (p m : Nat) (S : PS) (p2 m2 : Nat) (S2 : PS) (h : PoolAt w p m S) (h2 : PoolAt w p2 m2 S2) (hne : ¬ (S.owner = S2.owner ∧ S.req = S2.req ∧ S.value = S2.value)) :
    Calls Tryz.prog 26 #[.pointer (some ⟨p, 0, none⟩), .pointer (some ⟨p2, 0, none⟩)] w fun e w' => e = .returned (.bool false) ∧ Below w.heap.size w w' := by
  obtain ⟨c0, c1, c2, c3, c4⟩ := h.cells
  obtain ⟨d0, d1, d2, d3, d4⟩ := h2.cells
  clear h h2
  by_cases e1 : S.owner = S2.owner
  · rw [e1] at c0
    by_cases e2 : S.req = S2.req
    · have e3 : ¬ S.value = S2.value := fun e3 => hne ⟨e1, e2, e3⟩
      have q2 : (S.req == S2.req) = true := by simp [e2]
      have q3 : (S.value == S2.value) = false := by simp [e3]
      clear hne e1 e2 e3
      go_enter Tryz.func26, Tryz.ntmps26
      go_wp2_with fail
      go_quiet (fail)
      go_wp2
      go_ret
      exact ⟨rfl, below_drewN (Below.refl _ _) _⟩
    · have q2 : (S.req == S2.req) = false := by simp [e2]
      clear hne e1 e2
      go_enter Tryz.func26, Tryz.ntmps26
      go_wp2_with fail
      go_quiet (fail)
      go_wp2
      go_ret
      exact ⟨rfl, below_drewN (Below.refl _ _) _⟩
  · have q1 : (S.owner == S2.owner) = false := by rw [ba_beq]; exact decide_eq_false e1
    have q2 : (S.owner.toList == S2.owner.toList) = false := by rw [← beq_toListBytes]; exact q1
    clear hne e1
    go_enter Tryz.func26, Tryz.ntmps26
    go_wp2_with fail
    go_quiet (fail)
    go_wp2
    go_ret
    exact ⟨rfl, below_drewN (Below.refl _ _) _⟩

theorem equal_calls (w : World) (p m : Nat) (S : PS) (p2 m2 : Nat) (S2 : PS) (h : PoolAt w p m S) (h2 : PoolAt w p2 m2 S2) (hl : S.L.length ≤ 1024) (hl2 : S2.L.length ≤ 1024) :
    Calls Tryz.prog 26 #[.pointer (some ⟨p, 0, none⟩), .pointer (some ⟨p2, 0, none⟩)] w fun e w' => e = .returned (.bool (eqF S S2)) ∧ Below w.heap.size w w' := by
  by_cases hc : S.owner = S2.owner ∧ S.req = S2.req ∧ S.value = S2.value
  · refine (equal_yes w p m S p2 m2 S2 h h2 hl hl2 hc.1 hc.2.1 hc.2.2).mono fun e w' ⟨he, hb⟩ => ⟨?_, hb⟩
    rw [he]; simp [eqF, hc.1, hc.2.1, hc.2.2]
  · refine (equal_no w p m S p2 m2 S2 h h2 hc).mono fun e w' ⟨he, hb⟩ => ⟨?_, hb⟩
    rw [he]
    have : eqF S S2 = false := by
      unfold eqF
      by_cases e1 : S.owner = S2.owner
      · by_cases e2 : S.req = S2.req
        · simp [show ¬ S.value = S2.value from fun e3 => hc ⟨e1, e2, e3⟩]
        · simp [e2]
      · simp [e1]
    rw [this]
set_option maxRecDepth 100000 in
theorem equal_pn (w : World) (p m : Nat) (S : PS) (h : PoolAt w p m S) :
    Calls Tryz.prog 26 #[.pointer (some ⟨p, 0, none⟩), .pointer none] w fun e w' => e = .returned (.bool false) ∧ w = w' := by
  clear h
  go_enter Tryz.func26, Tryz.ntmps26
  go_wp2
  go_ret
  exact ⟨rfl, rfl⟩
set_option maxRecDepth 100000 in
theorem equal_np (w : World) (p : Nat) :
    Calls Tryz.prog 26 #[.pointer none, .pointer (some ⟨p, 0, none⟩)] w fun e w' => e = .returned (.bool false) ∧ w = w' := by
  go_enter Tryz.func26, Tryz.ntmps26
  go_wp2
  go_ret
  exact ⟨rfl, rfl⟩
set_option maxRecDepth 100000 in
theorem equal_nn (w : World) :
    Calls Tryz.prog 26 #[.pointer none, .pointer none] w fun e w' => e = .returned (.bool true) ∧ w = w' := by
  go_enter Tryz.func26, Tryz.ntmps26
  go_wp2
  go_ret
  exact ⟨rfl, rfl⟩
end Go.Proofs.YtjjnljfphaimgaaGreatDoor.C
/- Revalue. -/
namespace Go.Proofs.YtjjnljfphaimgaaGreatDoor.C
open Go Go.RowKit Go.Maps

def reval (f : ByteArray → Int → Int × Int) (h : Hold) : Hold := ⟨h.key, h.q, (f h.key h.q).1⟩
def sumV (L : List Hold) : Int := (L.map (·.v)).foldl (· + ·) 0
def revalueF (f : ByteArray → Int → Int × Int) (S : PS) (vl : Value) : Int × PS :=
  match S.L.find? (fun h => decide ((f h.key h.q).2 ≠ 0)) with
  | some h => ((f h.key h.q).2, S)
  | none => if 1000000000000000 < sumV (S.L.map (reval f)) then (12, S) else (0, { S with vl := vl, L := S.L.map (reval f), value := sumV (S.L.map (reval f)) })
def MutPost' (p m : Nat) (w : World) (r : Int × PS) (e : Ending) (w' : World) : Prop :=
  ∃ m', e = .returned (.int .i64 r.1) ∧ PoolAt w' p m' r.2 ∧ Fr p m w w' ∧ (m' = m ∨ w.heap.size ≤ m')
theorem MutPost'.same {p m : Nat} {w w' : World} {r : Int × PS} {S : PS} {c : Int} (hr : r = (c, S)) (h : PoolAt w p m S) (hb : Below w.heap.size w w') : MutPost' p m w r (.returned (.int .i64 c)) w' := by
  subst hr; exact ⟨m, rfl, h.below hb h.lt h.2.lt, Fr.of_below hb (Nat.le_refl _), Or.inl rfl⟩

def revL (f : ByteArray → Int → Int × Int) (L : List Hold) (k : Nat) : List Hold := (L.take k).map (reval f)
def totL (f : ByteArray → Int → Int × Int) (L : List Hold) (k : Nat) : Int := min (sumV (revL f L k)) 1000000000000001
theorem foldl_add (l : List Int) : ∀ a : Int, l.foldl (· + ·) a = a + l.foldl (· + ·) 0 := by
  induction l with
  | nil => intro a; simp
  | cons x r ih => intro a; simp only [List.foldl_cons]; rw [ih (a + x), ih (0 + x)]; omega
theorem sumV_append (L : List Hold) (h : Hold) : sumV (L ++ [h]) = sumV L + h.v := by
  unfold sumV; rw [List.map_append, List.foldl_append]; simp
theorem sumV_nonneg {L : List Hold} (h : ∀ x ∈ L, 0 ≤ x.v) : 0 ≤ sumV L := by
  unfold sumV
  induction L with
  | nil => simp
  | cons x r ih =>
    rw [List.map_cons, List.foldl_cons, foldl_add]
    have := h x (by simp); have := ih (fun y hy => h y (by simp [hy])); omega
theorem revL_succ (f : ByteArray → Int → Int × Int) (L : List Hold) (k : Nat) (hk : k < L.length) : revL f L (k + 1) = revL f L k ++ [reval f L[k]] := by
  unfold revL; rw [List.take_succ_eq_append_getElem hk, List.map_append]; rfl
theorem totL_succ (f : ByteArray → Int → Int × Int) (L : List Hold) (k : Nat) (hk : k < L.length) (hf : ∀ k q, 0 ≤ (f k q).1) : totL f L (k + 1) = min (totL f L k + (reval f L[k]).v) 1000000000000001 := by
  unfold totL
  rw [revL_succ f L k hk, sumV_append]
  have h0 : 0 ≤ (reval f L[k]).v := hf _ _
  omega
theorem ins_last (x : Hold) : ∀ L : List Hold, (∀ y ∈ L, kbefore x.key y.key = false) → ins x L = L ++ [x]
  | [], _ => rfl
  | y :: r, h => by
    simp only [ins, List.cons_append]
    rw [if_neg (by rw [h y (by simp)]; simp), ins_last x r (fun z hz => h z (by simp [hz]))]
theorem kbefore_asymm {a b : ByteArray} (h : kbefore a b = true) : kbefore b a = false := by
  cases h' : kbefore b a
  · rfl
  · exact absurd (List.lt_trans ((bytesBefore_lt _ _).1 h) ((bytesBefore_lt _ _).1 h')) (List.lt_irrefl _)
theorem put_last (L : List Hold) (x : Hold) (h : ∀ y ∈ L, kbefore y.key x.key = true) : put L x = L ++ [x] := by
  unfold put
  have e : del L x.key = L := by
    unfold del
    rw [List.filter_eq_self]
    intro y hy
    have := h y hy
    have hne : y.key ≠ x.key := fun e => by rw [e, kbefore_irrefl] at this; cases this
    simpa using hne
  rw [e, ins_last x L (fun y hy => kbefore_asymm (h y hy))]
theorem put_revL (f : ByteArray → Int → Int × Int) {L : List Hold} (hs : L.Pairwise (fun a b => kbefore a.key b.key = true)) (k : Nat) (hk : k < L.length) : put (revL f L k) (reval f L[k]) = revL f L (k + 1) := by
  rw [revL_succ f L k hk, put_last]
  intro y hy
  unfold revL at hy
  obtain ⟨z, hz, rfl⟩ := List.mem_map.1 hy
  obtain ⟨i, hi, rfl⟩ := List.getElem_of_mem hz
  simp only [List.length_take] at hi
  rw [List.getElem_take]
  exact List.pairwise_iff_getElem.1 hs i k (by omega) hk (by omega)

theorem copy_pool {w wr : World} {p m np nm : Nat} {S N : PS} {t : Int} (hP : PoolAt wr p m S) (hN : PoolAt wr np nm N) (hB : Below w.heap.size w wr) (hnp : w.heap.size ≤ np) (hnm : w.heap.size ≤ nm) (hp : p < w.heap.size) :
    PoolAt ((((((wr.setCell ⟨np, 4, none⟩ (.int .i64 t)).setCell ⟨p, 0, none⟩ (.string N.owner)).setCell ⟨p, 1, none⟩ N.vl).setCell ⟨p, 2, none⟩ (.map (some nm))).setCell ⟨p, 3, none⟩ (.int .i64 N.req)).setCell ⟨p, 4, none⟩ (.int .i64 t)) p nm { N with value := t } ∧
    Fr p m w ((((((wr.setCell ⟨np, 4, none⟩ (.int .i64 t)).setCell ⟨p, 0, none⟩ (.string N.owner)).setCell ⟨p, 1, none⟩ N.vl).setCell ⟨p, 2, none⟩ (.map (some nm))).setCell ⟨p, 3, none⟩ (.int .i64 N.req)).setCell ⟨p, 4, none⟩ (.int .i64 t)) := by
  have e0 := blk_other hP.1 (a := ⟨np, 4, none⟩) (by simp; omega) (.int .i64 t)
  have e1 := blk_set e0 0 (.string N.owner)
  have e2 := blk_set e1 1 N.vl
  have e3 := blk_set e2 2 (.map (some nm))
  have e4 := blk_set e3 3 (.int .i64 N.req)
  have e5 := blk_set e4 4 (.int .i64 t)
  refine ⟨⟨?_, ?_⟩, ?_⟩
  · rw [e5]; rfl
  · have hnn := hN.ne
    refine (((((hN.2.setCell (a := ⟨np, 4, none⟩) (Ne.symm hnn) _).setCell (a := ⟨p, 0, none⟩) ?_ _).setCell (a := ⟨p, 1, none⟩) ?_ _).setCell (a := ⟨p, 2, none⟩) ?_ _).setCell (a := ⟨p, 3, none⟩) ?_ _).setCell (a := ⟨p, 4, none⟩) ?_ _
    all_goals simp; omega
  · refine Fr.setp ?_ _ _
    refine Fr.setp ?_ _ _
    refine Fr.setp ?_ _ _
    refine Fr.setp ?_ _ _
    refine Fr.setp ?_ _ _
    refine Fr.setn ?_ hnp _ _
    exact Fr.of_below hB (Nat.le_refl _)

set_option maxRecDepth 100000 in
set_option maxHeartbeats 8000000 in
theorem revalue_calls (w : World) (p m : Nat) (S : PS) (T : TypeId) (x : Value) (B : Nat) (w0 : World) (f : ByteArray → Int → Int × Int) (fid : FuncId) (rv : Value)
    (h : PoolAt w p m S) (hok : S.Ok) (hv : IsValuer T x B w0 f fid rv) (hB : Below B w0 w) (hBs : B ≤ w.heap.size) (hf : ∀ k q, 0 ≤ (f k q).1 ∧ (f k q).1 ≤ 1000000000000000) :
    Calls Tryz.prog 31 #[.pointer (some ⟨p, 0, none⟩), .iface T x] w (MutPost' p m w (revalueF f S (.iface T x))) := by
  obtain ⟨c0, c1, c2, c3, c4⟩ := h.cells
  have hlen := hok.len
  have hp := h.lt
  have hm := h.2.lt
  have H := Lib.hid h
  have HV := Lib.hid hv
  have HF := Lib.hid hf
  have hmm := @run_makeMap Tryz.prog
  clear h hv hf
  go_enter Tryz.func31, Tryz.ntmps31
  go_wp2_with fail
  go_region_held3 (fun w' => w'.cell? ⟨p, 0, none⟩ = some (.string S.owner) ∧ w'.cell? ⟨p, 3, none⟩ = some (.int .i64 S.req)) (go_keep) (fail)
  rename_i hHeld
  clear hHeld hmm
  have hsz : ((w.alloc (.map #[] 0)).alloc (.cells #[.string S.owner, .iface T x, .map (some w.heap.size), .int .i64 S.req, .int .i64 0] 76)).drew.heap.size = w.heap.size + 2 := by simp [World.drew]
  have HP1 := Lib.hid (((H.out.alloc (.map #[] 0)).alloc (.cells #[.string S.owner, .iface T x, .map (some w.heap.size), .int .i64 S.req, .int .i64 0] 76)).drew)
  have HN1 : Hid (PoolAt ((w.alloc (.map #[] 0)).alloc (.cells #[.string S.owner, .iface T x, .map (some w.heap.size), .int .i64 S.req, .int .i64 0] 76)).drew (w.heap.size + 1) w.heap.size ⟨S.owner, .iface T x, [], S.req, 0⟩) := by
    refine ⟨?_, ((MapIs.made w).alloc _).drew⟩
    have := blk_drew (blk_new (w.alloc (.map #[] 0)) (.cells #[.string S.owner, .iface T x, .map (some w.heap.size), .int .i64 S.req, .int .i64 0] 76))
    simpa [PS.row] using this
  have HB1 := Lib.hid ((((Below.refl w.heap.size w).alloc (Nat.le_refl _) (.map #[] 0)).alloc (by simp) (.cells #[.string S.owner, .iface T x, .map (some w.heap.size), .int .i64 S.req, .int .i64 0] 76)).drew)
  have HSZ := Lib.hid hsz
  clear hsz
  generalize ((w.alloc (.map #[] 0)).alloc (.cells #[.string S.owner, .iface T x, .map (some w.heap.size), .int .i64 S.req, .int .i64 0] 76)).drew = W1 at HP1 HN1 HB1 HSZ ⊢
  clear c0 c1 c2 c3 c4
  go_wp2_with fail
  refine (positions_calls W1 p m S HP1.out hlen).mono ?_
  rintro e W2 ⟨v, rfl, hrow, hb⟩
  have HROW := Lib.hid hrow
  have HB2 := Lib.hid (bstep HB1.out hb HB1.out.size)
  have HN2 := Lib.hid (HN1.out.below hb HN1.out.lt HN1.out.2.lt)
  have HWW := Lib.hid hb
  clear hb hrow
  have hv : ∃ A c, v = .slice A S.L.length c ∧ (0 < S.L.length → ∃ g cur, A = some ⟨g, 0, none⟩ ∧ W1.heap.size ≤ g ∧ W2.heap[g]? = some (.cells cur 62 (0, 0))) := by
    rcases HROW.out.2 with ⟨e, e'⟩ | ⟨g, cap, cur, e, e2, e3, _⟩
    · exact ⟨none, 0, by rw [e, e'], fun h => by omega⟩
    · exact ⟨_, cap, e, fun _ => ⟨g, cur, rfl, e2, e3⟩⟩
  obtain ⟨A, cc, rfl, hA⟩ := hv
  have HA := Lib.hid hA
  clear hA
  go_wp2
  have HSO := Lib.hid H.out.2.sorted
  have HKS := Lib.hid H.out.2.keysize
  go_loopw [6, 32] (fun v6 v32 wr => ∃ k : Nat, k ≤ S.L.length ∧ v32 = .int .i64 k ∧ (∃ t : Int, v6 = .int .i64 t ∧ 0 ≤ t ∧ t ≤ 1000000000000001 ∧ Hid (t = totL f S.L k)) ∧
      Hid (PoolAt wr (w.heap.size + 1) w.heap.size ⟨S.owner, .iface T x, revL f S.L k, S.req, 0⟩) ∧ Hid (Fr (w.heap.size + 1) w.heap.size W2 wr) ∧ Hid (∀ j (h : j < S.L.length), j < k → (f S.L[j].key S.L[j].q).2 = 0)) (fun _ v32 _ => S.L.length - (intOf v32).toNat)
  case atStart => exact ⟨0, Nat.zero_le _, rfl, ⟨0, rfl, by omega, by omega, Lib.hid (show (0 : Int) = min 0 1000000000000001 from by omega)⟩, HN2, Lib.hid (Fr.refl _ _ _), Lib.hid (fun j _ h => absurd h (by omega))⟩
  case round =>
    obtain ⟨k, hk, rfl, ⟨t, rfl, t0, t1, HT⟩, HN, HFr, HE⟩ := hrel
    have HBr : Hid (Below w.heap.size w wr) := HB2.out.trans (HFr.out.below (by omega) (Nat.le_refl _) HB2.out.size)
    by_cases hlt : k < S.L.length
    · obtain ⟨g, cur, rfl, hg1, hg2⟩ := HA.out (by omega)
      have hgr : wr.heap[g]? = some (.cells cur 62 (0, 0)) := (HFr.out.block g (blk_lt hg2) (by rw [HSZ.out] at hg1; omega) (by rw [HSZ.out] at hg1; omega)).trans hg2
      have hcell : ∀ j, wr.cell? ⟨g, j, none⟩ = W2.cell? ⟨g, j, none⟩ := fun j => by rw [blk_cell hgr, blk_cell hg2]
      have x0 : wr.cell? ⟨g, k * 2, none⟩ = some (.string S.L[k].key) := by
        rw [hcell, World.ownsRow.cellAt HROW.out (k * 2) (by omega)]; exact (posRow_get S.L k hlt).1
      have x1 : wr.cell? ⟨g, k * 2 + 1, none⟩ = some (.int .i64 S.L[k].q) := by
        rw [hcell, World.ownsRow.cellAt HROW.out (k * 2 + 1) (by omega)]; exact (posRow_get S.L k hlt).2
      clear hg1 hg2 hgr hcell
      have HMEM := Lib.hid (List.getElem_mem hlt)
      have hq0 := hok.q0 _ HMEM.out
      have hq1 := hok.q1 _ HMEM.out
      have hks := HKS.out _ HMEM.out
      have HTS := Lib.hid (totL_succ f S.L k hlt (fun k q => (HF.out k q).1))
      have HPR := Lib.hid (put_revL f HSO.out k hlt)
      unfold reval at HTS HPR
      have HHH : Hid (∃ h : k < S.L.length, S.L[k] = S.L[k]) := ⟨hlt, rfl⟩
      generalize hh : S.L[k] = hd at *
      have HHX := Lib.hid hh
      clear hh HHH
      go_wp2_with fail
      have HBX := Lib.hid ((hB.trans (HBr.out.mono hBs)).alloc (Nat.le_trans hBs HBr.out.size) (.cells #[.string hd.key, .int .i64 hd.q] 62))
      have HNx := Lib.hid (HN.out.alloc (.cells #[.string hd.key, .int .i64 hd.q] 62))
      have HBx := Lib.hid (HBr.out.alloc HBr.out.size (.cells #[.string hd.key, .int .i64 hd.q] 62))
      have HFx := Lib.hid (HFr.out.alloc (.cells #[.string hd.key, .int .i64 hd.q] 62))
      have HC8 := Lib.hid (blk_new wr (.cells #[.string hd.key, .int .i64 hd.q] 62))
      have hsz8 : w.heap.size ≤ (wr.alloc (.cells #[.string hd.key, .int .i64 hd.q] 62)).heap.size := HBx.out.size
      generalize wr.alloc (.cells #[.string hd.key, .int .i64 hd.q] 62) = W3 at HBX HNx HBx HFx HC8 hsz8 ⊢
      refine (worth_pos W3 _ _ _ hd.key hd.q T x B w0 f fid rv HNx.out HV.out rfl HBX.out (Nat.le_trans hBs hsz8) hq0 hq1).mono ?_
      rintro e W4 ⟨rfl, hb4⟩
      have HB4 := Lib.hid (bstep HBx.out hb4 HBx.out.size)
      have HF4 := Lib.hid (HFx.out.bstep hb4)
      have HN4 := Lib.hid (HNx.out.below hb4 HNx.out.lt HNx.out.2.lt)
      have HC4 := Lib.hid (blk_keep hb4 HC8.out (Nat.le_refl _))
      clear x0 x1 hb4
      have hfv := HF.out hd.key hd.q
      generalize hfg : f hd.key hd.q = fr at HTS HPR hfv ⊢
      have HFG := Lib.hid hfg
      clear hfg
      obtain ⟨fv, fe⟩ := fr
      simp only at HTS HPR hfv ⊢
      have hv0 := hfv.1
      have hv1 := hfv.2
      clear hfv
      by_cases hz : fe = 0
      · have hz1 : (fe != 0) = false := by simpa using hz
        have HZ := Lib.hid hz
        clear hz
        go_wp2_with fail
        have HB5 := Lib.hid (HB4.out.alloc HB4.out.size (.cells #[.int .i64 hd.q, .int .i64 fv] 82))
        have HF5 := Lib.hid (HF4.out.alloc (.cells #[.int .i64 hd.q, .int .i64 fv] 82))
        have HN5 := Lib.hid (HN4.out.alloc (.cells #[.int .i64 hd.q, .int .i64 fv] 82))
        have HC5 := Lib.hid (blk_alloc HC4.out (.cells #[.int .i64 hd.q, .int .i64 fv] 82))
        have HD5 := Lib.hid (blk_new W4 (.cells #[.int .i64 hd.q, .int .i64 fv] 82))
        generalize W4.alloc (.cells #[.int .i64 hd.q, .int .i64 fv] 82) = W5 at HB5 HF5 HN5 HC5 HD5 ⊢
        obtain ⟨c0, c1, c2, c3, c4⟩ := HN5.out.cells
        have y0 := (blk_cell HC5.out 0).trans rfl
        have z0 := (blk_cell HD5.out 0).trans rfl
        have z1 := (blk_cell HD5.out 1).trans rfl
        go_still_tail 7, (by kernel_rfl)
        have HLL : (revL f S.L k).length < maxLen := by unfold revL maxLen; simp; omega
        have hnm := HN4.out.2.lt
        have hwr := HN.out.2.lt
        go_wp2_with (at_mapUpdate; refine wpList_store W5 rfl _ _ _ rfl w.heap.size (revL f S.L k) hd.key hd.q fv rfl rfl rfl HN5.out.2 hks HLL rfl ?_; intro W6 hM6 ht6; have z6 := (blk_cell (turned_keep ht6 HD5.out (by omega)) 1).trans rfl)
        refine ⟨⟨k + 1, by omega, by go_num, ⟨_, rfl, by omega, by omega, Lib.hid ?_⟩, Lib.hid ?_, Lib.hid ?_, Lib.hid ?_⟩, by simp [intOf]; omega⟩
        · rw [HTS.out, ← HT.out]
        · have := HN5.out.drew.turn hM6 ht6
          rw [HPR.out] at this
          exact this
        · exact Fr.turned (w := W5.drew) ⟨HF5.out.os, HF5.out.tape, HF5.out.output, HF5.out.size, HF5.out.block⟩ ht6
        · intro j h hj
          rcases Nat.lt_or_ge j k with hjk | hjk
          · exact HE.out j h hjk
          · obtain rfl : j = k := by omega
            rw [HHX.out, HFG.out]; exact HZ.out
      · have hz1 : (fe != 0) = true := by simpa using hz
        have HZ := Lib.hid hz
        clear hz
        go_wp2_with fail
        go_ret
        refine MutPost'.same ?_ H.out (HB4.out.alloc HB4.out.size _)
        have hfind : S.L.find? (fun h => decide ((f h.key h.q).2 ≠ 0)) = some hd := by
          rw [List.find?_eq_some_iff_getElem]
          refine ⟨by rw [HFG.out]; simpa using HZ.out, k, hlt, HHX.out, fun j hj => ?_⟩
          have := HE.out j (by omega) hj
          simpa using this
        unfold revalueF
        rw [hfind]
        show ((f hd.key hd.q).2, S) = _
        rw [HFG.out]
    · obtain rfl : k = S.L.length := by omega
      have hfind : S.L.find? (fun h => decide ((f h.key h.q).2 ≠ 0)) = none := by
        rw [List.find?_eq_none]
        intro h hm
        obtain ⟨j, hj, rfl⟩ := List.getElem_of_mem hm
        have := HE.out j hj hj
        simpa using this
      have hrev : revL f S.L S.L.length = S.L.map (reval f) := by unfold revL; rw [List.take_length]
      have HRV : Hid (revalueF f S (.iface T x) = if 1000000000000000 < sumV (S.L.map (reval f)) then (12, S) else (0, { S with vl := .iface T x, L := S.L.map (reval f), value := sumV (S.L.map (reval f)) })) := by
        unfold Hid revalueF; rw [hfind]
      have HTT : Hid (t = min (sumV (S.L.map (reval f))) 1000000000000001) := by
        have := HT.out
        unfold totL at this
        rw [hrev] at this
        exact this
      have HLR := Lib.hid hrev
      clear hfind hrev
      obtain ⟨c0, c1, c2, c3, c4⟩ := HN.out.cells
      have f4 := blk_frozen HN.out.1 4
      have HPr := Lib.hid (H.out.below HBr.out hp hm)
      obtain ⟨d0, d1, d2, d3, d4⟩ := HPr.out.cells
      have g0 := blk_frozen HPr.out.1 0
      have g1 := blk_frozen HPr.out.1 1
      have g2 := blk_frozen HPr.out.1 2
      have g3 := blk_frozen HPr.out.1 3
      have g4 := blk_frozen HPr.out.1 4
      go_wp2
      · go_ret
        rename_i hov
        exact MutPost'.same (by rw [HRV.out, if_pos (by have := HTT.out; omega)]) H.out HBr.out
      · go_ret
        rename_i hov
        have hcp := copy_pool (t := t) HPr.out HN.out HBr.out (by omega) (Nat.le_refl _) hp
        have htt := HTT.out
        refine ⟨w.heap.size, ?_, ?_, hcp.2, Or.inr (Nat.le_refl _)⟩
        · rw [HRV.out, if_neg (by omega)]; rfl
        · rw [HRV.out, if_neg (by omega)]
          have h1 := hcp.1
          have et : t = sumV (S.L.map (reval f)) := by omega
          rw [HLR.out] at h1
          rw [← et]
          exact h1
end Go.Proofs.YtjjnljfphaimgaaGreatDoor.C
/- giroref34: less, within, Quantity, takes. -/
namespace Go.Proofs.YtjjnljfphaimgaaGreatDoor.C
open Go Go.RowKit Go.Shelf Go.Proofs

abbrev RowAt (w : World) (B : Nat) (sl : Value) (L : List Hold) : Prop := w.ownsRow B 45 2 sl L.length (posRow L)
def rP (V : VS) (S : PS) (sl : Value) : Value := .agg #[.string S.owner, V.x0, V.x1, V.x2, sl, .int .i64 S.req]
def cellsOK (w : World) (L : List Hold) (ao : Option Addr) : Prop :=
  ∀ i (hi : i < L.length), ∃ g, ao = some ⟨g, 0, none⟩ ∧ w.cell? ⟨g, i * 2, none⟩ = some (.string L[i].key) ∧ w.cell? ⟨g, i * 2 + 1, none⟩ = some (.int .i64 L[i].q)
theorem row_open {w : World} {B : Nat} {sl : Value} {L : List Hold} (h : RowAt w B sl L) : ∃ ao cap, sl = .slice ao L.length cap ∧ cellsOK w L ao := by
  have h2 := h.2
  rcases h2 with ⟨rfl, e⟩ | ⟨g, cap, cur, rfl, _, _, _⟩
  · refine ⟨none, 0, ?_, fun i hi => absurd hi (by omega)⟩
    rw [e]
  · refine ⟨some ⟨g, 0, none⟩, cap, rfl, fun i hi => ⟨g, rfl, ?_, ?_⟩⟩
    · rw [World.ownsRow.cellAt h (i * 2) (by omega), (posRow_get L i hi).1]
    · rw [World.ownsRow.cellAt h (i * 2 + 1) (by omega), (posRow_get L i hi).2]
theorem cellsOK.alloc {w : World} {L : List Hold} {ao : Option Addr} (h : cellsOK w L ao) (o : Obj) : cellsOK (w.alloc o) L ao := by
  intro i hi
  obtain ⟨g, e, h1, h2⟩ := h i hi
  exact ⟨g, e, cell_alloc h1 o, cell_alloc h2 o⟩
theorem cellsOK.below {w w' : World} {L : List Hold} {ao : Option Addr} (h : cellsOK w L ao) (hb : Below w.heap.size w w') : cellsOK w' L ao := by
  intro i hi
  obtain ⟨g, e, h1, h2⟩ := h i hi
  exact ⟨g, e, cell_keep hb h1 (Nat.le_refl _), cell_keep hb h2 (Nat.le_refl _)⟩

theorem before_drop {a b : List UInt8} {k : Nat} (ha : k < a.length) (hb : k < b.length) :
    bytesBefore (a.drop k) (b.drop k) = (decide (a[k] < b[k]) || (a[k] == b[k] && bytesBefore (a.drop (k + 1)) (b.drop (k + 1)))) := by
  rw [List.drop_eq_getElem_cons ha, List.drop_eq_getElem_cons hb]
  rfl
set_option maxRecDepth 100000 in
set_option maxHeartbeats 4000000 in
theorem less_calls (a b : ByteArray) (w : World) (ha : a.size ≤ maxLen) (hb : b.size ≤ maxLen) :
    Calls Tryz.prog 58 #[.string a, .string b] w (Ret (.bool (kbefore a b)) w.heap.size w) := by
  unfold maxLen at ha hb
  go_enter Tryz.func58, Tryz.ntmps58
  go_wp2
  go_loopw [5] (fun v5 wr => ∃ k : Nat, k ≤ a.size ∧ k ≤ b.size ∧ v5 = .int .i64 k ∧ Hid (kbefore a b = bytesBefore (a.data.toList.drop k) (b.data.toList.drop k)) ∧ Hid (Below w.heap.size w wr)) (fun v5 _ => a.size - (intOf v5).toNat)
  case atStart => exact ⟨0, Nat.zero_le _, Nat.zero_le _, rfl, Lib.hid rfl, Lib.hid (Below.refl _ _)⟩
  case round =>
    obtain ⟨k, hka, hkb, rfl, HE, HB⟩ := hrel
    have HB2 := Lib.hid (fun n => bdrewN HB.out n)
    have la : a.data.toList.length = a.size := by simp
    have lb : b.data.toList.length = b.size := by simp
    by_cases h1 : k < a.size
    · by_cases h2 : k < b.size
      · have HD := before_drop (a := a.data.toList) (b := b.data.toList) (k := k) (by omega) (by omega)
        rw [toList_get a k h1, toList_get b k h2] at HD
        have HD := Lib.hid HD
        obtain ⟨x, hx⟩ : ∃ x : Nat, x = a[k].toNat := ⟨_, rfl⟩
        obtain ⟨y, hy⟩ : ∃ y : Nat, y = b[k].toNat := ⟨_, rfl⟩
        by_cases hxy : x = y
        · have h3 : ((a[k].toNat : Int) != (b[k].toNat : Int)) = false := by simp; omega
          have HQ : Hid (bytesBefore (a.data.toList.drop k) (b.data.toList.drop k) = bytesBefore (a.data.toList.drop (k + 1)) (b.data.toList.drop (k + 1))) := by
            show _ = _
            have e : a[k] = b[k] := UInt8.toNat_inj.1 (by omega)
            rw [HD.out, e]; simp
          clear hx hy
          obtain ⟨wo, hwo⟩ : ∃ wo : World, wo = wr := ⟨_, rfl⟩
          subst hwo
          go_wp2
          go_quiet (fail)
          go_wp2
          refine ⟨⟨k + 1, by omega, by omega, by go_num, Lib.hid (by rw [HE.out, HQ.out]), Lib.hid (HB2.out _)⟩, by simp [intOf]; omega⟩
        · have h3 : ((a[k].toNat : Int) != (b[k].toNat : Int)) = true := by simp; omega
          have HQ : Hid (kbefore a b = decide (a[k].toNat < b[k].toNat)) := by
            show _ = _
            have e : ¬ a[k] = b[k] := fun e => hxy (by rw [hx, hy, e])
            rw [HE.out, HD.out, beq_eq_false_iff_ne.2 e, Bool.false_and, Bool.or_false]
            rw [decide_eq_decide, UInt8.lt_iff_toNat_lt]
          clear hx hy
          go_wp2
          go_quiet (fail)
          go_wp2
          go_quiet (fail)
          go_wp2
          go_ret
          exact ⟨by rw [HQ.out]; rfl, bdrewN (HB2.out _) _⟩
      · have HQ : Hid (kbefore a b = false) := by
          show _ = _
          rw [HE.out, show b.data.toList.drop k = [] from List.drop_eq_nil_of_le (by omega)]
          cases a.data.toList.drop k <;> rfl
        have h4 : ¬ a.size < b.size := by omega
        go_wp2
        go_ret
        exact ⟨by rw [HQ.out]; simp [h4], HB.out⟩
    · have HQ : Hid (kbefore a b = decide (a.size < b.size)) := by
        show _ = _
        rw [HE.out, show a.data.toList.drop k = [] from List.drop_eq_nil_of_le (by omega)]
        by_cases h2 : k < b.size
        · rw [List.drop_eq_getElem_cons (by omega)]
          have : a.size < b.size := by omega
          simp [bytesBefore, this]
        · rw [List.drop_eq_nil_of_le (by omega)]
          have : ¬ a.size < b.size := by omega
          simp [bytesBefore, this]
      have HKA : Hid (k = a.size) := Lib.hid (by omega)
      clear la lb
      go_wp2
      go_ret
      exact ⟨by rw [HQ.out]; simp, HB.out⟩
theorem within_calls (n : Int) (w : World) :
    Calls Tryz.prog 53 #[.int .i64 n] w fun e w' => e = .returned (.bool (decide (1 ≤ n ∧ n ≤ 1000000000000000))) ∧ w = w' := by
  by_cases h1 : 1 ≤ n
  all_goals by_cases h2 : n ≤ 1000000000000000
  all_goals go_enter Tryz.func53, Tryz.ntmps53
  all_goals go_wp2
  all_goals go_ret
  all_goals exact ⟨by simp [h1, h2]; try omega, rfl⟩
end Go.Proofs.YtjjnljfphaimgaaGreatDoor.C
/- giroref34: Quantity, takes, Total, covers. -/
namespace Go.Proofs.YtjjnljfphaimgaaGreatDoor.C
open Go Go.RowKit Go.Shelf Go.Proofs

theorem ba_beq2 (a b : ByteArray) : (a.toList == b.toList) = decide (a = b) := by
  rw [ByteArray.toList_eq, ByteArray.toList_eq]
  by_cases h : a = b
  · subst h; simp
  · rw [decide_eq_false h, beq_eq_false_iff_ne]
    intro e; exact h (by cases a; cases b; simp only [ByteArray.mk.injEq]; exact Array.toList_inj.1 e)
theorem find_drop (L : List Hold) (k : ByteArray) (i : Nat) (h : i < L.length) : find (L.drop i) k = if L[i].key = k then some L[i] else find (L.drop (i + 1)) k := by
  unfold find
  rw [List.drop_eq_getElem_cons h, List.find?_cons]
  by_cases hk : L[i].key = k <;> simp [hk]
def pBox (V : VS) (S : PS) (sl : Value) : Obj := .cells #[.string S.owner, V.x0, V.x1, V.x2, sl, .int .i64 S.req] 38

set_option maxRecDepth 100000 in
set_option maxHeartbeats 4000000 in
theorem rquantity_calls (w : World) (B : Nat) (V : VS) (S : PS) (sl : Value) (k : ByteArray) (h : RowAt w B sl S.L) (hl : S.L.length ≤ 2000) :
    Calls Tryz.prog 18 #[rP V S sl, .string k] w (Ret (.int .i64 (qty S.L k)) w.heap.size w) := by
  obtain ⟨ao, cap, rfl, hc⟩ := row_open h
  clear h
  unfold rP
  have HC := Lib.hid (hc.alloc (pBox V S (.slice ao S.L.length cap)))
  have HB0 := Lib.hid ((Below.refl w.heap.size w).alloc (Nat.le_refl _) (pBox V S (.slice ao S.L.length cap)))
  have HX := Lib.hid (blk_new w (pBox V S (.slice ao S.L.length cap)))
  clear hc
  unfold pBox at HC HB0 HX
  go_enter Tryz.func18, Tryz.ntmps18
  go_wp2
  generalize w.alloc (.cells #[.string S.owner, V.x0, V.x1, V.x2, .slice ao S.L.length cap, .int .i64 S.req] 38) = W1 at HC HB0 HX ⊢
  have x4 := (blk_cell HX.out 4).trans rfl
  go_loop [5] (fun v5 => ∃ i : Nat, i ≤ S.L.length ∧ v5 = .int .i64 i ∧ Hid (find S.L k = find (S.L.drop i) k)) (fun v5 => S.L.length - (intOf v5).toNat)
  case atStart => exact ⟨0, Nat.zero_le _, rfl, Lib.hid rfl⟩
  case round =>
    obtain ⟨i, hi, rfl, HE⟩ := hrel
    by_cases hlt : i < S.L.length
    · have HD := Lib.hid (find_drop S.L k i hlt)
      obtain ⟨g, e0, y0, y1⟩ := HC.out i hlt
      rw [e0] at x4
      generalize S.L[i] = hd at y0 y1 HD
      obtain ⟨hk, hq, hv⟩ := hd
      simp only at y0 y1 HD
      by_cases hkk : hk = k
      · have HQ : Hid (qty S.L k = hq) := by
          show _ = _
          unfold qty; rw [HE.out, HD.out, if_pos hkk]; rfl
        have e1 : (hk == k) = true := by rw [ba_beq']; exact decide_eq_true hkk
        have e2 : (hk.toList == k.toList) = true := by rw [ba_beq2]; exact decide_eq_true hkk
        clear hkk
        go_wp2
        go_ret
        exact ⟨by rw [HQ.out]; rfl, HB0.out⟩
      · have e1 : (hk == k) = false := by rw [ba_beq']; exact decide_eq_false hkk
        have e2 : (hk.toList == k.toList) = false := by rw [ba_beq2]; exact decide_eq_false hkk
        have HD' : Hid (find (S.L.drop i) k = find (S.L.drop (i + 1)) k) := Lib.hid (by rw [HD.out, if_neg hkk])
        clear hkk
        go_wp2
        exact ⟨⟨i + 1, by omega, by go_num, Lib.hid (by rw [HE.out, HD'.out])⟩, by simp [intOf]; omega⟩
    · obtain rfl : i = S.L.length := by omega
      have HQ : Hid (qty S.L k = 0) := by
        show _ = _
        unfold qty; rw [HE.out, List.drop_length]; rfl
      go_wp2
      go_ret
      exact ⟨by rw [HQ.out]; rfl, HB0.out⟩
def takesF (L : List Hold) (k : ByteArray) (n : Int) : Int :=
  if qty L k = 0 then 9 else if ¬ (1 ≤ n ∧ n ≤ 1000000000000000) then 2 else if qty L k < n then 13 else 0
set_option maxRecDepth 100000 in
set_option maxHeartbeats 4000000 in
theorem takes_calls (w : World) (B : Nat) (V : VS) (S : PS) (sl : Value) (k : ByteArray) (n : Int) (h : RowAt w B sl S.L) (hl : S.L.length ≤ 2000) :
    Calls Tryz.prog 44 #[rP V S sl, .string k, .int .i64 n] w (Ret (.int .i64 (takesF S.L k n)) w.heap.size w) := by
  have HR := Lib.hid (ownsRow_below h ((Below.refl w.heap.size w).alloc (Nat.le_refl _) (pBox V S sl)) (Nat.le_refl _))
  have HB0 := Lib.hid ((Below.refl w.heap.size w).alloc (Nat.le_refl _) (pBox V S sl))
  have HX := Lib.hid (blk_new w (pBox V S sl))
  clear h
  unfold pBox at HR HB0 HX
  unfold rP
  go_enter Tryz.func44, Tryz.ntmps44
  go_wp2_with fail
  generalize w.alloc (.cells #[.string S.owner, V.x0, V.x1, V.x2, sl, .int .i64 S.req] 38) = W1 at HR HB0 HX ⊢
  have x0 := (blk_cell HX.out 0).trans rfl
  have x1 := (blk_cell HX.out 1).trans rfl
  have x2 := (blk_cell HX.out 2).trans rfl
  have x3 := (blk_cell HX.out 3).trans rfl
  have x4 := (blk_cell HX.out 4).trans rfl
  have x5 := (blk_cell HX.out 5).trans rfl
  go_wp2_with fail
  refine (rquantity_calls _ B V S sl k HR.out hl).mono ?_
  rintro e w2 ⟨rfl, hb⟩
  have HB1 := Lib.hid (bstep HB0.out hb HB0.out.size)
  clear hb
  go_wp2_with (go_at_call 53; refine (within_calls _ _).mono ?_; rintro e w' ⟨rfl, rfl⟩)
  all_goals go_ret
  all_goals refine ⟨ret_int ?_, HB1.out⟩
  all_goals simp_all [takesF]
  all_goals omega

def totF (f : ByteArray → Int → Int × Int) (L : List Hold) : Int × Int :=
  match L.find? (fun h => decide ((f h.key h.q).2 ≠ 0)) with
  | some h => (0, (f h.key h.q).2)
  | none => if 1000000000000000 < sumV (L.map (reval f)) then (0, 12) else (sumV (L.map (reval f)), 0)
def boxAt (w : World) (b : Nat) (V : VS) (S : PS) (sl : Value) : Prop := w.heap[b]? = some (.cells #[.string S.owner, V.x0, V.x1, V.x2, sl, .int .i64 S.req] 38 (0, 0))
theorem boxAt.cells {w : World} {b : Nat} {V : VS} {S : PS} {sl : Value} (h : boxAt w b V S sl) : w.cell? ⟨b, 1, none⟩ = some V.x0 ∧ w.cell? ⟨b, 2, none⟩ = some V.x1 ∧ w.cell? ⟨b, 3, none⟩ = some V.x2 ∧ w.cell? ⟨b, 4, none⟩ = some sl :=
  ⟨(blk_cell h 1).trans rfl, (blk_cell h 2).trans rfl, (blk_cell h 3).trans rfl, (blk_cell h 4).trans rfl⟩
theorem totS {w : World} {b : Nat} {V : VS} {S : PS} {sl : Value} {ao : Option Addr} {i g : Nat} (hx : boxAt w b V S sl) (hc : cellsOK w S.L ao) (hi : i < S.L.length) (e : ao = some ⟨g, 0, none⟩) :
    w.cell? ⟨b, 1, none⟩ = some V.x0 ∧ w.cell? ⟨b, 2, none⟩ = some V.x1 ∧ w.cell? ⟨b, 3, none⟩ = some V.x2 ∧ w.cell? ⟨b, 4, none⟩ = some sl ∧
      w.cell? ⟨g, i * 2, none⟩ = some (.string S.L[i].key) ∧ w.cell? ⟨g, i * 2 + 1, none⟩ = some (.int .i64 S.L[i].q) := by
  obtain ⟨g', e', h1, h2⟩ := hc i hi
  rw [e] at e'
  simp only [Option.some.injEq, Addr.mk.injEq, and_true] at e'
  subst e'
  obtain ⟨c1, c2, c3, c4⟩ := hx.cells
  exact ⟨c1, c2, c3, c4, h1, h2⟩
set_option maxRecDepth 100000 in
set_option maxHeartbeats 8000000 in
theorem rtotal_calls (w : World) (B : Nat) (V : VS) (S : PS) (sl : Value) (h : RowAt w B sl S.L) (hl : S.L.length ≤ 2000) (hV : VAt w B V) (hB : B ≤ w.heap.size)
    (hq : ∀ x ∈ S.L, 0 ≤ x.q ∧ x.q ≤ 1000000000000000) :
    Calls Tryz.prog 36 #[rP V S sl] w (Ret (.tuple #[.int .i64 (totF (fV V) S.L).1, .int .i64 (totF (fV V) S.L).2]) w.heap.size w) := by
  obtain ⟨ao, cap, rfl, hc⟩ := row_open h
  clear h
  have HQ := Lib.hid hq
  clear hq
  unfold rP
  have HC := Lib.hid (hc.alloc (pBox V S (.slice ao S.L.length cap)))
  have HB0 := Lib.hid ((Below.refl w.heap.size w).alloc (Nat.le_refl _) (pBox V S (.slice ao S.L.length cap)))
  have HX : Hid (boxAt (w.alloc (pBox V S (.slice ao S.L.length cap))) w.heap.size V S (.slice ao S.L.length cap)) := Lib.hid (blk_new w (pBox V S (.slice ao S.L.length cap)))
  have HV := Lib.hid (hV.below ((Below.refl B w).alloc hB (pBox V S (.slice ao S.L.length cap))))
  clear hc hV
  unfold pBox at HC HB0 HX HV
  go_enter Tryz.func36, Tryz.ntmps36
  go_wp2
  generalize w.alloc (.cells #[.string S.owner, V.x0, V.x1, V.x2, .slice ao S.L.length cap, .int .i64 S.req] 38) = W1 at HC HB0 HX HV ⊢
  generalize hb0e : w.heap.size = b0 at HX HB0 hB ⊢
  have HB0E := Lib.hid hb0e
  clear hb0e
  have HW1 := Lib.hid HB0.out.size
  go_loopw [4, 5] (fun v4 v5 wr => ∃ i : Nat, ∃ sm : Int, i ≤ S.L.length ∧ v5 = .int .i64 i ∧ v4 = .int .i64 sm ∧ 0 ≤ sm ∧ sm ≤ i * 1000000000000000 ∧ Hid (sm = sumV (revL (fV V) S.L i)) ∧ Hid (∀ j (hj : j < S.L.length), j < i → (fV V S.L[j].key S.L[j].q).2 = 0) ∧ Hid (Below b0 w wr) ∧ Hid (Below W1.heap.size W1 wr)) (fun _ v5 _ => S.L.length - (intOf v5).toNat)
  case atStart => exact ⟨0, 0, Nat.zero_le _, rfl, rfl, by omega, by omega, Lib.hid rfl, Lib.hid (fun j _ h => absurd h (by omega)), HB0, Lib.hid (Below.refl _ _)⟩
  case round =>
    obtain ⟨i, sm, hi, rfl, rfl, hs0, hs1, HSM, HER, HBr, HWr⟩ := hrel
    have HXr : Hid (boxAt wr b0 V S (.slice ao S.L.length cap)) := Lib.hid (blk_keep HWr.out HX.out (Nat.le_refl _))
    have HCr := Lib.hid (HC.out.below HWr.out)
    obtain ⟨x1, x2, x3, x4⟩ := HXr.out.cells
    by_cases hlt : i < S.L.length
    · obtain ⟨g, e0, y0, y1⟩ := HCr.out i hlt
      subst e0
      have HT := Lib.hid (totS HXr.out HCr.out hlt rfl)
      have hbq := HQ.out _ (List.getElem_mem hlt)
      have HVr := Lib.hid (HV.out.below (HWr.out.mono (by have := blk_lt HX.out; omega)))
      have HSI : Hid (∀ j (hj : j < S.L.length), j < i + 1 → (fV V S.L[i].key S.L[i].q).2 = 0 → (fV V S.L[j].key S.L[j].q).2 = 0) := Lib.hid (by
        intro j hj hji h0
        by_cases hjj : j = i
        · subst hjj; exact h0
        · exact HER.out j hj (by omega))
      have hfr := fV_range V S.L[i].key S.L[i].q hbq.1
      have hfe := fV_err V S.L[i].key S.L[i].q
      have HS1 : Hid (sumV (revL (fV V) S.L (i + 1)) = sm + (fV V S.L[i].key S.L[i].q).1) := Lib.hid (by rw [revL_succ _ _ _ hlt, sumV_append, ← HSM.out]; rfl)
      have HFD : Hid ((fV V S.L[i].key S.L[i].q).2 ≠ 0 → totF (fV V) S.L = (0, (fV V S.L[i].key S.L[i].q).2)) := Lib.hid (by
        intro hne
        have hfind : S.L.find? (fun h => decide ((fV V h.key h.q).2 ≠ 0)) = some S.L[i] := by
          rw [List.find?_eq_some_iff_getElem]
          refine ⟨by simpa using hne, i, hlt, rfl, ?_⟩
          intro j hj
          simpa using HER.out j (by omega) hj
        unfold totF; rw [hfind])
      generalize S.L[i] = hd at y0 y1 hbq hfr hfe HS1 HFD HSI HT
      obtain ⟨hk, hqq, hvv⟩ := hd
      simp only at y0 y1 hbq hfr hfe HS1 HFD HSI HT
      obtain ⟨fv1, fv2⟩ : ∃ a : Int × Int, Hid (a = fV V hk hqq) := ⟨_, Lib.hid rfl⟩
      obtain ⟨va, ve⟩ := fv1
      rw [← fv2.out] at hfr hfe HS1 HFD HSI
      simp only at hfr hfe HS1 HFD HSI
      go_wp2_with fail
      clear x1 x2 x3 x4 y0 y1
      obtain ⟨x1, x2, x3, x4, y0, y1⟩ := HT.out
      go_region_held3 (fun w' => w'.cell? ⟨b0, 1, none⟩ = some V.x0 ∧ w'.cell? ⟨b0, 2, none⟩ = some V.x1 ∧ w'.cell? ⟨b0, 3, none⟩ = some V.x2 ∧ w'.cell? ⟨b0, 4, none⟩ = some (.slice (some ⟨g, 0, none⟩) S.L.length cap) ∧
          w'.cell? ⟨g, i * 2, none⟩ = some (.string hk) ∧ w'.cell? ⟨g, i * 2 + 1, none⟩ = some (.int .i64 hqq))
        (first | exact ⟨x1, x2, x3, x4, y0, y1⟩ | exact HT2.out | trivial)
        (first
          | (go_at_call 46
             refine (rvalue_calls _ B V hk hqq (HVr.out.below (Below.refl _ _).drew) (Nat.le_trans hB (by have := blk_lt HXr.out; simp; omega)) hbq.1 hbq.2).mono ?_
             rintro e w4 ⟨rfl, hb4⟩
             rw [← fv2.out]
             have HB4 := Lib.hid hb4
             have HT2 : Hid (w4.cell? ⟨b0, 1, none⟩ = some V.x0 ∧ w4.cell? ⟨b0, 2, none⟩ = some V.x1 ∧ w4.cell? ⟨b0, 3, none⟩ = some V.x2 ∧ w4.cell? ⟨b0, 4, none⟩ = some (.slice (some ⟨g, 0, none⟩) S.L.length cap) ∧
               w4.cell? ⟨g, i * 2, none⟩ = some (.string hk) ∧ w4.cell? ⟨g, i * 2 + 1, none⟩ = some (.int .i64 hqq)) := Lib.hid ⟨cell_keep HB4.out (cell_drew x1) (Nat.le_refl _), cell_keep HB4.out (cell_drew x2) (Nat.le_refl _), cell_keep HB4.out (cell_drew x3) (Nat.le_refl _), cell_keep HB4.out (cell_drew x4) (Nat.le_refl _), cell_keep HB4.out (cell_drew y0) (Nat.le_refl _), cell_keep HB4.out (cell_drew y1) (Nat.le_refl _)⟩
             clear hb4))
      all_goals
        have HBB := Lib.hid (bstep HBr.out.drew HB4.out (by have := HBr.out.size; have := HB0E.out; simp; omega))
        have HWW := Lib.hid (bstep HWr.out.drew HB4.out (by have := HWr.out.size; simp; omega))
        clear x1 x2 x3 x4 y0 y1 HB4
        by_cases hve : ve = 0
        · subst hve
          go_wp2
          refine ⟨⟨i + 1, sm + va, by omega, by go_num, by go_num, by omega, by omega, Lib.hid (by rw [HS1.out]), Lib.hid (fun j hj hji => HSI.out j hj hji rfl), HBB, HWW⟩, by simp [intOf]; omega⟩
        · have hz1 : (ve != 0) = true := by simp [hve]
          have HFD' := Lib.hid (HFD.out hve)
          go_wp2
          go_ret2
          exact ⟨by rw [HFD'.out]; rfl, by first | exact HBB.out | (rw [HB0E.out]; exact HBB.out)⟩
    · obtain rfl : i = S.L.length := by omega
      have HFN : Hid (totF (fV V) S.L = if 1000000000000000 < sm then (0, 12) else (sm, 0)) := Lib.hid (by
        have hfind : S.L.find? (fun h => decide ((fV V h.key h.q).2 ≠ 0)) = none := by
          rw [List.find?_eq_none]
          intro x hx
          obtain ⟨j, hj, rfl⟩ := List.getElem_of_mem hx
          simpa using HER.out j hj hj
        have e : sumV (S.L.map (reval (fV V))) = sm := by
          rw [HSM.out]; unfold revL; rw [List.take_length]
        unfold totF; rw [hfind]; simp only [e])
      by_cases hbig : 1000000000000000 < sm
      · go_wp2
        go_ret2
        exact ⟨by rw [HFN.out, if_pos hbig]; rfl, by first | exact HBr.out | (rw [HB0E.out]; exact HBr.out)⟩
      · go_wp2
        go_ret2
        exact ⟨by rw [HFN.out, if_neg (by omega)]; rfl, by first | exact HBr.out | (rw [HB0E.out]; exact HBr.out)⟩

def coverF (f : ByteArray → Int → Int × Int) (L : List Hold) (req : Int) : Int :=
  if (totF f L).2 ≠ 0 then (totF f L).2 else if (totF f L).1 < req then 25 else 0
set_option maxRecDepth 100000 in
set_option maxHeartbeats 8000000 in
theorem covers_calls (w : World) (B : Nat) (V : VS) (S : PS) (sl : Value) (h : RowAt w B sl S.L) (hl : S.L.length ≤ 2000) (hV : VAt w B V) (hB : B ≤ w.heap.size)
    (hq : ∀ x ∈ S.L, 0 ≤ x.q ∧ x.q ≤ 1000000000000000) :
    Calls Tryz.prog 47 #[rP V S sl] w (Ret (.int .i64 (coverF (fV V) S.L S.req)) w.heap.size w) := by
  have HR := Lib.hid (ownsRow_below h ((Below.refl w.heap.size w).alloc (Nat.le_refl _) (pBox V S sl)) (Nat.le_refl _))
  have HB0 := Lib.hid ((Below.refl w.heap.size w).alloc (Nat.le_refl _) (pBox V S sl))
  have HX := Lib.hid (blk_new w (pBox V S sl))
  have HV := Lib.hid (hV.below ((Below.refl B w).alloc hB (pBox V S sl)))
  have HQ := Lib.hid hq
  clear h hV hq
  unfold pBox at HR HB0 HX HV
  unfold rP
  go_enter Tryz.func47, Tryz.ntmps47
  go_wp2_with fail
  generalize w.alloc (.cells #[.string S.owner, V.x0, V.x1, V.x2, sl, .int .i64 S.req] 38) = W1 at HR HB0 HX HV ⊢
  have x0 := (blk_cell HX.out 0).trans rfl
  have x1 := (blk_cell HX.out 1).trans rfl
  have x2 := (blk_cell HX.out 2).trans rfl
  have x3 := (blk_cell HX.out 3).trans rfl
  have x4 := (blk_cell HX.out 4).trans rfl
  have x5 := (blk_cell HX.out 5).trans rfl
  go_wp2_with fail
  refine (rtotal_calls _ B V S sl HR.out hl HV.out (Nat.le_trans hB HB0.out.size) HQ.out).mono ?_
  rintro e w2 ⟨rfl, hb⟩
  have HB1 := Lib.hid (bstep HB0.out hb HB0.out.size)
  have HX2 := Lib.hid (blk_keep hb HX.out (Nat.le_refl _))
  clear hb x0 x1 x2 x3 x4 x5
  have x5 := (blk_cell HX2.out 5).trans rfl
  have HCF : Hid (coverF (fV V) S.L S.req = if (totF (fV V) S.L).2 ≠ 0 then (totF (fV V) S.L).2 else if (totF (fV V) S.L).1 < S.req then 25 else 0) := Lib.hid rfl
  generalize totF (fV V) S.L = tt at HCF ⊢
  obtain ⟨ta, te⟩ := tt
  simp only at HCF
  by_cases hte : te = 0
  · subst hte
    by_cases hlt : ta < S.req
    · go_wp2_with fail
      go_ret
      exact ⟨by rw [HCF.out]; simp [hlt], HB1.out⟩
    · go_wp2_with fail
      go_ret
      exact ⟨by rw [HCF.out]; simp; omega, HB1.out⟩
  · have hz1 : (te != 0) = true := by simp [hte]
    go_wp2_with fail
    go_ret
    exact ⟨by rw [HCF.out]; simp [hte], HB1.out⟩
end Go.Proofs.YtjjnljfphaimgaaGreatDoor.C
