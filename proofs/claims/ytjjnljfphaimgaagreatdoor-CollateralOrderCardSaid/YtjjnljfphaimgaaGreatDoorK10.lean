/- Contracts and plain laws, without conditions beyond each theorem's own: Plain: the reference's operations are the pool's, on consistent states. Plain: agreement is kept by each operation. Plain: the reference's valuer is monotone. giroref34.Same. Plain: what the laws say of the pool's operations. girolaw34.few. Words for girolaw34's pair of a pool and its reference. -/
import Derived.Test.YtjjnljfphaimgaaGreatDoorK05
import Derived.Test.YtjjnljfphaimgaaGreatDoorK07
import Derived.Test.YtjjnljfphaimgaaGreatDoorK08
import Derived.Test.YtjjnljfphaimgaaGreatDoorK09
set_option linter.all false
/- Plain: the reference's operations are the pool's, on consistent states. -/
namespace Go.Proofs.YtjjnljfphaimgaaGreatDoor.C
open Go Go.RowKit Go.Shelf Go.Proofs

/-- A pool's state that agrees with the valuer f. -/
structure Sim (f : ByteArray → Int → Int × Int) (S : PS) : Prop where
  ok : S.Ok
  sorted : Sorted S.L
  vals : ∀ h ∈ S.L, (f h.key h.q).1 = h.v ∧ (f h.key h.q).2 = 0
  sum : S.value = sumV S.L
  isin : ∀ h ∈ S.L, isinB h.key = true
theorem find_err {f : ByteArray → Int → Int × Int} {L : List Hold} (h : ∀ x ∈ L, (f x.key x.q).1 = x.v ∧ (f x.key x.q).2 = 0) : totF f L = if 1000000000000000 < sumV L then (0, 12) else (sumV L, 0) := by
  have e : L.find? (fun h => decide ((f h.key h.q).2 ≠ 0)) = none := by
    rw [List.find?_eq_none]; intro x hx; simp [(h x hx).2]
  have e2 : L.map (reval f) = L := by
    rw [List.map_congr_left (g := id)]
    · simp
    · intro x hx; unfold reval; rw [(h x hx).1]; rfl
  unfold totF; rw [e, e2]
theorem Sim.tot {f : ByteArray → Int → Int × Int} {S : PS} (h : Sim f S) : totF f S.L = (S.value, 0) := by
  rw [find_err h.vals, ← h.sum, if_neg (by have := h.ok.v1; omega)]
theorem Sim.has_qty {f : ByteArray → Int → Int × Int} {S : PS} (h : Sim f S) (k : ByteArray) : has S.L k = decide (qty S.L k ≠ 0) := by
  rw [has_find]
  unfold qty
  cases e : find S.L k with
  | none => simp
  | some x =>
    have := h.ok.q0 x (find_mem e).1
    simp; omega
theorem Sim.takes {f : ByteArray → Int → Int × Int} {S : PS} (h : Sim f S) (k : ByteArray) (n : Int) : takesF S.L k n = ckRel S.L k n := by
  unfold takesF ckRel
  rw [h.has_qty k]
  by_cases hq : qty S.L k = 0 <;> simp [hq]
theorem val_find (L : List Hold) (k : ByteArray) : val L k = ((find L k).map (·.v)).getD 0 := rfl
/-- One change keeps agreement. -/
theorem upd_vals {f : ByteArray → Int → Int × Int} {L : List Hold} (h : ∀ x ∈ L, (f x.key x.q).1 = x.v ∧ (f x.key x.q).2 = 0) {x : Hold} (hx : x.q ≠ 0 → (f x.key x.q).1 = x.v ∧ (f x.key x.q).2 = 0) : ∀ y ∈ updL L x, (f y.key y.q).1 = y.v ∧ (f y.key y.q).2 = 0 := by
  intro y hy
  rcases upd_mem hy with ⟨rfl, hq⟩ | ⟨hm, _⟩
  · exact hx hq
  · exact h y hm
theorem apply_one (S : PS) (c : Hold) : applyTot S [c] = S.value + (c.v - val S.L c.key) := rfl
theorem qty_upd_same (L : List Hold) (x : Hold) : qty (updL L x) x.key = x.q := by
  unfold qty
  rw [find_upd_same]
  split
  · rename_i h; rw [h]; rfl
  · rfl
theorem qty_upd_ne (L : List Hold) (x : Hold) (k : ByteArray) (h : k ≠ x.key) : qty (updL L x) k = qty L k := by
  unfold qty; rw [find_upd_ne L x k h]
theorem val_upd_ne (L : List Hold) (x : Hold) (k : ByteArray) (h : k ≠ x.key) : val (updL L x) k = val L k := by
  unfold val; rw [find_upd_ne L x k h]
theorem has_upd_ne (L : List Hold) (x : Hold) (k : ByteArray) (h : k ≠ x.key) : has (updL L x) k = has L k := by
  rw [has_find, has_find, find_upd_ne L x k h]
theorem pledge_sim {f : ByteArray → Int → Int × Int} {S : PS} (h : Sim f S) (k : ByteArray) (n : Int) : refPledge f S k n = pledgeF f S k n := by
  obtain ⟨q0, q1, w0, w1⟩ := h.ok.qty k
  unfold refPledge pledgeF
  by_cases h1 : isinB k = false
  · rw [if_pos h1, if_pos h1]
  rw [if_neg h1, if_neg h1]
  by_cases h2 : ¬ (1 ≤ n ∧ n ≤ 1000000000000000)
  · rw [if_pos h2, if_pos h2]
  rw [if_neg h2, if_neg h2]
  have h2' : 1 ≤ n ∧ n ≤ 1000000000000000 := Decidable.not_not.1 h2
  by_cases h3 : 1000000000000000 < qty S.L k + n
  · rw [if_pos h3, if_pos (show 1000000000000000 - n < qty S.L k by omega)]
  rw [if_neg h3, if_neg (show ¬ 1000000000000000 - n < qty S.L k by omega)]
  rw [wrest_upd ⟨k, qty S.L k + n, (f k (qty S.L k + n)).1⟩ S.L h.sorted]
  have hl := upd_len h.sorted ⟨k, qty S.L k + n, (f k (qty S.L k + n)).1⟩
  simp only at hl
  rw [if_neg (show ¬ qty S.L k + n = 0 by omega)] at hl
  have hlen := h.ok.len
  by_cases h4 : has S.L k = false ∧ 1024 ≤ S.L.length
  · rw [h4.1] at hl
    rw [if_pos h4, if_pos (show 1024 < (updL S.L ⟨k, qty S.L k + n, (f k (qty S.L k + n)).1⟩).length by simp at hl; omega)]
  rw [if_neg h4, if_neg (show ¬ 1024 < (updL S.L ⟨k, qty S.L k + n, (f k (qty S.L k + n)).1⟩).length by
    cases hh : has S.L k
    · rw [hh] at hl; simp at hl; have : ¬ 1024 ≤ S.L.length := fun e => h4 ⟨hh, e⟩; omega
    · rw [hh] at hl; simp at hl; omega)]
  by_cases h5 : (f k (qty S.L k + n)).2 ≠ 0
  · rw [if_pos h5, if_pos h5]
  rw [if_neg h5, if_neg h5]
  have h5' : (f k (qty S.L k + n)).2 = 0 := Decidable.not_not.1 h5
  rw [find_err (upd_vals h.vals fun _ => ⟨rfl, h5'⟩), sumV_upd h.sorted _ (fun e => absurd e (show ¬ qty S.L k + n = 0 by omega)), ← h.sum]
  unfold applyF
  rw [apply_one]
  simp only [List.foldl_cons, List.foldl_nil]
  by_cases h6 : 1000000000000000 < S.value + ((f k (qty S.L k + n)).1 - val S.L k)
  · simp [h6]
  · simp [h6]
theorem require_sim {f : ByteArray → Int → Int × Int} {S : PS} (h : Sim f S) (n : Int) : refRequire f S n = requireF S n := by
  unfold refRequire requireF coverF
  rw [h.tot]
  by_cases h1 : n < 0 ∨ 1000000000000000 < n
  · rw [if_pos h1, if_pos h1]
  rw [if_neg h1, if_neg h1]
  by_cases h2 : S.value < n <;> simp [h2]
theorem release_sim {f : ByteArray → Int → Int × Int} {S : PS} (h : Sim f S) (k : ByteArray) (n : Int) : refRelease f S k n = releaseF f S k n := by
  unfold refRelease releaseF
  rw [h.takes]
  by_cases h1 : ckRel S.L k n ≠ 0
  · rw [if_pos h1, if_pos h1]
  rw [if_neg h1, if_neg h1]
  have h1' : ckRel S.L k n = 0 := Decidable.not_not.1 h1
  obtain ⟨hh, n0, n1, n2⟩ := ckRel_zero h1'
  simp only
  by_cases hz : qty S.L k - n = 0
  · rw [show wrest ⟨k, qty S.L k - n, (f k (qty S.L k - n)).1⟩ (qty S.L k - n == 0) S.L = updL S.L ⟨k, 0, 0⟩ from by
      rw [hz]; unfold updL; rw [if_pos rfl]; exact wrest_true ⟨k, 0, (f k 0).1⟩ S.L]
    have hq : qty (updL S.L ⟨k, 0, 0⟩) k = 0 := by
      have := find_upd_same S.L ⟨k, 0, 0⟩
      simp only [if_true] at this
      unfold qty; rw [this]; rfl
    rw [hq, if_neg (show ¬ (0 < (0 : Int) ∧ (f k 0).2 ≠ 0) by omega)]
    have hw : worthF f k (qty S.L k - n) = (0, 0, 0) := by unfold worthF; rw [if_pos hz]
    rw [hw]
    unfold coverF applyF
    rw [find_err (upd_vals h.vals fun e => absurd rfl e), sumV_upd h.sorted _ (fun _ => rfl), ← h.sum, apply_one]
    simp only [List.foldl_cons, List.foldl_nil]
    generalize S.value + (0 - val S.L k) = T
    by_cases h6 : 1000000000000000 < T
    · simp [h6]
    · by_cases h7 : T < S.req <;> simp [h6, h7]
  · rw [wrest_upd ⟨k, qty S.L k - n, (f k (qty S.L k - n)).1⟩ S.L h.sorted]
    have hq : qty (updL S.L ⟨k, qty S.L k - n, (f k (qty S.L k - n)).1⟩) k = qty S.L k - n := by
      exact qty_upd_same S.L ⟨k, qty S.L k - n, (f k (qty S.L k - n)).1⟩
    rw [hq]
    have hw : worthF f k (qty S.L k - n) = (qty S.L k - n, (f k (qty S.L k - n)).1, (f k (qty S.L k - n)).2) := by unfold worthF; rw [if_neg hz]
    rw [hw]
    simp only
    by_cases h5 : (f k (qty S.L k - n)).2 ≠ 0
    · rw [if_pos (show 0 < qty S.L k - n ∧ (f k (qty S.L k - n)).2 ≠ 0 from ⟨by omega, h5⟩), if_pos h5]
    rw [if_neg (show ¬ (0 < qty S.L k - n ∧ (f k (qty S.L k - n)).2 ≠ 0) from fun e => h5 e.2), if_neg h5]
    have h5' : (f k (qty S.L k - n)).2 = 0 := Decidable.not_not.1 h5
    unfold coverF applyF
    rw [find_err (upd_vals h.vals fun _ => ⟨rfl, h5'⟩), sumV_upd h.sorted _ (fun e => absurd e hz), ← h.sum, apply_one]
    simp only [List.foldl_cons, List.foldl_nil]
    generalize S.value + ((f k (qty S.L k - n)).1 - val S.L k) = T
    by_cases h6 : 1000000000000000 < T
    · simp [h6]
    · by_cases h7 : T < S.req <;> simp [h6, h7]
theorem worthF_cases (f : ByteArray → Int → Int × Int) (k : ByteArray) (q : Int) : (q = 0 ∧ worthF f k q = (0, 0, 0)) ∨ (q ≠ 0 ∧ worthF f k q = (q, (f k q).1, (f k q).2)) := by
  unfold worthF; split
  · rename_i h; exact Or.inl ⟨h, rfl⟩
  · rename_i h; exact Or.inr ⟨h, rfl⟩
end Go.Proofs.YtjjnljfphaimgaaGreatDoor.C
/- Plain: agreement is kept by each operation. -/
namespace Go.Proofs.YtjjnljfphaimgaaGreatDoor.C
open Go Go.RowKit Go.Shelf Go.Proofs

/-- A change that agrees with f. -/
structure COk (f : ByteArray → Int → Int × Int) (c : Hold) : Prop where
  z : c.q = 0 → c.v = 0
  q : c.q ≠ 0 → 1 ≤ c.q ∧ c.q ≤ 1000000000000000 ∧ 0 ≤ c.v ∧ c.v ≤ 1000000000000000 ∧ (f c.key c.q).1 = c.v ∧ (f c.key c.q).2 = 0 ∧ isinB c.key = true
/-- The lists' part of agreement. -/
structure LSim (f : ByteArray → Int → Int × Int) (L : List Hold) : Prop where
  sorted : Sorted L
  all : ∀ h ∈ L, 1 ≤ h.q ∧ h.q ≤ 1000000000000000 ∧ 0 ≤ h.v ∧ h.v ≤ 1000000000000000 ∧ (f h.key h.q).1 = h.v ∧ (f h.key h.q).2 = 0 ∧ isinB h.key = true
theorem Sim.lsim {f : ByteArray → Int → Int × Int} {S : PS} (h : Sim f S) : LSim f S.L :=
  ⟨h.sorted, fun x hx => ⟨h.ok.q0 x hx, h.ok.q1 x hx, h.ok.w0 x hx, h.ok.w1 x hx, (h.vals x hx).1, (h.vals x hx).2, h.isin x hx⟩⟩
theorem LSim.upd {f : ByteArray → Int → Int × Int} {L : List Hold} (h : LSim f L) {c : Hold} (hc : COk f c) : LSim f (updL L c) := by
  refine ⟨sorted_upd h.sorted c, fun y hy => ?_⟩
  rcases upd_mem hy with ⟨rfl, hq⟩ | ⟨hm, _⟩
  · exact hc.q hq
  · exact h.all y hm
theorem LSim.sim {f : ByteArray → Int → Int × Int} {S : PS} (h : LSim f S.L) (hs : S.value = sumV S.L) (hv : S.value ≤ 1000000000000000) (hr : 0 ≤ S.req ∧ S.req ≤ 1000000000000000) (hl : S.L.length ≤ 1024) : Sim f S := by
  refine ⟨⟨?_, hv, hr.1, hr.2, fun x hx => (h.all x hx).1, fun x hx => (h.all x hx).2.1, fun x hx => (h.all x hx).2.2.1, fun x hx => (h.all x hx).2.2.2.1, hl⟩, h.sorted, fun x hx => ⟨(h.all x hx).2.2.2.2.1, (h.all x hx).2.2.2.2.2.1⟩, hs, fun x hx => (h.all x hx).2.2.2.2.2.2⟩
  rw [hs]
  exact sumV_nonneg fun x hx => (h.all x hx).2.2.1
theorem pledge_keep {f : ByteArray → Int → Int × Int} {S : PS} (hf : ∀ k q, 0 ≤ q → 0 ≤ (f k q).1 ∧ (f k q).1 ≤ 1000000000000000) (h : Sim f S) (k : ByteArray) (n : Int) : Sim f (pledgeF f S k n).2 := by
  obtain ⟨q0, q1, w0, w1⟩ := h.ok.qty k
  unfold pledgeF
  split
  · exact h
  rename_i h1
  split
  · exact h
  rename_i h2
  split
  · exact h
  rename_i h3
  split
  · exact h
  rename_i h4
  split
  · exact h
  rename_i h5
  have h2' : 1 ≤ n ∧ n ≤ 1000000000000000 := Decidable.not_not.1 h2
  have hc : COk f ⟨k, qty S.L k + n, (f k (qty S.L k + n)).1⟩ := by
    refine ⟨fun e => ?_, fun _ => ⟨?_, ?_, (hf _ _ (by omega)).1, (hf _ _ (by omega)).2, rfl, Decidable.not_not.1 h5, by simpa using h1⟩⟩
    · simp only at e; omega
    · show 1 ≤ qty S.L k + n; omega
    · show qty S.L k + n ≤ _; omega
  unfold applyF
  split
  · exact h
  rename_i h6
  split
  · exact h
  refine LSim.sim (h.lsim.upd hc) ?_ (by simpa using h6) ⟨h.ok.r0, h.ok.r1⟩ ?_
  · show applyTot S _ = _
    rw [apply_one]
    simp only [List.foldl_cons, List.foldl_nil]
    rw [sumV_upd h.sorted _ hc.z, h.sum]
  · have hl := upd_len h.sorted ⟨k, qty S.L k + n, (f k (qty S.L k + n)).1⟩
    have hlen := h.ok.len
    show (updL S.L ⟨k, qty S.L k + n, (f k (qty S.L k + n)).1⟩).length ≤ 1024
    simp only at hl
    rw [if_neg (show ¬ qty S.L k + n = 0 by omega)] at hl
    cases hh : has S.L k
    · rw [hh] at hl; simp at hl; have : ¬ 1024 ≤ S.L.length := fun e => h4 ⟨hh, e⟩; omega
    · rw [hh] at hl; simp at hl; omega
theorem release_keep {f : ByteArray → Int → Int × Int} {S : PS} (hf : ∀ k q, 0 ≤ q → 0 ≤ (f k q).1 ∧ (f k q).1 ≤ 1000000000000000) (h : Sim f S) (k : ByteArray) (n : Int) : Sim f (releaseF f S k n).2 := by
  unfold releaseF
  split
  · exact h
  rename_i h1
  obtain ⟨hh, n0, n1, n2⟩ := ckRel_zero (Decidable.not_not.1 h1)
  obtain ⟨q0, q1, w0, w1⟩ := h.ok.qty k
  split
  · exact h
  rename_i h5
  have hi : isinB k = true := by
    have e := has_find S.L k
    rw [hh] at e
    cases g : find S.L k with
    | none => rw [g] at e; cases e
    | some x => rw [← (find_mem g).2]; exact h.isin x (find_mem g).1
  have hc : COk f ⟨k, (worthF f k (qty S.L k - n)).1, (worthF f k (qty S.L k - n)).2.1⟩ := by
    rcases worthF_cases f k (qty S.L k - n) with ⟨e, g⟩ | ⟨e, g⟩
    · rw [g]; exact ⟨fun _ => rfl, fun e => absurd rfl e⟩
    · rw [g] at h5 ⊢
      exact ⟨fun e' => absurd e' e, fun _ => ⟨by show 1 ≤ qty S.L k - n; omega, by show qty S.L k - n ≤ _; omega, (hf _ _ (by omega)).1, (hf _ _ (by omega)).2, rfl, Decidable.not_not.1 h5, hi⟩⟩
  unfold applyF
  split
  · exact h
  rename_i h6
  split
  · exact h
  refine LSim.sim (h.lsim.upd hc) ?_ (by simpa using h6) ⟨h.ok.r0, h.ok.r1⟩ ?_
  · show applyTot S _ = _
    rw [apply_one]
    simp only [List.foldl_cons, List.foldl_nil]
    rw [sumV_upd h.sorted _ hc.z, h.sum]
  · have hl := upd_len h.sorted ⟨k, (worthF f k (qty S.L k - n)).1, (worthF f k (qty S.L k - n)).2.1⟩
    have hlen := h.ok.len
    show (updL S.L ⟨k, (worthF f k (qty S.L k - n)).1, (worthF f k (qty S.L k - n)).2.1⟩).length ≤ 1024
    simp only [hh, if_true] at hl
    split at hl <;> omega
theorem require_keep {f : ByteArray → Int → Int × Int} {S : PS} (h : Sim f S) (n : Int) : Sim f (requireF S n).2 := by
  unfold requireF
  split
  · exact h
  rename_i h1
  split
  · exact h
  exact ⟨⟨h.ok.v0, h.ok.v1, by show 0 ≤ n; omega, by show n ≤ _; omega, h.ok.q0, h.ok.q1, h.ok.w0, h.ok.w1, h.ok.len⟩, h.sorted, h.vals, h.sum, h.isin⟩
end Go.Proofs.YtjjnljfphaimgaaGreatDoor.C
/- Plain: the reference's valuer is monotone. -/
namespace Go.Proofs.YtjjnljfphaimgaaGreatDoor.C
open Go Go.RowKit Go.Shelf Go.Proofs

theorem tenth (q n : Int) : q / 10 * n + q % 10 * n / 10 = q * n / 10 := by
  have e : q * n = q % 10 * n + 10 * (q / 10 * n) := by
    have := Int.emod_add_mul_ediv q 10
    calc q * n = (q % 10 + 10 * (q / 10)) * n := by rw [this]
      _ = _ := by rw [Int.add_mul, Int.mul_assoc]
  rw [e, Int.add_mul_ediv_left _ _ (by omega)]
  omega
theorem fV_code (V : VS) (k : ByteArray) (q q' : Int) : (fV V k q).2 = (fV V k q').2 := by
  unfold fV
  split
  · rfl
  · split <;> rfl
theorem fV_mono (V : VS) (k : ByteArray) {q q' : Int} (h0 : 0 ≤ q) (h : q ≤ q') : (fV V k q).1 ≤ (fV V k q').1 := by
  unfold fV
  split
  · exact Int.le_refl _
  · rename_i n e _
    split
    · exact Int.le_refl _
    · simp only
      rw [show max q 0 = q from by omega, show max q' 0 = q' from by omega, tenth, tenth]
      have hr := vnum_range n
      have hm : q * vnum n ≤ q' * vnum n := Int.mul_le_mul_of_nonneg_right h hr.1
      have : q * vnum n / 10 ≤ q' * vnum n / 10 := Int.ediv_le_ediv (by omega) hm
      omega
end Go.Proofs.YtjjnljfphaimgaaGreatDoor.C
/- giroref34.Same. -/
namespace Go.Proofs.YtjjnljfphaimgaaGreatDoor.C
open Go Go.RowKit Go.Shelf Go.Proofs

theorem L_eq (a b : ByteArray) (x y : Int) (w : World) : (Op.equalIn 10000 45 (.agg #[.string a, .int .i64 x]) (.agg #[.string b, .int .i64 y])).run Tryz.prog w = .ok (a == b && x == y) w := by
  refine eq_pair (a := .string a) (b := .string b) (c := .int .i64 x) (d := .int .i64 y) (r := a == b) (s := x == y) Tryz.underlying45 (by kernel_rfl) (by rfl) (by rfl) (by kernel_rfl) (by kernel_rfl) (by kernel_rfl) (by kernel_rfl) ?_ ?_
  · rw [beq_toListBytes]; exact run_equalIn_string _ _ _ _ _ Tryz.underlying9
  · exact run_equalIn_int _ _ _ _ _ _ _ Tryz.underlying2
theorem L_neq (a b : ByteArray) (x y : Int) (w : World) : (binOp .neq 45 (.agg #[.string a, .int .i64 x]) (.agg #[.string b, .int .i64 y])).run Tryz.prog w = .ok (.bool (!(decide (a = b) && decide (x = y)))) w := by
  rw [run_neq_struct, L_eq, ba_beq]
  rfl
def sameF (f g : ByteArray → Int → Int × Int) (S S2 : PS) : Bool :=
  decide (S.owner = S2.owner) && decide (S.req = S2.req) && posEq S.L S2.L && decide ((totF f S.L).1 = (totF g S2.L).1)
theorem posEq_len {L1 L2 : List Hold} (h : L1.length ≠ L2.length) : posEq L1 L2 = false := by
  unfold posEq
  simp only [decide_eq_false_iff_not]
  intro e
  exact h (by simpa using congrArg List.length e)
theorem posEq_at {L1 L2 : List Hold} {k : Nat} (h1 : k < L1.length) (h2 : k < L2.length) (h : ¬ (L1[k].key = L2[k].key ∧ L1[k].q = L2[k].q)) : posEq L1 L2 = false := by
  unfold posEq
  simp only [decide_eq_false_iff_not]
  intro e
  have e1 := congrArg (fun l => l[k]?) e
  simp only [List.getElem?_map, List.getElem?_eq_getElem h1, List.getElem?_eq_getElem h2, Option.map_some, Option.some.injEq, Prod.mk.injEq] at e1
  exact h e1
theorem posEq_all {L1 L2 : List Hold} (hl : L1.length = L2.length) (h : ∀ j (h : j < L1.length) (h' : j < L2.length), (L1[j].key, L1[j].q) = (L2[j].key, L2[j].q)) : posEq L1 L2 = true := by
  unfold posEq
  simp only [decide_eq_true_eq]
  refine List.ext_getElem (by simpa using hl) fun j h1 h2 => ?_
  simpa using h j (by simpa using h1) (by simpa using h2)
theorem cellsOK.at {w : World} {L : List Hold} {g : Nat} (h : cellsOK w L (some ⟨g, 0, none⟩)) {i : Nat} (hi : i < L.length) : w.cell? ⟨g, i * 2, none⟩ = some (.string L[i].key) ∧ w.cell? ⟨g, i * 2 + 1, none⟩ = some (.int .i64 L[i].q) := by
  obtain ⟨g', e, h1, h2⟩ := h i hi
  simp only [Option.some.injEq, Addr.mk.injEq, and_true] at e
  subst e
  exact ⟨h1, h2⟩

set_option maxRecDepth 100000 in
set_option maxHeartbeats 8000000 in
theorem refSame_calls (w : World) (B : Nat) (V V2 : VS) (S S2 : PS) (sl sl2 : Value) (hr : RowAt w B sl S.L) (hr2 : RowAt w B sl2 S2.L) (hv : VAt w B V) (hv2 : VAt w B V2) (hB : B ≤ w.heap.size) (hL : LOk S.L) (hL2 : LOk S2.L) :
    Calls Tryz.prog 25 #[rP V S sl, rP V2 S2 sl2] w fun e w' => e = .returned (.bool (sameF (fV V) (fV V2) S S2)) ∧ Below w.heap.size w w' := by
  obtain ⟨ao, cap, hsl, hc1⟩ := row_open hr
  obtain ⟨ao2, cap2, hsl2, hc2⟩ := row_open hr2
  subst hsl hsl2
  have e1 : (w.alloc (pBox V S (.slice ao S.L.length cap))).heap.size = w.heap.size + 1 := by simp
  have hb := fun (B : Nat) (hB : B ≤ w.heap.size) => ((Below.refl B w).alloc hB (pBox V S (.slice ao S.L.length cap))).alloc (by omega) (pBox V2 S2 (.slice ao2 S2.L.length cap2))
  have HB := Lib.hid (hb _ (Nat.le_refl _))
  have HV := Lib.hid (hv.below (hb _ hB))
  have HV2 := Lib.hid (hv2.below (hb _ hB))
  have HR := Lib.hid (ownsRow_below hr (hb _ (Nat.le_refl _)) (Nat.le_refl _))
  have HR2 := Lib.hid (ownsRow_below hr2 (hb _ (Nat.le_refl _)) (Nat.le_refl _))
  have HC := Lib.hid (hc1.below (hb _ (Nat.le_refl _)))
  have HC2 := Lib.hid (hc2.below (hb _ (Nat.le_refl _)))
  have HX : Hid (boxAt _ w.heap.size V S (.slice ao S.L.length cap)) := Lib.hid (blk_alloc (blk_new w (pBox V S (.slice ao S.L.length cap))) (pBox V2 S2 (.slice ao2 S2.L.length cap2)))
  have HX2 : Hid (boxAt ((w.alloc (pBox V S (.slice ao S.L.length cap))).alloc (pBox V2 S2 (.slice ao2 S2.L.length cap2))) (w.heap.size + 1) V2 S2 (.slice ao2 S2.L.length cap2)) := Lib.hid (by
    have := blk_new (w.alloc (pBox V S (.slice ao S.L.length cap))) (pBox V2 S2 (.slice ao2 S2.L.length cap2))
    rw [e1] at this
    exact this)
  have HL := Lib.hid hL
  have HL2 := Lib.hid hL2
  have hlen := hL.len
  have hlen2 := hL2.len
  clear hb hc1 hc2 hr hr2 hv hv2 hL hL2 e1
  unfold rP
  unfold pBox at HB HV HV2 HR HR2 HC HC2 HX HX2
  go_enter Tryz.func25, Tryz.ntmps25
  go_upto_region 1 with fail
  generalize (w.alloc (.cells #[.string S.owner, V.x0, V.x1, V.x2, .slice ao S.L.length cap, .int .i64 S.req] 38)).alloc (.cells #[.string S2.owner, V2.x0, V2.x1, V2.x2, .slice ao2 S2.L.length cap2, .int .i64 S2.req] 38) = W1 at HB HV HV2 HR HR2 HC HC2 HX HX2 ⊢
  obtain ⟨c0, c1, c2, c3, c4, c5⟩ := six HX.out
  obtain ⟨d0, d1, d2, d3, d4, d5⟩ := six HX2.out
  by_cases ho : S.owner = S2.owner
  · have t1 : (S.owner == S2.owner) = true := by rw [ba_beq]; exact decide_eq_true ho
    have t2 : (S.owner.toList == S2.owner.toList) = true := by rw [ba_beq2]; exact decide_eq_true ho
    have HO := Lib.hid ho
    clear ho
    by_cases hq : S.req = S2.req
    · have hq1 : (S.req != S2.req) = false := by simp [hq]
      have HQ := Lib.hid hq
      clear hq
      by_cases hl : S.L.length = S2.L.length
      · have hl1 : ((S.L.length : Int) != (S2.L.length : Int)) = false := by simp; omega
        have HLL := Lib.hid hl
        clear hl
        go_wp2_with fail
        clear c0 c1 c2 c3 c4 c5 d0 d1 d2 d3 d4 d5
        have hpn := L_neq
        go_loopw [5] (fun v5 wr => ∃ k : Nat, k ≤ S.L.length ∧ v5 = .int .i64 k ∧ Hid (∀ j (h : j < S.L.length) (h' : j < S2.L.length), j < k → (S.L[j].key, S.L[j].q) = (S2.L[j].key, S2.L[j].q)) ∧ Hid (Below W1.heap.size W1 wr)) (fun v5 _ => S.L.length - (intOf v5).toNat)
        case atStart => exact ⟨0, Nat.zero_le _, rfl, Lib.hid (fun j _ _ h => absurd h (by omega)), Lib.hid (Below.refl _ _)⟩
        case round =>
          obtain ⟨k, hk, rfl, HE, HW⟩ := hrel
          have HXr : Hid (boxAt wr w.heap.size V S (.slice ao S.L.length cap)) := Lib.hid (blk_keep HW.out HX.out (Nat.le_refl _))
          have HXr2 : Hid (boxAt wr (w.heap.size + 1) V2 S2 (.slice ao2 S2.L.length cap2)) := Lib.hid (blk_keep HW.out HX2.out (Nat.le_refl _))
          have HBr := Lib.hid (HB.out.trans (HW.out.mono HB.out.size))
          by_cases hlt : k < S.L.length
          · have hlt' : k < S2.L.length := by have := HLL.out; omega
            obtain ⟨g1, rfl, -, -⟩ := HC.out k hlt
            obtain ⟨g2, rfl, -, -⟩ := HC2.out k hlt'
            obtain ⟨x0, x1⟩ := cellsOK.at (HC.out.below HW.out) hlt
            obtain ⟨y0, y1⟩ := cellsOK.at (HC2.out.below HW.out) hlt'
            have c4 := HXr.out.cells.2.2.2
            have d4 := HXr2.out.cells.2.2.2
            by_cases he : S.L[k].key = S2.L[k].key ∧ S.L[k].q = S2.L[k].q
            · have heb1 : decide (S.L[k].key = S2.L[k].key) = true := by simp [he.1]
              have heb2 : decide (S.L[k].q = S2.L[k].q) = true := by simp [he.2]
              have HEX := Lib.hid (show (S.L[k].key, S.L[k].q) = (S2.L[k].key, S2.L[k].q) from by rw [he.1, he.2])
              clear he
              generalize S.L[k].key = a1 at x0 heb1
              generalize S.L[k].q = b1 at x1 heb2
              generalize S2.L[k].key = a2 at y0 heb1
              generalize S2.L[k].q = b2 at y1 heb2
              go_wp2_with fail
              go_quiet (fail)
              go_wp2
              refine ⟨⟨k + 1, by omega, by go_num, Lib.hid (fun j h h' hj => ?_), Lib.hid (bdrewN HW.out nq)⟩, by simp [intOf]; omega⟩
              rcases Nat.lt_or_ge j k with hjk | hjk
              · exact HE.out j h h' hjk
              · obtain rfl : j = k := by omega
                exact HEX.out
            · have HPF : Hid (sameF (fV V) (fV V2) S S2 = false) := Lib.hid (by unfold sameF; rw [posEq_at hlt hlt' he]; simp)
              have heb : (decide (S.L[k].key = S2.L[k].key) && decide (S.L[k].q = S2.L[k].q)) = false := by
                simp only [Bool.and_eq_false_iff, decide_eq_false_iff_not]
                by_cases e : S.L[k].key = S2.L[k].key
                · exact Or.inr fun e' => he ⟨e, e'⟩
                · exact Or.inl e
              clear he
              generalize S.L[k].key = a1 at x0 heb
              generalize S.L[k].q = b1 at x1 heb
              generalize S2.L[k].key = a2 at y0 heb
              generalize S2.L[k].q = b2 at y1 heb
              have hpn' : ∀ w, (binOp .neq 45 (.agg #[.string a1, .int .i64 b1]) (.agg #[.string a2, .int .i64 b2])).run Tryz.prog w = .ok (.bool true) w := fun w => by rw [L_neq, heb]; rfl
              clear hpn
              go_wp2_with fail
              go_quiet (fail)
              go_wp2
              go_ret
              exact ⟨by rw [HPF.out]; rfl, bdrewN HBr.out _⟩
          · obtain rfl : k = S.L.length := by omega
            have HPE : Hid (posEq S.L S2.L = true) := Lib.hid (posEq_all HLL.out fun j h h' => HE.out j h h' h)
            have HSF : Hid (sameF (fV V) (fV V2) S S2 = decide ((totF (fV V) S.L).1 = (totF (fV V2) S2.L).1)) := Lib.hid (by unfold sameF; rw [HPE.out, decide_eq_true HO.out, decide_eq_true HQ.out]; simp)
            obtain ⟨c0, c1, c2, c3, c4, c5⟩ := six HXr.out
            have hBr : B ≤ wr.heap.size := Nat.le_trans hB HBr.out.size
            have HBB := Lib.hid (HW.out.mono (Nat.le_trans hB HB.out.size))
            go_wp2_with fail
            refine (rtotal_calls _ B V S (.slice ao S.L.length cap) (ownsRow_below HR.out HW.out (Nat.le_refl _)) (by omega) (HV.out.below HBB.out) hBr HL.out.q).mono ?_
            rintro e W3 ⟨rfl, hb⟩
            have HW3 := Lib.hid (bstep HW.out hb HW.out.size)
            clear hb c0 c1 c2 c3 c4 c5
            obtain ⟨d0, d1, d2, d3, d4, d5⟩ := six (blk_keep HW3.out HX2.out (Nat.le_refl _))
            have HBB3 := Lib.hid (HW3.out.mono (Nat.le_trans hB HB.out.size))
            go_wp2_with fail
            refine (rtotal_calls _ B V2 S2 (.slice ao2 S2.L.length cap2) (ownsRow_below HR2.out HW3.out (Nat.le_refl _)) (by omega) (HV2.out.below HBB3.out) (Nat.le_trans hB (Nat.le_trans HB.out.size HW3.out.size)) HL2.out.q).mono ?_
            rintro e W4 ⟨rfl, hb⟩
            have HW4 := Lib.hid (bstep HW3.out hb HW3.out.size)
            clear hb d0 d1 d2 d3 d4 d5
            go_wp2_with fail
            go_ret
            refine ⟨?_, HB.out.trans (HW4.out.mono HB.out.size)⟩
            rw [HSF.out]
            generalize (totF (fV V) S.L).1 = ta
            generalize (totF (fV V2) S2.L).1 = tb
            show Ending.returned (.bool (ta == tb)) = _
            by_cases h : ta = tb
            · simp [h]
            · rw [show (ta == tb) = false from by simp [h], decide_eq_false h]
      · have hl1 : ((S.L.length : Int) != (S2.L.length : Int)) = true := by simp; omega
        have HR : Hid (sameF (fV V) (fV V2) S S2 = false) := Lib.hid (by unfold sameF; rw [posEq_len hl]; simp)
        clear hl
        go_wp2_with fail
        go_ret
        exact ⟨by rw [HR.out]; rfl, HB.out⟩
    · have hq1 : (S.req != S2.req) = true := by simp [hq]
      have HR : Hid (sameF (fV V) (fV V2) S S2 = false) := Lib.hid (by unfold sameF; simp [hq])
      clear hq
      go_wp2_with fail
      go_ret
      exact ⟨by rw [HR.out]; rfl, HB.out⟩
  · have t1 : (S.owner == S2.owner) = false := by rw [ba_beq]; exact decide_eq_false ho
    have t2 : (S.owner.toList == S2.owner.toList) = false := by rw [ba_beq2]; exact decide_eq_false ho
    have HR : Hid (sameF (fV V) (fV V2) S S2 = false) := Lib.hid (by unfold sameF; simp [ho])
    clear ho
    go_wp2_with fail
    go_ret
    exact ⟨by rw [HR.out]; rfl, HB.out⟩
end Go.Proofs.YtjjnljfphaimgaaGreatDoor.C
/- Plain: what the laws say of the pool's operations. -/
namespace Go.Proofs.YtjjnljfphaimgaaGreatDoor.C
open Go Go.RowKit Go.Shelf Go.Proofs

theorem find_notin {L : List Hold} {k : ByteArray} (h : ∀ y ∈ L, y.key ≠ k) : find L k = none := by
  unfold find; rw [List.find?_eq_none]; intro x hx; simpa using h x hx
theorem sorted_ext : ∀ {L M : List Hold}, Sorted L → Sorted M → (∀ k, find L k = find M k) → L = M
  | [], [], _, _, _ => rfl
  | [], y :: r, _, _, h => by have := h y.key; rw [find_cons, if_pos rfl] at this; simp [find] at this
  | x :: r, [], _, _, h => by have := h x.key; rw [find_cons, if_pos rfl] at this; simp [find] at this
  | x :: r, y :: s, hx, hy, h => by
    have hx' := List.pairwise_cons.1 hx
    have hy' := List.pairwise_cons.1 hy
    have e : x = y := by
      by_cases hk : x.key = y.key
      · have := h x.key
        rw [find_cons, if_pos rfl, find_cons, if_pos hk.symm] at this
        exact Option.some.inj this
      · exfalso
        have h1 := h x.key
        rw [find_cons, if_pos rfl, find_cons, if_neg (Ne.symm hk)] at h1
        have h2 := h y.key
        rw [find_cons, if_neg hk, find_cons, if_pos rfl] at h2
        have a := hy'.1 x (find_mem h1.symm).1
        have b := hx'.1 y (find_mem h2).1
        rw [kbefore_asymm a] at b
        cases b
    subst e
    rw [sorted_ext hx'.2 hy'.2]
    intro k
    by_cases hk : x.key = k
    · rw [find_notin (by rw [← hk]; exact sorted_tail_ne hx), find_notin (by rw [← hk]; exact sorted_tail_ne hy)]
    · have := h k
      rwa [find_cons, if_neg hk, find_cons, if_neg hk] at this
theorem find_upd (L : List Hold) (x : Hold) (k : ByteArray) : find (updL L x) k = if k = x.key then (if x.q = 0 then none else some x) else find L k := by
  by_cases h : k = x.key
  · rw [if_pos h, h, find_upd_same]
  · rw [if_neg h, find_upd_ne L x k h]
theorem upd_comm {L : List Hold} (hs : Sorted L) {x y : Hold} (h : x.key ≠ y.key) : updL (updL L x) y = updL (updL L y) x := by
  refine sorted_ext (sorted_upd (sorted_upd hs x) y) (sorted_upd (sorted_upd hs y) x) fun k => ?_
  simp only [find_upd]
  by_cases h1 : k = x.key
  · rw [if_neg (by rw [h1]; exact h), if_pos h1, if_pos h1]
  · rw [if_neg h1, if_neg h1]
theorem upd_over {L : List Hold} (hs : Sorted L) {x y : Hold} (h : x.key = y.key) : updL (updL L x) y = updL L y := by
  refine sorted_ext (sorted_upd (sorted_upd hs x) y) (sorted_upd hs y) fun k => ?_
  simp only [find_upd, h]
  by_cases h1 : k = y.key
  · rw [if_pos h1, if_pos h1]
  · rw [if_neg h1, if_neg h1, if_neg h1]
theorem upd_self {L : List Hold} (hs : Sorted L) {x : Hold} (h : find L x.key = if x.q = 0 then none else some x) : updL L x = L := by
  refine sorted_ext (sorted_upd hs x) hs fun k => ?_
  rw [find_upd]
  by_cases h1 : k = x.key
  · rw [if_pos h1, h1, h]
  · rw [if_neg h1]

/-- A valuer's function as the laws use it. -/
structure Mono (f : ByteArray → Int → Int × Int) : Prop where
  rng : ∀ k q, 0 ≤ (f k q).1 ∧ (f k q).1 ≤ 1000000000000000
  mono : ∀ k {q q'}, 0 ≤ q → q ≤ q' → (f k q).1 ≤ (f k q').1
  code : ∀ k q q', (f k q).2 = (f k q').2
theorem fV_ok (V : VS) : Mono (fV V) := ⟨fV_range' V, fun k {_ _} h0 h => fV_mono V k h0 h, fV_code V⟩
theorem Mono.nn {f : ByteArray → Int → Int × Int} (h : Mono f) : ∀ k q, 0 ≤ q → 0 ≤ (f k q).1 ∧ (f k q).1 ≤ 1000000000000000 := fun k q _ => h.rng k q

theorem find_cases {f : ByteArray → Int → Int × Int} {S : PS} (h : Sim f S) (k : ByteArray) :
    (find S.L k = none ∧ has S.L k = false ∧ qty S.L k = 0 ∧ val S.L k = 0) ∨
    (find S.L k = some ⟨k, qty S.L k, val S.L k⟩ ∧ has S.L k = true ∧ 1 ≤ qty S.L k ∧ qty S.L k ≤ 1000000000000000 ∧ (f k (qty S.L k)).1 = val S.L k ∧ (f k (qty S.L k)).2 = 0 ∧ isinB k = true) := by
  cases e : find S.L k with
  | none =>
    refine Or.inl ⟨rfl, ?_, ?_, ?_⟩
    · rw [has_find, e]; rfl
    · unfold qty; rw [e]; rfl
    · unfold val; rw [e]; rfl
  | some x =>
    obtain ⟨hm, hk⟩ := find_mem e
    have h2 : qty S.L k = x.q := by unfold qty; rw [e]; rfl
    have h3 : val S.L k = x.v := by unfold val; rw [e]; rfl
    refine Or.inr ⟨?_, ?_, ?_, ?_, ?_, ?_, ?_⟩
    · rw [h2, h3, ← hk]
    · rw [has_find, e]; rfl
    · rw [h2]; exact h.ok.q0 x hm
    · rw [h2]; exact h.ok.q1 x hm
    · rw [h2, h3, ← hk]; exact (h.vals x hm).1
    · rw [h2, ← hk]; exact (h.vals x hm).2
    · rw [← hk]; exact h.isin x hm
theorem val_le {f : ByteArray → Int → Int × Int} {S : PS} (hf : Mono f) (h : Sim f S) (k : ByteArray) {q : Int} (hq : qty S.L k ≤ q) : val S.L k ≤ (f k q).1 := by
  rcases find_cases h k with ⟨-, -, e1, e2⟩ | ⟨-, -, e1, -, e2, -⟩
  · rw [e2]; exact (hf.rng k q).1
  · rw [← e2]; exact hf.mono k (by omega) hq

abbrev pl (f : ByteArray → Int → Int × Int) (S : PS) (k : ByteArray) (n : Int) : PS :=
  { S with L := updL S.L ⟨k, qty S.L k + n, (f k (qty S.L k + n)).1⟩, value := S.value + ((f k (qty S.L k + n)).1 - val S.L k) }
theorem pledge_of {f : ByteArray → Int → Int × Int} {S : PS} {k : ByteArray} {n : Int} (h1 : isinB k = true) (h2 : 1 ≤ n ∧ n ≤ 1000000000000000) (h3 : qty S.L k + n ≤ 1000000000000000)
    (h4 : has S.L k = false → S.L.length < 1024) (h5 : (f k (qty S.L k + n)).2 = 0) (h6 : S.value + ((f k (qty S.L k + n)).1 - val S.L k) ≤ 1000000000000000) : pledgeF f S k n = (0, pl f S k n) := by
  unfold pledgeF
  rw [if_neg (by rw [h1]; simp), if_neg (fun e => e h2), if_neg (by omega), if_neg (fun e => by have := h4 e.1; omega), if_neg (fun e => e h5)]
  unfold applyF
  rw [apply_one]
  simp only
  rw [if_neg (by omega), if_neg (by simp)]
  rfl
theorem pledge_ok {f : ByteArray → Int → Int × Int} {S : PS} {k : ByteArray} {n : Int} (h : (pledgeF f S k n).1 = 0) :
    isinB k = true ∧ (1 ≤ n ∧ n ≤ 1000000000000000) ∧ qty S.L k + n ≤ 1000000000000000 ∧ (has S.L k = false → S.L.length < 1024) ∧ (f k (qty S.L k + n)).2 = 0 ∧
    S.value + ((f k (qty S.L k + n)).1 - val S.L k) ≤ 1000000000000000 ∧ (pledgeF f S k n).2 = pl f S k n := by
  have h0 := h
  unfold pledgeF at h
  split at h
  · cases h
  rename_i h1
  split at h
  · cases h
  rename_i h2
  split at h
  · cases h
  rename_i h3
  split at h
  · cases h
  rename_i h4
  split at h
  · rename_i h5; exact absurd h h5
  rename_i h5
  unfold applyF at h
  rw [apply_one] at h
  simp only at h
  split at h
  · cases h
  rename_i h6
  have g1 : isinB k = true := by simpa using h1
  have g2 := Decidable.not_not.1 h2
  have g3 : qty S.L k + n ≤ 1000000000000000 := by omega
  have g4 : has S.L k = false → S.L.length < 1024 := fun e => by have : ¬ 1024 ≤ S.L.length := fun e' => h4 ⟨e, e'⟩; omega
  have g5 := Decidable.not_not.1 h5
  have g6 : S.value + ((f k (qty S.L k + n)).1 - val S.L k) ≤ 1000000000000000 := by omega
  exact ⟨g1, g2, g3, g4, g5, g6, by rw [pledge_of g1 g2 g3 g4 g5 g6]⟩
abbrev cR (f : ByteArray → Int → Int × Int) (S : PS) (k : ByteArray) (n : Int) : Hold := ⟨k, (worthF f k (qty S.L k - n)).1, (worthF f k (qty S.L k - n)).2.1⟩
abbrev rl (f : ByteArray → Int → Int × Int) (S : PS) (k : ByteArray) (n : Int) : PS :=
  { S with L := updL S.L (cR f S k n), value := S.value + ((cR f S k n).v - val S.L k) }
theorem release_of {f : ByteArray → Int → Int × Int} {S : PS} {k : ByteArray} {n : Int} (h1 : has S.L k = true) (h2 : 1 ≤ n ∧ n ≤ 1000000000000000) (h3 : n ≤ qty S.L k)
    (h4 : (worthF f k (qty S.L k - n)).2.2 = 0) (h5 : S.value + ((cR f S k n).v - val S.L k) ≤ 1000000000000000) (h6 : S.req ≤ S.value + ((cR f S k n).v - val S.L k)) : releaseF f S k n = (0, rl f S k n) := by
  unfold releaseF
  have hc : ckRel S.L k n = 0 := by unfold ckRel; rw [h1]; simp [h2]; omega
  rw [if_neg (by rw [hc]; simp), if_neg (by rw [h4]; simp)]
  unfold applyF
  rw [apply_one]
  simp only
  rw [if_neg (by simp only at h5; omega), if_neg (by simp only at h6; simp; omega)]
  rfl
theorem release_ok {f : ByteArray → Int → Int × Int} {S : PS} {k : ByteArray} {n : Int} (h : (releaseF f S k n).1 = 0) :
    has S.L k = true ∧ (1 ≤ n ∧ n ≤ 1000000000000000) ∧ n ≤ qty S.L k ∧ (worthF f k (qty S.L k - n)).2.2 = 0 ∧ S.value + ((cR f S k n).v - val S.L k) ≤ 1000000000000000 ∧
    S.req ≤ S.value + ((cR f S k n).v - val S.L k) ∧ (releaseF f S k n).2 = rl f S k n := by
  unfold releaseF at h
  split at h
  · rename_i h1; exact absurd h h1
  rename_i h1
  obtain ⟨g1, g2, g3, g4⟩ := ckRel_zero (Decidable.not_not.1 h1)
  split at h
  · rename_i h5; exact absurd h h5
  rename_i h5
  unfold applyF at h
  rw [apply_one] at h
  simp only at h
  split at h
  · cases h
  rename_i h6
  split at h
  · cases h
  rename_i h7
  have g5 := Decidable.not_not.1 h5
  have g6 : S.value + ((cR f S k n).v - val S.L k) ≤ 1000000000000000 := by show S.value + ((worthF f k (qty S.L k - n)).2.1 - val S.L k) ≤ _; omega
  have g7 : S.req ≤ S.value + ((cR f S k n).v - val S.L k) := by show _ ≤ S.value + ((worthF f k (qty S.L k - n)).2.1 - val S.L k); simp at h7; omega
  exact ⟨g1, ⟨g2, g3⟩, g4, g5, g6, g7, by rw [release_of g1 ⟨g2, g3⟩ g4 g5 g6 g7]⟩

/-- Releasing what was pledged restores the pool. -/
theorem pledge_release {f : ByteArray → Int → Int × Int} {S : PS} {k : ByteArray} {n : Int} (hs : Sim f S) (h : (pledgeF f S k n).1 = 0) (hr : S.req ≤ S.value) : releaseF f (pledgeF f S k n).2 k n = (0, S) := by
  obtain ⟨h1, h2, h3, h4, h5, h6, h7⟩ := pledge_ok h
  rw [h7]
  have hv1 := hs.ok.v1
  have hq : qty (pl f S k n).L k = qty S.L k + n := qty_upd_same S.L ⟨k, qty S.L k + n, (f k (qty S.L k + n)).1⟩
  have q0 : 0 ≤ qty S.L k := (hs.ok.qty k).1
  have hfd : find (pl f S k n).L k = some ⟨k, qty S.L k + n, (f k (qty S.L k + n)).1⟩ := by
    rw [find_upd, if_pos rfl, if_neg (by show ¬ qty S.L k + n = 0; omega)]
  have hh : has (pl f S k n).L k = true := by rw [has_find, hfd]; rfl
  have hv : val (pl f S k n).L k = (f k (qty S.L k + n)).1 := by unfold val; rw [hfd]; rfl
  have hw : worthF f k (qty S.L k) = (qty S.L k, val S.L k, 0) := by
    rcases find_cases hs k with ⟨-, -, e1, e2⟩ | ⟨-, -, e1, -, e2, e3, -⟩
    · rw [e1, e2]; rfl
    · unfold worthF; rw [if_neg (by omega), e2, e3]
  have hc : cR f (pl f S k n) k n = ⟨k, qty S.L k, val S.L k⟩ := by
    show (⟨k, (worthF f k (qty (pl f S k n).L k - n)).1, (worthF f k (qty (pl f S k n).L k - n)).2.1⟩ : Hold) = _
    rw [hq, show qty S.L k + n - n = qty S.L k from by omega, hw]
  have ht : (pl f S k n).value + ((cR f (pl f S k n) k n).v - val (pl f S k n).L k) = S.value := by
    rw [hc, hv]; simp only; omega
  rw [release_of hh h2 (by rw [hq]; omega) (by rw [hq, show qty S.L k + n - n = qty S.L k from by omega, hw]) (by rw [ht]; exact hv1) (by rw [ht]; exact hr)]
  show (0, { S with L := updL (updL S.L _) (cR f (pl f S k n) k n), value := (pl f S k n).value + ((cR f (pl f S k n) k n).v - val (pl f S k n).L k) }) = (0, S)
  rw [ht, hc, upd_over hs.sorted (x := ⟨k, qty S.L k + n, (f k (qty S.L k + n)).1⟩) (y := ⟨k, qty S.L k, val S.L k⟩) rfl, upd_self hs.sorted]
  rcases find_cases hs k with ⟨e0, -, e1, e2⟩ | ⟨e0, -, e1, -⟩
  · show find S.L k = if qty S.L k = 0 then none else _
    rw [e0, if_pos e1]
  · show find S.L k = if qty S.L k = 0 then none else _
    rw [if_neg (by omega)]; exact e0
theorem pledge_val {f : ByteArray → Int → Int × Int} {S : PS} {k : ByteArray} {n : Int} (hf : Mono f) (hs : Sim f S) (h : (pledgeF f S k n).1 = 0) : S.value ≤ (pledgeF f S k n).2.value := by
  obtain ⟨h1, h2, h3, h4, h5, h6, h7⟩ := pledge_ok h
  rw [h7]
  have := val_le hf hs k (q := qty S.L k + n) (by omega)
  show S.value ≤ S.value + _; omega
theorem has_upd (L : List Hold) (x : Hold) (k : ByteArray) : has (updL L x) k = if k = x.key then !decide (x.q = 0) else has L k := by
  rw [has_find, find_upd]
  by_cases h : k = x.key
  · rw [if_pos h, if_pos h]; by_cases h' : x.q = 0 <;> simp [h']
  · rw [if_neg h, if_neg h, has_find]
/-- The order of two pledges does not matter. -/
theorem pledge_order {f : ByteArray → Int → Int × Int} {S : PS} {a b : ByteArray} {m n : Int} (hf : Mono f) (hs : Sim f S) (h : (pledgeF f S a m).1 = 0) (h' : (pledgeF f (pledgeF f S a m).2 b n).1 = 0) :
    (pledgeF f S b n).1 = 0 ∧ pledgeF f (pledgeF f S b n).2 a m = (0, (pledgeF f (pledgeF f S a m).2 b n).2) := by
  have k1 := pledge_keep hf.nn hs a m
  have k2 := pledge_keep hf.nn k1 b n
  obtain ⟨p1, p2, p3, p4, p5, p6, p7⟩ := pledge_ok h
  obtain ⟨q1, q2, q3, q4, q5, q6, q7⟩ := pledge_ok h'
  have hl := k2.ok.len
  have qa := (hs.ok.qty a).1
  have qb := (hs.ok.qty b).1
  rw [p7] at q3 q4 q5 q6 q7 hl ⊢
  rw [q7] at hl ⊢
  have va := val_le hf hs a (q := qty S.L a + m) (by omega)
  by_cases e : b = a
  · subst e
    have hq : qty (pl f S b m).L b = qty S.L b + m := qty_upd_same S.L ⟨b, qty S.L b + m, (f b (qty S.L b + m)).1⟩
    have hq' : qty (pl f S b n).L b = qty S.L b + n := qty_upd_same S.L ⟨b, qty S.L b + n, (f b (qty S.L b + n)).1⟩
    have hfd : find (pl f S b m).L b = some ⟨b, qty S.L b + m, (f b (qty S.L b + m)).1⟩ := by
      rw [find_upd, if_pos rfl, if_neg (by show ¬ qty S.L b + m = 0; omega)]
    have hv : val (pl f S b m).L b = (f b (qty S.L b + m)).1 := by unfold val; rw [hfd]; rfl
    have hfd' : find (pl f S b n).L b = some ⟨b, qty S.L b + n, (f b (qty S.L b + n)).1⟩ := by
      rw [find_upd, if_pos rfl, if_neg (by show ¬ qty S.L b + n = 0; omega)]
    have hv' : val (pl f S b n).L b = (f b (qty S.L b + n)).1 := by unfold val; rw [hfd']; rfl
    have hh' : has (pl f S b n).L b = true := by rw [has_find, hfd']; rfl
    rw [hq] at q3 q5 q6
    rw [hv] at q6
    have q6' : S.value + ((f b (qty S.L b + m + n)).1 - val S.L b) ≤ 1000000000000000 := by
      have : (pl f S b m).value = S.value + ((f b (qty S.L b + m)).1 - val S.L b) := rfl
      omega
    have mo := hf.mono b (q := qty S.L b + n) (q' := qty S.L b + m + n) (by omega) (by omega)
    have b1 : pledgeF f S b n = (0, pl f S b n) := pledge_of p1 q2 (by omega) p4 (by rw [hf.code b _ (qty S.L b + m)]; exact p5) (by omega)
    rw [b1]
    refine ⟨rfl, ?_⟩
    have es : qty S.L b + n + m = qty S.L b + m + n := by omega
    rw [pledge_of p1 p2 (by rw [hq']; omega) (fun e => by rw [hh'] at e; cases e) (by rw [hf.code b _ (qty S.L b + m)]; exact p5)
      (by rw [hq', hv', es]; show S.value + ((f b (qty S.L b + n)).1 - val S.L b) + _ ≤ _; omega)]
    show (0, ({ S with L := updL (updL S.L _) ⟨b, qty (pl f S b n).L b + m, (f b (qty (pl f S b n).L b + m)).1⟩, value := (pl f S b n).value + ((f b (qty (pl f S b n).L b + m)).1 - val (pl f S b n).L b) } : PS))
      = (0, ({ S with L := updL (updL S.L _) ⟨b, qty (pl f S b m).L b + n, (f b (qty (pl f S b m).L b + n)).1⟩, value := (pl f S b m).value + ((f b (qty (pl f S b m).L b + n)).1 - val (pl f S b m).L b) } : PS))
    rw [hq, hq', hv, hv', es, upd_over hs.sorted (x := ⟨b, qty S.L b + n, (f b (qty S.L b + n)).1⟩) (y := ⟨b, qty S.L b + m + n, (f b (qty S.L b + m + n)).1⟩) rfl, upd_over hs.sorted (x := ⟨b, qty S.L b + m, (f b (qty S.L b + m)).1⟩) (y := ⟨b, qty S.L b + m + n, (f b (qty S.L b + m + n)).1⟩) rfl]
    have ev : (pl f S b n).value + ((f b (qty S.L b + m + n)).1 - (f b (qty S.L b + n)).1) = (pl f S b m).value + ((f b (qty S.L b + m + n)).1 - (f b (qty S.L b + m)).1) := by
      show S.value + _ + _ = S.value + _ + _; omega
    rw [ev]
  · have e' : a ≠ b := fun h => e h.symm
    have hqb : qty (pl f S a m).L b = qty S.L b := qty_upd_ne S.L _ b e
    have hvb : val (pl f S a m).L b = val S.L b := val_upd_ne S.L _ b e
    have hhb : has (pl f S a m).L b = has S.L b := has_upd_ne S.L _ b e
    have hqa : qty (pl f S b n).L a = qty S.L a := qty_upd_ne S.L _ a e'
    have hva : val (pl f S b n).L a = val S.L a := val_upd_ne S.L _ a e'
    have hha : has (pl f S b n).L a = has S.L a := has_upd_ne S.L _ a e'
    rw [hqb] at q3 q5 q6
    rw [hvb] at q6
    rw [hhb] at q4
    have q6' : S.value + ((f a (qty S.L a + m)).1 - val S.L a) + ((f b (qty S.L b + n)).1 - val S.L b) ≤ 1000000000000000 := q6
    have l1 := upd_len hs.sorted ⟨a, qty S.L a + m, (f a (qty S.L a + m)).1⟩
    have l1b := upd_len hs.sorted ⟨b, qty S.L b + n, (f b (qty S.L b + n)).1⟩
    have l2 := upd_len k1.sorted ⟨b, qty S.L b + n, (f b (qty S.L b + n)).1⟩
    rw [p7] at l2
    simp only at l1 l1b
    rw [if_neg (show ¬ qty S.L a + m = 0 by omega)] at l1
    rw [if_neg (show ¬ qty S.L b + n = 0 by omega)] at l1b
    have l2' : ((updL (pl f S a m).L ⟨b, qty S.L b + n, (f b (qty S.L b + n)).1⟩).length : Int) = (pl f S a m).L.length - (if has S.L b = true then 1 else 0) + 1 := by
      rw [l2]; simp only; rw [hhb, if_neg (by omega : ¬ qty S.L b + n = 0)]
    have hl' : (updL (pl f S a m).L ⟨b, qty S.L b + n, (f b (qty S.L b + n)).1⟩).length ≤ 1024 := by
      have : ({ pl f S a m with L := updL (pl f S a m).L ⟨b, qty (pl f S a m).L b + n, (f b (qty (pl f S a m).L b + n)).1⟩ } : PS).L.length ≤ 1024 := hl
      simp only at this
      rwa [hqb] at this
    have l1' : ((pl f S a m).L.length : Int) = S.L.length - (if has S.L a = true then 1 else 0) + 1 := l1
    have l1b' : ((pl f S b n).L.length : Int) = S.L.length - (if has S.L b = true then 1 else 0) + 1 := l1b
    have b1 : pledgeF f S b n = (0, pl f S b n) := pledge_of q1 q2 q3 (fun eb => by
      have := q4 eb
      split at l1' <;> omega) q5 (by omega)
    rw [b1]
    refine ⟨rfl, ?_⟩
    rw [pledge_of p1 p2 (by rw [hqa]; exact p3) (fun ea => by
        rw [hha] at ea
        rw [ea, if_neg Bool.false_ne_true] at l1'
        have hl2 : ((updL (pl f S a m).L ⟨b, qty S.L b + n, (f b (qty S.L b + n)).1⟩).length : Int) ≤ 1024 := Int.ofNat_le.2 hl'
        rw [l2'] at hl2
        show (pl f S b n).L.length < 1024
        omega) (by rw [hqa]; exact p5)
      (by rw [hqa, hva]; show S.value + ((f b (qty S.L b + n)).1 - val S.L b) + _ ≤ _; omega)]
    show (0, ({ S with L := updL (updL S.L _) ⟨a, qty (pl f S b n).L a + m, (f a (qty (pl f S b n).L a + m)).1⟩, value := (pl f S b n).value + ((f a (qty (pl f S b n).L a + m)).1 - val (pl f S b n).L a) } : PS))
      = (0, ({ S with L := updL (updL S.L _) ⟨b, qty (pl f S a m).L b + n, (f b (qty (pl f S a m).L b + n)).1⟩, value := (pl f S a m).value + ((f b (qty (pl f S a m).L b + n)).1 - val (pl f S a m).L b) } : PS))
    rw [hqb, hqa, hvb, hva, upd_comm hs.sorted (x := ⟨b, qty S.L b + n, (f b (qty S.L b + n)).1⟩) (y := ⟨a, qty S.L a + m, (f a (qty S.L a + m)).1⟩) e]
    have ev : (pl f S b n).value + ((f a (qty S.L a + m)).1 - val S.L a) = (pl f S a m).value + ((f b (qty S.L b + n)).1 - val S.L b) := by
      show S.value + _ + _ = S.value + _ + _; omega
    rw [ev]
end Go.Proofs.YtjjnljfphaimgaaGreatDoor.C
/- girolaw34.few. -/
namespace Go.Proofs.YtjjnljfphaimgaaGreatDoor.C
open Go Go.RowKit Go.Shelf Go.Proofs

def fewB (V : VS) : Bool := decide (V.l0.length ≤ 10) && decide (V.l1.length ≤ 10) && decide (V.l2.length ≤ 10)
set_option maxRecDepth 100000 in
set_option maxHeartbeats 2000000 in
theorem few_calls (w : World) (V : VS) (h0 : V.l0.length ≤ maxLen) (h1 : V.l1.length ≤ maxLen) (h2 : V.l2.length ≤ maxLen) :
    Calls Tryz.prog 10 #[.agg #[V.x0, V.x1, V.x2]] w fun e w' => e = .returned (.bool (fewB V)) ∧ Below w.heap.size w w' := by
  unfold maxLen at h0 h1 h2
  unfold VS.x0 VS.x1 VS.x2
  have HB := Lib.hid ((Below.refl w.heap.size w).alloc (Nat.le_refl _) (.cells #[.slice V.a0 V.l0.length V.c0, .slice V.a1 V.l1.length V.c1, .slice V.a2 V.l2.length V.c2] 26))
  by_cases g0 : V.l0.length ≤ 10
  all_goals by_cases g1 : V.l1.length ≤ 10
  all_goals by_cases g2 : V.l2.length ≤ 10
  all_goals go_enter Tryz.func10, Tryz.ntmps10
  all_goals go_wp2
  all_goals go_ret
  all_goals exact ⟨by simp [fewB, g0, g1, g2]; try omega, HB.out⟩
end Go.Proofs.YtjjnljfphaimgaaGreatDoor.C
/- Words for girolaw34's pair of a pool and its reference. -/
namespace Go.Proofs.YtjjnljfphaimgaaGreatDoor.C
open Go Go.RowKit Go.Shelf Go.Proofs

abbrev aggV (V : VS) : Value := .agg #[V.x0, V.x1, V.x2]
def vlOf (V : VS) : Value := .iface 35 (aggV V)
theorem isValuer_prices {w0 : World} {V : VS} (h : VAt w0 w0.heap.size V) : IsValuer 35 (aggV V) w0.heap.size w0 (fV V) 135 (aggV V) where
  ahead := fun w n => by kernel_rfl
  meth := fun w n => by kernel_rfl
  enters := enters_of Tryz.func135 (by kernel_rfl) rfl
  calls := fun w o a q hb h0 h1 => pvalue_calls w w0.heap.size V o a q (h.below hb) hb.size (by omega) h1
/-- A pool and its reference in one state; what lay before w0 is untouched. -/
structure Pair (w0 w : World) (p m : Nat) (V : VS) (S : PS) (sl : Value) : Prop where
  pool : PoolAt w p m S
  vl : S.vl = vlOf V
  row : RowAt w w0.heap.size sl S.L
  v0 : VAt w0 w0.heap.size V
  sim : Sim (fV V) S
  base : Below w0.heap.size w0 w
  hp : w0.heap.size ≤ p
  hm : w0.heap.size ≤ m
theorem PoolAt.fr {w w' : World} {p m q n : Nat} {S : PS} (h : PoolAt w q n S) (hF : Fr p m w w') (h1 : q ≠ p) (h2 : q ≠ m) (h3 : n ≠ p) (h4 : n ≠ m) : PoolAt w' q n S :=
  ⟨(hF.block q h.lt h1 h2).trans h.1, h.2.kept (hF.block n h.2.lt h3 h4)⟩
theorem row_block {w : World} {B : Nat} {sl : Value} {L : List Hold} (h : RowAt w B sl L) {p m : Nat} {S : PS} (hP : PoolAt w p m S) :
    (sl = .slice none 0 0 ∧ L = []) ∨ ∃ g cap cur, sl = .slice (some ⟨g, 0, none⟩) L.length cap ∧ w.heap[g]? = some (.cells cur 45 (0, 0)) ∧ g ≠ p ∧ g ≠ m := by
  obtain ⟨h1, h2⟩ := h
  rcases h2 with ⟨e1, e2⟩ | ⟨g, cap, cur, e, e2, e3, _⟩
  · refine Or.inl ⟨e1, ?_⟩
    have := posRow_length L
    rw [e2] at this
    simp at this
    exact List.length_eq_zero_iff.1 (by omega)
  · refine Or.inr ⟨g, cap, cur, e, e3, ?_, ?_⟩
    · rintro rfl
      have := hP.1
      rw [e3] at this
      simp at this
    · rintro rfl
      obtain ⟨es, clock, hb, r⟩ := hP.2
      rw [e3] at hb
      simp at hb
theorem row_fr {w w' : World} {B p m : Nat} {sl : Value} {L : List Hold} {S : PS} (h : RowAt w B sl L) (hP : PoolAt w p m S) (hF : Fr p m w w') : RowAt w' B sl L := by
  have hb := row_block h hP
  obtain ⟨h1, h2⟩ := h
  refine ⟨h1, ?_⟩
  rcases h2 with h2 | ⟨g, cap, cur, e, e2, e3, e4⟩
  · exact Or.inl h2
  · rcases hb with ⟨f1, -⟩ | ⟨g', cap', cur', f1, f2, f3, f4⟩
    · rw [e] at f1; simp at f1
    · rw [e] at f1
      simp only [Value.slice.injEq, Option.some.injEq, Addr.mk.injEq] at f1
      obtain ⟨⟨rfl, -⟩, -⟩ := f1
      exact Or.inr ⟨g, cap, cur, e, e2, (hF.block g (blk_lt e3) f3 f4).trans e3, e4⟩
theorem Pair.lok {w0 w : World} {p m : Nat} {V : VS} {S : PS} {sl : Value} (h : Pair w0 w p m V S sl) : LOk S.L :=
  ⟨h.sim.ok.len, h.pool.2.keysize, fun x hx => ⟨by have := h.sim.ok.q0 x hx; omega, h.sim.ok.q1 x hx⟩⟩
theorem Pair.below {w0 w w' : World} {p m : Nat} {V : VS} {S : PS} {sl : Value} (h : Pair w0 w p m V S sl) (hb : Below w.heap.size w w') : Pair w0 w' p m V S sl :=
  ⟨h.pool.below hb h.pool.lt h.pool.2.lt, h.vl, ownsRow_below h.row hb (Nat.le_refl _), h.v0, h.sim, bstep h.base hb h.base.size, h.hp, h.hm⟩
theorem Pair.v {w0 w : World} {p m : Nat} {V : VS} {S : PS} {sl : Value} (h : Pair w0 w p m V S sl) : VAt w w0.heap.size V := h.v0.below h.base
/-- One operation of girolaw34. -/
structure OpS where
  kd : Int
  ak : ByteArray
  aq : Int
  bk : ByteArray
  bq : Int
  n : Int
  V : VS
structure OpS.Ok (o : OpS) : Prop where
  k0 : 0 ≤ o.kd
  k1 : o.kd ≤ 255
  ka : o.ak.size ≤ maxLen
  kb : o.bk.size ≤ maxLen
  a0 : -9223372036854775808 ≤ o.aq
  a1 : o.aq ≤ 9223372036854775807
  b0 : -9223372036854775808 ≤ o.bq
  b1 : o.bq ≤ 9223372036854775807
  n0 : -9223372036854775808 ≤ o.n
  n1 : o.n ≤ 9223372036854775807
  l0 : o.V.l0.length ≤ maxLen
  l1 : o.V.l1.length ≤ maxLen
  l2 : o.V.l2.length ≤ maxLen
def OpS.val (o : OpS) : Value := .agg #[.int .u8 o.kd, .string o.ak, .int .i64 o.aq, .string o.bk, .int .i64 o.bq, .int .i64 o.n, o.V.x0, o.V.x1, o.V.x2]
def OpS.cells (o : OpS) : Array Value := #[.int .u8 o.kd, .string o.ak, .int .i64 o.aq, .string o.bk, .int .i64 o.bq, .int .i64 o.n, o.V.x0, o.V.x1, o.V.x2]
def OpS.box (o : OpS) : Obj := .cells o.cells 47
/-- What an operation does to a valuer and a pool. -/
noncomputable def doF (o : OpS) (V : VS) (S : PS) : VS × PS :=
  if o.kd % 5 = 0 then (V, (pledgeF (fV V) S o.ak o.aq).2)
  else if o.kd % 5 = 1 then (V, (releaseF (fV V) S o.ak o.aq).2)
  else if o.kd % 5 = 2 then (V, (requireF S o.n).2)
  else if o.kd % 5 = 3 then (V, (substF (fV V) S o.ak o.aq o.bk o.bq).2)
  else if fewB o.V = true then (if (revalueF (fV o.V) S (vlOf o.V)).1 = 0 then o.V else V, (revalueF (fV o.V) S (vlOf o.V)).2)
  else (V, S)
def DoPost (w0 w : World) (p m : Nat) (r : VS × PS) (e : Ending) (w' : World) : Prop :=
  ∃ m' sl', e = .returned (.tuple #[rP r.1 r.2 sl', .bool true]) ∧ Pair w0 w' p m' r.1 r.2 sl' ∧ Fr p m w w' ∧ (m' = m ∨ w.heap.size ≤ m')
theorem Fr.up {p m : Nat} {w w' w0 : World} (h : Fr p m w w') (hb : Below w0.heap.size w0 w) (hp : w0.heap.size ≤ p) (hm : w0.heap.size ≤ m) : Below w0.heap.size w0 w' :=
  hb.trans (h.below hp hm hb.size)
theorem apply_vl (S : PS) (c : Bool) (cs : List Hold) : (applyF S c cs).2.vl = S.vl ∧ (applyF S c cs).2.owner = S.owner := by
  unfold applyF; split
  · exact ⟨rfl, rfl⟩
  · split <;> exact ⟨rfl, rfl⟩
theorem pledge_vl (f : ByteArray → Int → Int × Int) (S : PS) (k : ByteArray) (n : Int) : (pledgeF f S k n).2.vl = S.vl ∧ (pledgeF f S k n).2.owner = S.owner := by
  unfold pledgeF
  repeat' split
  all_goals first | exact ⟨rfl, rfl⟩ | exact apply_vl _ _ _
theorem release_vl (f : ByteArray → Int → Int × Int) (S : PS) (k : ByteArray) (n : Int) : (releaseF f S k n).2.vl = S.vl ∧ (releaseF f S k n).2.owner = S.owner := by
  unfold releaseF
  repeat' split
  all_goals first | exact ⟨rfl, rfl⟩ | exact apply_vl _ _ _
theorem require_vl (S : PS) (n : Int) : (requireF S n).2.vl = S.vl ∧ (requireF S n).2.owner = S.owner := by
  unfold requireF
  repeat' split
  all_goals exact ⟨rfl, rfl⟩
theorem subst_vl (f : ByteArray → Int → Int × Int) (S : PS) (ok : ByteArray) (oq : Int) (ik : ByteArray) (iq : Int) : (substF f S ok oq ik iq).2.vl = S.vl ∧ (substF f S ok oq ik iq).2.owner = S.owner := by
  unfold substF
  split
  · exact ⟨rfl, rfl⟩
  split
  · exact ⟨rfl, rfl⟩
  split
  · exact ⟨rfl, rfl⟩
  split
  · exact ⟨rfl, rfl⟩
  split
  · exact ⟨rfl, rfl⟩
  by_cases h6 : 1024 < (S.L.length : Int) + (if has S.L ik = true then 0 else 1) - (if qty S.L ok - oq = 0 then 1 else 0)
  · rw [if_pos h6]; exact ⟨rfl, rfl⟩
  rw [if_neg h6]
  split
  · exact ⟨rfl, rfl⟩
  split
  · exact ⟨rfl, rfl⟩
  exact apply_vl _ _ _
end Go.Proofs.YtjjnljfphaimgaaGreatDoor.C
