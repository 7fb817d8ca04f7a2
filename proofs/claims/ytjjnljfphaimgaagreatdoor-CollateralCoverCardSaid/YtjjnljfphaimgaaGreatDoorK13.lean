/- Contracts and plain laws, without conditions beyond each theorem's own: Plain: Substitute, Revalue; agreement is kept. Plain: Substitute and Revalue keep agreement; the codes of Revalue. Plain: MaxRelease, Substitute, Revalue, cover, Equal. girolaw34.do: a release, a required amount, a substitution. -/
import Derived.Test.YtjjnljfphaimgaaGreatDoorK10
import Derived.Test.YtjjnljfphaimgaaGreatDoorK11
import Derived.Test.YtjjnljfphaimgaaGreatDoorK12
set_option linter.all false
/- Plain: Substitute, Revalue; agreement is kept. -/
namespace Go.Proofs.YtjjnljfphaimgaaGreatDoor.C
open Go Go.RowKit Go.Shelf Go.Proofs

theorem updL_zero (L : List Hold) (k : ByteArray) (v v' : Int) : updL L ⟨k, 0, v⟩ = updL L ⟨k, 0, v'⟩ := rfl
theorem apply_two (S : PS) (c e : Hold) : applyTot S [c, e] = S.value + (c.v - val S.L c.key) + (e.v - val S.L e.key) := rfl
set_option maxHeartbeats 1000000 in
theorem subst_sim {f : ByteArray → Int → Int × Int} {S : PS} (h : Sim f S) (ok : ByteArray) (oq : Int) (ik : ByteArray) (iq : Int) : refSubst f S ok oq ik iq = substF f S ok oq ik iq := by
  obtain ⟨q0, q1, w0, w1⟩ := h.ok.qty ik
  unfold refSubst substF
  rw [h.takes]
  by_cases h1 : ckRel S.L ok oq ≠ 0
  · rw [if_pos h1, if_pos h1]
  rw [if_neg h1, if_neg h1]
  have h1' : ckRel S.L ok oq = 0 := Decidable.not_not.1 h1
  obtain ⟨hh, n0, n1, n2⟩ := ckRel_zero h1'
  by_cases h2 : isinB ik = false
  · rw [if_pos h2, if_pos h2]
  rw [if_neg h2, if_neg h2]
  by_cases h3 : ik = ok
  · rw [if_pos h3, if_pos h3]
  rw [if_neg h3, if_neg h3]
  by_cases h4 : ¬ (1 ≤ iq ∧ iq ≤ 1000000000000000)
  · rw [if_pos h4, if_pos h4]
  rw [if_neg h4, if_neg h4]
  have h4' : 1 ≤ iq ∧ iq ≤ 1000000000000000 := Decidable.not_not.1 h4
  by_cases h5 : 1000000000000000 < qty S.L ik + iq
  · rw [if_pos h5, if_pos (show 1000000000000000 - iq < qty S.L ik by omega)]
  rw [if_neg h5, if_neg (show ¬ 1000000000000000 - iq < qty S.L ik by omega)]
  simp only
  have hw : ∃ c : Hold, c = ⟨ok, (worthF f ok (qty S.L ok - oq)).1, (worthF f ok (qty S.L ok - oq)).2.1⟩ := ⟨_, rfl⟩
  obtain ⟨c, hc⟩ := hw
  have hcq : c.q = qty S.L ok - oq := by
    rw [hc]; rcases worthF_cases f ok (qty S.L ok - oq) with ⟨e, g⟩ | ⟨e, g⟩
    · rw [g]; exact e.symm
    · rw [g]
  have hck : c.key = ok := by rw [hc]
  have hcv : c.q = 0 → c.v = 0 := by
    rw [hcq]; intro e; rw [hc]; simp [worthF, e]
  have hR1 : wrest ⟨ok, qty S.L ok - oq, (f ok (qty S.L ok - oq)).1⟩ (qty S.L ok - oq == 0) S.L = updL S.L c := by
    rw [wrest_upd ⟨ok, qty S.L ok - oq, (f ok (qty S.L ok - oq)).1⟩ S.L h.sorted, hc]
    rcases worthF_cases f ok (qty S.L ok - oq) with ⟨e, g⟩ | ⟨e, g⟩
    · rw [g, e]; rfl
    · rw [g]
  rw [hR1, wrest_upd ⟨ik, qty S.L ik + iq, (f ik (qty S.L ik + iq)).1⟩ _ (sorted_upd h.sorted c), ← hc]
  have he0 : ¬ qty S.L ik + iq = 0 := by omega
  have hl1 := upd_len h.sorted c
  have hl2 := upd_len (sorted_upd h.sorted c) ⟨ik, qty S.L ik + iq, (f ik (qty S.L ik + iq)).1⟩
  simp only at hl2
  rw [has_upd_ne _ c ik (by rw [hck]; exact h3), if_neg he0, hl1, hck, hh, hcq] at hl2
  by_cases h6 : 1024 < (S.L.length : Int) + (if has S.L ik = true then 0 else 1) - (if qty S.L ok - oq = 0 then 1 else 0)
  · rw [if_pos h6, if_pos (show 1024 < (updL (updL S.L c) ⟨ik, qty S.L ik + iq, (f ik (qty S.L ik + iq)).1⟩).length by
      simp only [if_true] at hl2
      split at hl2 <;> split at hl2 <;> simp_all <;> omega)]
  rw [if_neg h6, if_neg (show ¬ 1024 < (updL (updL S.L c) ⟨ik, qty S.L ik + iq, (f ik (qty S.L ik + iq)).1⟩).length by
      simp only [if_true] at hl2
      split at hl2 <;> split at hl2 <;> simp_all <;> omega)]
  have hqo : qty (updL (updL S.L c) ⟨ik, qty S.L ik + iq, (f ik (qty S.L ik + iq)).1⟩) ok = qty S.L ok - oq := by
    rw [qty_upd_ne _ _ ok (fun e => h3 e.symm), ← hcq]
    have := qty_upd_same S.L c
    rw [hck] at this; exact this
  rw [hqo]
  have hsum : ∀ e2 : (f ik (qty S.L ik + iq)).2 = 0, (∀ e1 : c.q ≠ 0, (f ok (qty S.L ok - oq)).2 = 0) →
      (if coverF f (updL (updL S.L c) ⟨ik, qty S.L ik + iq, (f ik (qty S.L ik + iq)).1⟩) S.req ≠ 0 then (coverF f (updL (updL S.L c) ⟨ik, qty S.L ik + iq, (f ik (qty S.L ik + iq)).1⟩) S.req, S)
        else (0, { S with L := updL (updL S.L c) ⟨ik, qty S.L ik + iq, (f ik (qty S.L ik + iq)).1⟩, value := (totF f (updL (updL S.L c) ⟨ik, qty S.L ik + iq, (f ik (qty S.L ik + iq)).1⟩)).1 })) =
      applyF S true [c, ⟨ik, qty S.L ik + iq, (f ik (qty S.L ik + iq)).1⟩] := by
    intro e2 e1
    have hv1 : ∀ y ∈ updL S.L c, (f y.key y.q).1 = y.v ∧ (f y.key y.q).2 = 0 := upd_vals h.vals (by
      intro hq
      rw [hck, hcq]
      refine ⟨?_, e1 hq⟩
      rw [hc]
      rcases worthF_cases f ok (qty S.L ok - oq) with ⟨e, g⟩ | ⟨e, g⟩
      · exact absurd (hcq.trans e) hq
      · rw [g])
    have hv2 : ∀ y ∈ updL (updL S.L c) ⟨ik, qty S.L ik + iq, (f ik (qty S.L ik + iq)).1⟩, (f y.key y.q).1 = y.v ∧ (f y.key y.q).2 = 0 := upd_vals hv1 (fun _ => ⟨rfl, e2⟩)
    unfold coverF applyF
    rw [find_err hv2, sumV_upd (sorted_upd h.sorted c) _ (fun e => absurd e he0), sumV_upd h.sorted c hcv, ← h.sum, apply_two]
    simp only [List.foldl_cons, List.foldl_nil]
    rw [val_upd_ne _ c ik (by rw [hck]; exact h3)]
    generalize S.value + (c.v - val S.L c.key) + ((f ik (qty S.L ik + iq)).1 - val S.L ik) = T
    by_cases h6 : 1000000000000000 < T
    · simp [h6]
    · by_cases h7 : T < S.req <;> simp [h6, h7]
  rcases worthF_cases f ok (qty S.L ok - oq) with ⟨e, g⟩ | ⟨e, g⟩
  · rw [if_neg (show ¬ (0 < qty S.L ok - oq ∧ (f ok (qty S.L ok - oq)).2 ≠ 0) by omega)]
    rw [if_neg (show ¬ (worthF f ok (qty S.L ok - oq)).2.2 ≠ 0 by rw [g]; simp)]
    by_cases h8 : (f ik (qty S.L ik + iq)).2 ≠ 0
    · rw [if_pos h8, if_pos h8]
    · rw [if_neg h8, if_neg h8]
      exact hsum (Decidable.not_not.1 h8) (fun e1 => absurd (hcq.trans e) e1)
  · by_cases h7 : (f ok (qty S.L ok - oq)).2 ≠ 0
    · rw [if_pos (show 0 < qty S.L ok - oq ∧ (f ok (qty S.L ok - oq)).2 ≠ 0 from ⟨by omega, h7⟩), if_pos (show (worthF f ok (qty S.L ok - oq)).2.2 ≠ 0 by rw [g]; exact h7), g]
    · rw [if_neg (show ¬ (0 < qty S.L ok - oq ∧ (f ok (qty S.L ok - oq)).2 ≠ 0) from fun e => h7 e.2), if_neg (show ¬ (worthF f ok (qty S.L ok - oq)).2.2 ≠ 0 by rw [g]; exact h7)]
      by_cases h8 : (f ik (qty S.L ik + iq)).2 ≠ 0
      · rw [if_pos h8, if_pos h8]
      · rw [if_neg h8, if_neg h8]
        exact hsum (Decidable.not_not.1 h8) (fun _ => Decidable.not_not.1 h7)
end Go.Proofs.YtjjnljfphaimgaaGreatDoor.C
/- Plain: Substitute and Revalue keep agreement; the codes of Revalue. -/
namespace Go.Proofs.YtjjnljfphaimgaaGreatDoor.C
open Go Go.RowKit Go.Shelf Go.Proofs

theorem Sim.isin_of {f : ByteArray → Int → Int × Int} {S : PS} (h : Sim f S) {k : ByteArray} (hh : has S.L k = true) : isinB k = true := by
  have e := has_find S.L k
  rw [hh] at e
  cases g : find S.L k with
  | none => rw [g] at e; cases e
  | some x => rw [← (find_mem g).2]; exact h.isin x (find_mem g).1
theorem subst_keep {f : ByteArray → Int → Int × Int} {S : PS} (hf : ∀ k q, 0 ≤ q → 0 ≤ (f k q).1 ∧ (f k q).1 ≤ 1000000000000000) (h : Sim f S) (ok : ByteArray) (oq : Int) (ik : ByteArray) (iq : Int) : Sim f (substF f S ok oq ik iq).2 := by
  obtain ⟨q0, q1, w0, w1⟩ := h.ok.qty ik
  obtain ⟨p0, p1, -, -⟩ := h.ok.qty ok
  unfold substF
  split
  · exact h
  rename_i h1
  obtain ⟨hh, n0, n1, n2⟩ := ckRel_zero (Decidable.not_not.1 h1)
  split
  · exact h
  rename_i h2
  split
  · exact h
  rename_i h3
  split
  · exact h
  rename_i h4
  have h4' : 1 ≤ iq ∧ iq ≤ 1000000000000000 := Decidable.not_not.1 h4
  split
  · exact h
  rename_i h5
  by_cases h6 : 1024 < (S.L.length : Int) + (if has S.L ik = true then 0 else 1) - (if qty S.L ok - oq = 0 then 1 else 0)
  · rw [if_pos h6]; exact h
  rw [if_neg h6]
  split
  · exact h
  rename_i h7
  split
  · exact h
  rename_i h8
  have hc : COk f ⟨ok, (worthF f ok (qty S.L ok - oq)).1, (worthF f ok (qty S.L ok - oq)).2.1⟩ := by
    rcases worthF_cases f ok (qty S.L ok - oq) with ⟨e, g⟩ | ⟨e, g⟩
    · rw [g]; exact ⟨fun _ => rfl, fun e => absurd rfl e⟩
    · rw [g] at h7 ⊢
      exact ⟨fun e' => absurd e' e, fun _ => ⟨by show 1 ≤ qty S.L ok - oq; omega, by show qty S.L ok - oq ≤ _; omega, (hf _ _ (by omega)).1, (hf _ _ (by omega)).2, rfl, Decidable.not_not.1 h7, h.isin_of hh⟩⟩
  have he : COk f ⟨ik, qty S.L ik + iq, (f ik (qty S.L ik + iq)).1⟩ := by
    refine ⟨fun e => ?_, fun _ => ⟨?_, ?_, (hf _ _ (by omega)).1, (hf _ _ (by omega)).2, rfl, Decidable.not_not.1 h8, by simpa using h2⟩⟩
    · simp only at e; omega
    · show 1 ≤ qty S.L ik + iq; omega
    · show qty S.L ik + iq ≤ _; omega
  have hl1 := upd_len h.sorted ⟨ok, (worthF f ok (qty S.L ok - oq)).1, (worthF f ok (qty S.L ok - oq)).2.1⟩
  have hL := h.lsim.upd hc
  have hv := sumV_upd h.sorted ⟨ok, (worthF f ok (qty S.L ok - oq)).1, (worthF f ok (qty S.L ok - oq)).2.1⟩ hc.z
  have hhas := has_upd_ne S.L ⟨ok, (worthF f ok (qty S.L ok - oq)).1, (worthF f ok (qty S.L ok - oq)).2.1⟩ ik h3
  have hval := val_upd_ne S.L ⟨ok, (worthF f ok (qty S.L ok - oq)).1, (worthF f ok (qty S.L ok - oq)).2.1⟩ ik h3
  have hw1 : (worthF f ok (qty S.L ok - oq)).1 = 0 ↔ qty S.L ok - oq = 0 := by
    rcases worthF_cases f ok (qty S.L ok - oq) with ⟨e, g⟩ | ⟨e, g⟩
    · rw [g]; simp [e]
    · rw [g]
  unfold applyF
  split
  · exact h
  rename_i h9
  split
  · exact h
  simp only [List.foldl_cons, List.foldl_nil]
  have hl2 := upd_len hL.sorted ⟨ik, qty S.L ik + iq, (f ik (qty S.L ik + iq)).1⟩
  simp only at hl1 hl2 hhas hval hv
  rw [hhas, if_neg (show ¬ qty S.L ik + iq = 0 by omega), hl1, hh] at hl2
  refine LSim.sim (hL.upd he) ?_ (by simpa using h9) ⟨h.ok.r0, h.ok.r1⟩ ?_
  · show applyTot S _ = _
    rw [apply_two, sumV_upd hL.sorted _ he.z]
    simp only
    rw [hv, hval, h.sum]
  · show (updL (updL S.L ⟨ok, (worthF f ok (qty S.L ok - oq)).1, (worthF f ok (qty S.L ok - oq)).2.1⟩) ⟨ik, qty S.L ik + iq, (f ik (qty S.L ik + iq)).1⟩).length ≤ 1024
    simp only [if_true, hw1] at hl2
    split at hl2 <;> split at hl2 <;> simp_all <;> omega
theorem posRow_reval (f : ByteArray → Int → Int × Int) (L : List Hold) : posRow (L.map (reval f)) = posRow L := by
  induction L with
  | nil => rfl
  | cons a r ih => rw [List.map_cons, posRow_cons, posRow_cons, ih]; rfl
theorem revalue_sim {f : ByteArray → Int → Int × Int} (S : PS) (vl : Value) : (refRevalue f S).1 = (revalueF f S vl).1 := by
  unfold refRevalue revalueF totF
  cases e : S.L.find? (fun h => decide ((f h.key h.q).2 ≠ 0)) with
  | none =>
    simp only
    by_cases h : 1000000000000000 < sumV (S.L.map (reval f))
    · simp [h]
    · simp [h]
  | some x =>
    have hx : (f x.key x.q).2 ≠ 0 := by simpa using List.find?_some e
    simp only
    rw [if_pos hx]
theorem revalue_bad {f : ByteArray → Int → Int × Int} {S : PS} {vl : Value} (h : (revalueF f S vl).1 ≠ 0) : (revalueF f S vl).2 = S := by
  unfold revalueF at h ⊢
  split
  · rfl
  · rename_i e
    rw [e] at h
    simp only at h
    split
    · rfl
    · rename_i h'; rw [if_neg h'] at h; exact absurd rfl h
theorem revalue_good {f g : ByteArray → Int → Int × Int} {S : PS} {vl : Value} (hf : ∀ k q, 0 ≤ q → 0 ≤ (f k q).1 ∧ (f k q).1 ≤ 1000000000000000) (h : Sim g S) (h0 : (revalueF f S vl).1 = 0) :
    Sim f (revalueF f S vl).2 ∧ (revalueF f S vl).2.L = S.L.map (reval f) ∧ (revalueF f S vl).2.owner = S.owner ∧ (revalueF f S vl).2.req = S.req ∧ (revalueF f S vl).2.vl = vl := by
  unfold revalueF at h0 ⊢
  cases e : S.L.find? (fun h => decide ((f h.key h.q).2 ≠ 0)) with
  | some x =>
    rw [e] at h0
    have hx : (f x.key x.q).2 ≠ 0 := by simpa using List.find?_some e
    exact absurd h0 hx
  | none =>
    rw [e] at h0
    simp only at h0 ⊢
    by_cases hb : 1000000000000000 < sumV (S.L.map (reval f))
    · rw [if_pos hb] at h0; simp at h0
    · rw [if_neg hb]
      refine ⟨LSim.sim ⟨?_, ?_⟩ rfl (by simpa using hb) ⟨h.ok.r0, h.ok.r1⟩ (by simpa using h.ok.len), rfl, rfl, rfl, rfl⟩
      · show List.Pairwise _ (S.L.map (reval f))
        rw [List.pairwise_map]; exact h.sorted
      · intro y hy
        obtain ⟨x, hx, rfl⟩ := List.mem_map.1 hy
        have hq := (h.lsim.all x hx)
        have he : (f x.key x.q).2 = 0 := by
          have := List.find?_eq_none.1 e x hx
          simpa using this
        exact ⟨hq.1, hq.2.1, (hf _ _ (by omega)).1, (hf _ _ (by omega)).2, rfl, he, hq.2.2.2.2.2.2⟩
end Go.Proofs.YtjjnljfphaimgaaGreatDoor.C
/- Plain: MaxRelease, Substitute, Revalue, cover, Equal. -/
namespace Go.Proofs.YtjjnljfphaimgaaGreatDoor.C
open Go Go.RowKit Go.Shelf Go.Proofs

theorem worthF_code {f : ByteArray → Int → Int × Int} (hf : Mono f) (k : ByteArray) (q : Int) {q' : Int} (h : (f k q').2 = 0) : (worthF f k q).2.2 = 0 := by
  rcases worthF_cases f k q with ⟨-, g⟩ | ⟨-, g⟩
  · rw [g]
  · rw [g]; exact (hf.code k q q').trans h
theorem worthF_le {f : ByteArray → Int → Int × Int} {S : PS} (hf : Mono f) (hs : Sim f S) {k : ByteArray} {q : Int} (h0 : 0 ≤ q) (h : q ≤ qty S.L k) : (worthF f k q).2.1 ≤ val S.L k := by
  rcases find_cases hs k with ⟨-, -, e1, e2⟩ | ⟨-, -, -, -, e2, -⟩
  · rw [show q = 0 from by omega, e2]; simp [worthF]
  · rcases worthF_cases f k q with ⟨-, g⟩ | ⟨-, g⟩
    · rw [g, ← e2]; exact (hf.rng k _).1
    · rw [g, ← e2]; exact hf.mono k h0 h
theorem maxrel_more {f : ByteArray → Int → Int × Int} {S : PS} (hs : Sim f S) {k : ByteArray} {r : Int} (h0 : 0 ≤ r) (h : r < qty S.L k) (hr : refused f S k r = true) : (releaseF f S k (r + 1)).1 ≠ 0 := by
  intro e
  obtain ⟨h1, h2, h3, h4, h5, h6, -⟩ := release_ok e
  unfold refused at hr
  rw [show qty S.L k - r - 1 = qty S.L k - (r + 1) from by omega, h4] at hr
  have : S.req ≤ S.value + ((worthF f k (qty S.L k - (r + 1))).2.1 - val S.L k) := h6
  simp at hr
  omega
theorem maxrel_just {f : ByteArray → Int → Int × Int} {S : PS} (hf : Mono f) (hs : Sim f S) {k : ByteArray} {r : Int} (h0 : 0 < r) (h : r ≤ qty S.L k) (hr : refused f S k (r - 1) = false) : (releaseF f S k r).1 = 0 := by
  unfold refused at hr
  rw [show qty S.L k - (r - 1) - 1 = qty S.L k - r from by omega] at hr
  simp only [Bool.or_eq_false_iff, decide_eq_false_iff_not, Decidable.not_not] at hr
  obtain ⟨g1, g2⟩ := hr
  rcases find_cases hs k with ⟨-, -, e1, -⟩ | ⟨-, e0, e1, e2, -⟩
  · omega
  have hle := worthF_le hf hs (k := k) (q := qty S.L k - r) (by omega) (by omega)
  have hv := hs.ok.v1
  rw [release_of e0 ⟨by omega, by omega⟩ h g1 (by show S.value + ((worthF f k (qty S.L k - r)).2.1 - val S.L k) ≤ _; omega) (by show S.req ≤ S.value + ((worthF f k (qty S.L k - r)).2.1 - val S.L k); omega)]
theorem eqF_self (S : PS) : eqF S S = true := by simp [eqF, posEq]
theorem eqF_same {f g : ByteArray → Int → Int × Int} {S T : PS} (h : Sim f S) (h' : Sim g T) : sameF f g S T = eqF S T := by
  unfold sameF eqF
  rw [h.tot, h'.tot]
  simp only
  rw [Bool.and_assoc, Bool.and_comm (posEq S.L T.L), ← Bool.and_assoc]
theorem eqF_symm (S T : PS) : eqF S T = eqF T S := by
  unfold eqF posEq
  rw [Bool.eq_iff_iff]
  simp only [Bool.and_eq_true, decide_eq_true_eq]
  constructor <;> (rintro ⟨⟨⟨a, b⟩, c⟩, d⟩; exact ⟨⟨⟨a.symm, b.symm⟩, c.symm⟩, d.symm⟩)

/-- A substitution has the result of a pledge followed by a release. -/
theorem subst_order {f : ByteArray → Int → Int × Int} {S : PS} {ok ik : ByteArray} {oq iq : Int} (hs : Sim f S) (h : (substF f S ok oq ik iq).1 = 0) (h' : (pledgeF f S ik iq).1 = 0) :
    releaseF f (pledgeF f S ik iq).2 ok oq = (0, (substF f S ok oq ik iq).2) := by
  obtain ⟨p1, p2, p3, p4, p5, p6, p7⟩ := pledge_ok h'
  have h0 := h
  unfold substF at h
  by_cases h1 : ckRel S.L ok oq ≠ 0
  · rw [if_pos h1] at h; exact absurd h h1
  rw [if_neg h1] at h
  by_cases h2 : isinB ik = false
  · rw [if_pos h2] at h; cases h
  rw [if_neg h2] at h
  by_cases h3 : ik = ok
  · rw [if_pos h3] at h; cases h
  rw [if_neg h3] at h
  by_cases h4 : ¬ (1 ≤ iq ∧ iq ≤ 1000000000000000)
  · rw [if_pos h4] at h; cases h
  rw [if_neg h4] at h
  by_cases h5 : 1000000000000000 - iq < qty S.L ik
  · rw [if_pos h5] at h; cases h
  rw [if_neg h5] at h
  by_cases h6 : 1024 < (S.L.length : Int) + (if has S.L ik = true then 0 else 1) - (if qty S.L ok - oq = 0 then 1 else 0)
  · rw [if_pos h6] at h; cases h
  rw [if_neg h6] at h
  by_cases h7 : (worthF f ok (qty S.L ok - oq)).2.2 ≠ 0
  · rw [if_pos h7] at h; exact absurd h h7
  rw [if_neg h7] at h
  by_cases h8 : (f ik (qty S.L ik + iq)).2 ≠ 0
  · rw [if_pos h8] at h; exact absurd h h8
  rw [if_neg h8] at h
  obtain ⟨g1, g2, g3, g4⟩ := ckRel_zero (Decidable.not_not.1 h1)
  have hE : substF f S ok oq ik iq = applyF S true [⟨ok, (worthF f ok (qty S.L ok - oq)).1, (worthF f ok (qty S.L ok - oq)).2.1⟩, ⟨ik, qty S.L ik + iq, (f ik (qty S.L ik + iq)).1⟩] := by
    unfold substF
    rw [if_neg h1, if_neg h2, if_neg h3, if_neg h4, if_neg h5, if_neg h6, if_neg h7, if_neg h8]
  rw [hE] at h0 ⊢
  unfold applyF at h0 ⊢
  rw [apply_two] at h0 ⊢
  simp only at h0 ⊢
  split at h0
  · cases h0
  rename_i h9
  split at h0
  · cases h0
  rename_i h10
  rw [if_neg h9, if_neg h10, p7]
  have h3' : ok ≠ ik := fun e => h3 e.symm
  have hq : qty (pl f S ik iq).L ok = qty S.L ok := qty_upd_ne S.L _ ok h3'
  have hv : val (pl f S ik iq).L ok = val S.L ok := val_upd_ne S.L _ ok h3'
  have hh : has (pl f S ik iq).L ok = has S.L ok := has_upd_ne S.L _ ok h3'
  have hc : cR f (pl f S ik iq) ok oq = ⟨ok, (worthF f ok (qty S.L ok - oq)).1, (worthF f ok (qty S.L ok - oq)).2.1⟩ := by
    show (⟨ok, (worthF f ok (qty (pl f S ik iq).L ok - oq)).1, (worthF f ok (qty (pl f S ik iq).L ok - oq)).2.1⟩ : Hold) = _
    rw [hq]
  have ht : (pl f S ik iq).value + ((cR f (pl f S ik iq) ok oq).v - val (pl f S ik iq).L ok) = S.value + ((worthF f ok (qty S.L ok - oq)).2.1 - val S.L ok) + ((f ik (qty S.L ik + iq)).1 - val S.L ik) := by
    rw [hc, hv]; show S.value + ((f ik (qty S.L ik + iq)).1 - val S.L ik) + ((worthF f ok (qty S.L ok - oq)).2.1 - val S.L ok) = _; omega
  have h9' : ¬ 1000000000000000 < S.value + ((worthF f ok (qty S.L ok - oq)).2.1 - val S.L ok) + ((f ik (qty S.L ik + iq)).1 - val S.L ik) := h9
  have h10' : ¬ S.value + ((worthF f ok (qty S.L ok - oq)).2.1 - val S.L ok) + ((f ik (qty S.L ik + iq)).1 - val S.L ik) < S.req := fun e => h10 ⟨trivial, e⟩
  rw [release_of (by rw [hh]; exact g1) ⟨g2, g3⟩ (by rw [hq]; exact g4) (by rw [hq]; exact Decidable.not_not.1 h7) (by rw [ht]; omega) (by rw [ht]; show S.req ≤ _; omega)]
  show (0, ({ S with L := updL (updL S.L _) (cR f (pl f S ik iq) ok oq), value := (pl f S ik iq).value + ((cR f (pl f S ik iq) ok oq).v - val (pl f S ik iq).L ok) } : PS)) = _
  rw [ht, hc, upd_comm hs.sorted (x := ⟨ik, qty S.L ik + iq, (f ik (qty S.L ik + iq)).1⟩) (by exact h3)]
  rfl
/-- Below the required amount nothing is released. -/
theorem neg_max {f : ByteArray → Int → Int × Int} {S : PS} (hf : Mono f) (hs : Sim f S) (hn : S.value < S.req) {k : ByteArray} {i : Int} (h0 : 0 ≤ i) (h : i < qty S.L k) : refused f S k i = true := by
  have hle := worthF_le hf hs (k := k) (q := qty S.L k - i - 1) (by omega) (by omega)
  unfold refused
  rw [show decide (S.value - val S.L k + (worthF f k (qty S.L k - i - 1)).2.1 < S.req) = true from by simp; omega]
  simp
theorem neg_release {f : ByteArray → Int → Int × Int} {S : PS} (hf : Mono f) (hs : Sim f S) (hn : S.value < S.req) (k : ByteArray) (n : Int) : (releaseF f S k n).1 ≠ 0 := by
  intro e
  obtain ⟨h1, h2, h3, h4, h5, h6, -⟩ := release_ok e
  have hle := worthF_le hf hs (k := k) (q := qty S.L k - n) (by omega) (by omega)
  have : S.req ≤ S.value + ((worthF f k (qty S.L k - n)).2.1 - val S.L k) := h6
  omega
theorem neg_require {f : ByteArray → Int → Int × Int} {S : PS} (hs : Sim f S) (hn : S.value < S.req) : requireF S S.req = (25, S) := by
  have := hs.ok.r0
  have := hs.ok.r1
  unfold requireF
  rw [if_neg (by omega), if_pos hn]
theorem reval_self {f : ByteArray → Int → Int × Int} {S : PS} (h : Sim f S) : S.L.map (reval f) = S.L := by
  rw [List.map_congr_left (g := id)]
  · simp
  · intro x hx; unfold reval; rw [(h.vals x hx).1]; rfl
/-- Revaluing back restores the pool. -/
theorem rev_back {f g : ByteArray → Int → Int × Int} {S : PS} {vl vl' : Value} (hf : Mono f) (hs : Sim g S) (h0 : (revalueF f S vl).1 = 0) : revalueF g (revalueF f S vl).2 vl' = (0, { S with vl := vl' }) := by
  obtain ⟨-, hL, ho, hq, -⟩ := revalue_good hf.nn hs h0
  generalize revalueF f S vl = r at hL ho hq
  have hm : r.2.L.map (reval g) = S.L := by
    rw [hL, List.map_map]
    exact (List.map_congr_left (g := reval g) (by intro x hx; rfl)).trans (reval_self hs)
  have hfd : r.2.L.find? (fun h => decide ((g h.key h.q).2 ≠ 0)) = none := by
    rw [List.find?_eq_none, hL]
    intro x hx
    obtain ⟨y, hy, rfl⟩ := List.mem_map.1 hx
    have := (hs.vals y hy).2
    show ¬ decide ((g y.key y.q).2 ≠ 0) = true
    simp [this]
  unfold revalueF
  rw [hfd]
  simp only
  rw [hm, ← hs.sum, if_neg (by have := hs.ok.v1; omega), ho, hq]
theorem cover_pledge {f : ByteArray → Int → Int × Int} {S : PS} (hf : Mono f) (hs : Sim f S) (h : S.req ≤ S.value) (k : ByteArray) (n : Int) : (pledgeF f S k n).2.req ≤ (pledgeF f S k n).2.value := by
  by_cases e : (pledgeF f S k n).1 = 0
  · have := pledge_val hf hs e
    obtain ⟨-, -, -, -, -, -, h7⟩ := pledge_ok e
    have hq : (pledgeF f S k n).2.req = S.req := by rw [h7]
    omega
  · have : (pledgeF f S k n).2 = S := by
      unfold pledgeF at e ⊢
      split
      · rfl
      · rename_i h1; rw [if_neg h1] at e
        split
        · rfl
        · rename_i h2; rw [if_neg h2] at e
          split
          · rfl
          · rename_i h3; rw [if_neg h3] at e
            split
            · rfl
            · rename_i h4; rw [if_neg h4] at e
              split
              · rfl
              · rename_i h5; rw [if_neg h5] at e
                unfold applyF at e ⊢
                split
                · rfl
                · rename_i h6; rw [if_neg h6] at e
                  split
                  · rfl
                  · rename_i h7; rw [if_neg h7] at e; exact absurd rfl e
    rw [this]; exact h
theorem cover_apply {S : PS} (h : S.req ≤ S.value) (cs : List Hold) : (applyF S true cs).2.req ≤ (applyF S true cs).2.value := by
  unfold applyF
  split
  · exact h
  · split
    · exact h
    · rename_i h6 h7; simp at h7; exact h7
theorem cover_release {f : ByteArray → Int → Int × Int} {S : PS} (h : S.req ≤ S.value) (k : ByteArray) (n : Int) : (releaseF f S k n).2.req ≤ (releaseF f S k n).2.value := by
  unfold releaseF
  split
  · exact h
  · split
    · exact h
    · exact cover_apply h _
theorem cover_require {S : PS} (h : S.req ≤ S.value) (n : Int) : (requireF S n).2.req ≤ (requireF S n).2.value := by
  unfold requireF
  split
  · exact h
  · split
    · exact h
    · show n ≤ S.value; omega
theorem cover_subst {f : ByteArray → Int → Int × Int} {S : PS} (h : S.req ≤ S.value) (ok : ByteArray) (oq : Int) (ik : ByteArray) (iq : Int) : (substF f S ok oq ik iq).2.req ≤ (substF f S ok oq ik iq).2.value := by
  unfold substF
  split
  · exact h
  split
  · exact h
  split
  · exact h
  split
  · exact h
  split
  · exact h
  by_cases h6 : 1024 < (S.L.length : Int) + (if has S.L ik = true then 0 else 1) - (if qty S.L ok - oq = 0 then 1 else 0)
  · rw [if_pos h6]; exact h
  rw [if_neg h6]
  split
  · exact h
  split
  · exact h
  exact cover_apply h _
theorem pledge_req {f : ByteArray → Int → Int × Int} {S : PS} {k : ByteArray} {n : Int} (h : (pledgeF f S k n).1 = 0) : (pledgeF f S k n).2.req = S.req := by
  obtain ⟨-, -, -, -, -, -, h7⟩ := pledge_ok h
  rw [h7]
theorem order_release {f : ByteArray → Int → Int × Int} {S : PS} {a b : ByteArray} {m n : Int} (hf : Mono f) (hs : Sim f S) (h : (pledgeF f S a m).1 = 0) (h' : (pledgeF f (pledgeF f S a m).2 b n).1 = 0) (hr : S.req ≤ S.value) :
    releaseF f (pledgeF f (pledgeF f S a m).2 b n).2 a m = (0, (pledgeF f S b n).2) ∧ releaseF f (pledgeF f S b n).2 b n = (0, S) := by
  obtain ⟨h1, h2⟩ := pledge_order hf hs h h'
  have hv := pledge_val hf hs h1
  have hq := pledge_req h1
  have h3 := pledge_release (pledge_keep hf.nn hs b n) (k := a) (n := m) (by rw [h2]) (by omega)
  rw [h2] at h3
  exact ⟨h3, pledge_release hs h1 hr⟩
end Go.Proofs.YtjjnljfphaimgaaGreatDoor.C
/- girolaw34.do: a release, a required amount, a substitution. -/
namespace Go.Proofs.YtjjnljfphaimgaaGreatDoor.C
open Go Go.RowKit Go.Shelf Go.Proofs

set_option maxRecDepth 100000 in
set_option maxHeartbeats 8000000 in
theorem do_release (w0 w : World) (p m : Nat) (V : VS) (S : PS) (sl : Value) (o : OpS) (h : Pair w0 w p m V S sl) (ho : o.Ok) (hk : o.kd % 5 = 1) :
    Calls Tryz.prog 15 #[.pointer (some ⟨p, 0, none⟩), rP V S sl, o.val] w (DoPost w0 w p m (doF o V S)) := by
  obtain ⟨ao, cap, hsl, -⟩ := row_open h.row
  subst hsl
  have HD := Lib.hid (DSt.new h o)
  have HP := Lib.hid h
  have hpl := h.pool.lt
  have hml := h.pool.2.lt
  have hB := h.base.size
  have k0 := ho.k0
  have k1 := ho.k1
  have HO := Lib.hid ho
  have HF : Hid (doF o V S = (V, (releaseF (fV V) S o.ak o.aq).2)) := Lib.hid (by unfold doF; rw [if_neg (by omega), if_pos hk])
  clear h ho
  unfold rP OpS.val
  unfold pBox zeroP OpS.box OpS.cells at HD
  unfold VS.x0 VS.x1 VS.x2 at *
  go_enter Tryz.func15, Tryz.ntmps15
  go_wp2_with fail
  generalize ((w.alloc (.cells #[.string S.owner, .slice V.a0 V.l0.length V.c0, .slice V.a1 V.l1.length V.c1, .slice V.a2 V.l2.length V.c2, .slice ao S.L.length cap, .int .i64 S.req] 38)).alloc
    (.cells #[.int .u8 o.kd, .string o.ak, .int .i64 o.aq, .string o.bk, .int .i64 o.bq, .int .i64 o.n, .slice o.V.a0 o.V.l0.length o.V.c0, .slice o.V.a1 o.V.l1.length o.V.c1, .slice o.V.a2 o.V.l2.length o.V.c2] 47)).alloc (.cells #[.string ⟨#[]⟩, .slice none 0 0, .slice none 0 0, .slice none 0 0, .slice none 0 0, .int .i64 0] 38) = W1 at HD ⊢
  refine (refRelease_calls _ w0.heap.size V S (.slice ao S.L.length cap) o.ak o.aq HD.out.pair.row HD.out.pair.v HD.out.pair.base.size HD.out.pair.lok HO.out.ka HO.out.a0 HO.out.a1).mono ?_
  rintro e W2 ⟨sl', rfl, hr2, hb⟩
  have HD2 := Lib.hid (HD.out.step hb)
  rw [release_sim HP.out.sim] at hr2
  rw [release_sim HP.out.sim]
  unfold rP VS.x0 VS.x1 VS.x2
  have HR2 := Lib.hid hr2
  clear hb HD hr2
  generalize hX : releaseF (fV V) S o.ak o.aq = X at HR2 HF ⊢
  have HX := Lib.hid hX
  clear hX
  obtain ⟨cd, S'⟩ := X
  simp only at HR2 HF HX ⊢
  obtain ⟨ao2, cap2, hsl2, -⟩ := row_open HR2.out
  subst hsl2
  have HD3 : Hid (D2 w0 w (W2.alloc (.cells #[.string S'.owner, .slice V.a0 V.l0.length V.c0, .slice V.a1 V.l1.length V.c1, .slice V.a2 V.l2.length V.c2, .slice ao2 S'.L.length cap2, .int .i64 S'.req] 38)) p m o W2.heap.size V S' (.slice ao2 S'.L.length cap2)) := Lib.hid
    ⟨blk_new _ _, blk_alloc HD2.out.o _, Fr.of_below (HD2.out.b.alloc HD2.out.b.size _) (Nat.le_refl _), HD2.out.pair.base.alloc HD2.out.pair.base.size _, ownsRow_below HR2.out ((Below.refl _ _).alloc (Nat.le_refl _) _) (Nat.le_refl _)⟩
  have HP3 := Lib.hid (HD2.out.pair.pool.alloc (.cells #[.string S'.owner, .slice V.a0 V.l0.length V.c0, .slice V.a1 V.l1.length V.c1, .slice V.a2 V.l2.length V.c2, .slice ao2 S'.L.length cap2, .int .i64 S'.req] 38))
  have HY3 : Hid (_ = _) := Lib.hid (blk_alloc HD2.out.y (.cells #[.string S'.owner, .slice V.a0 V.l0.length V.c0, .slice V.a1 V.l1.length V.c1, .slice V.a2 V.l2.length V.c2, .slice ao2 S'.L.length cap2, .int .i64 S'.req] 38))
  have hw2 : w.heap.size + 2 < W2.heap.size := blk_lt HD2.out.y
  go_wp2_with fail
  generalize W2.alloc (.cells #[.string S'.owner, .slice V.a0 V.l0.length V.c0, .slice V.a1 V.l1.length V.c1, .slice V.a2 V.l2.length V.c2, .slice ao2 S'.L.length cap2, .int .i64 S'.req] 38) = W3 at HD3 HP3 HY3 ⊢
  have HD : D2c w0 w W3.drew p m o W2.heap.size V S' (.slice ao2 S'.L.length cap2) := HD3.out.drew.cells
  unfold D2c at HD
  go_region_held3 (fun W => W.cell? ⟨W2.heap.size, 0, none⟩ = some (.string S'.owner) ∧ W.cell? ⟨W2.heap.size, 1, none⟩ = some (.slice V.a0 V.l0.length V.c0) ∧ W.cell? ⟨W2.heap.size, 2, none⟩ = some (.slice V.a1 V.l1.length V.c1) ∧ W.cell? ⟨W2.heap.size, 3, none⟩ = some (.slice V.a2 V.l2.length V.c2) ∧ W.cell? ⟨W2.heap.size, 4, none⟩ = some (.slice ao2 S'.L.length cap2) ∧ W.cell? ⟨W2.heap.size, 5, none⟩ = some (.int .i64 S'.req) ∧
      W.cell? ⟨w.heap.size + 1, 1, none⟩ = some (.string o.ak) ∧ W.cell? ⟨w.heap.size + 1, 2, none⟩ = some (.int .i64 o.aq) ∧ W.cell? ⟨w.heap.size + 1, 3, none⟩ = some (.string o.bk) ∧ W.cell? ⟨w.heap.size + 1, 4, none⟩ = some (.int .i64 o.bq) ∧ W.cell? ⟨w.heap.size + 1, 5, none⟩ = some (.int .i64 o.n) ∧
      W.cell? ⟨w.heap.size + 1, 6, none⟩ = some (.slice o.V.a0 o.V.l0.length o.V.c0) ∧ W.cell? ⟨w.heap.size + 1, 7, none⟩ = some (.slice o.V.a1 o.V.l1.length o.V.c1) ∧ W.cell? ⟨w.heap.size + 1, 8, none⟩ = some (.slice o.V.a2 o.V.l2.length o.V.c2) ∧ D2 w0 w W p m o W2.heap.size V S' (.slice ao2 S'.L.length cap2))
    (first | with_reducible exact HD | with_reducible exact HH5 | with_reducible exact HH4 | with_reducible trivial)
    (first
      | (go_at_call 21
         refine (release_calls _ p m S o.ak o.aq 35 (aggV V) w0.heap.size w0 (fV V) 135 (aggV V) HP3.out.drew HP.out.sim.ok (isValuer_prices HP.out.v0) HP.out.vl HD3.out.up.drew HD3.out.up.drew.size HO.out.ka (fV_range' V)).mono ?_
         rw [HX.out]
         rintro e W4 ⟨rfl, hP4, hF4⟩
         have HP4 := Lib.hid hP4
         have HD4 := Lib.hid (HD3.out.drew.go hF4 HP3.out.drew HP.out.hp HP.out.hm hpl hml (by omega))
         have HH4 := HD4.out.cells
         unfold D2c at HH4
         have HY4 : Hid (W4.heap[w.heap.size + 1 + 1]? = some (.cells zeroP 38 (0, 0))) := Lib.hid ((hF4.block _ (blk_lt HY3.out) (by omega) (by omega)).trans HY3.out)
         obtain ⟨⟨d0, d1, d2, d3, d4, d5⟩, g0, g1, g2, g3, g4, g5⟩ := zcells HY4.out
         have HD5 := Lib.hid (HD4.out.set HY4.out hw2 hB (.string S'.owner) (.slice V.a0 V.l0.length V.c0) (.slice V.a1 V.l1.length V.c1) (.slice V.a2 V.l2.length V.c2) (.slice ao2 S'.L.length cap2) (.int .i64 S'.req))
         have HH5 := HD5.out.cells
         unfold D2c set6 at HH5
         clear hP4 hF4))
  all_goals
    have z6 := six (set6_blk HY4.out (.string S'.owner) (.slice V.a0 V.l0.length V.c0) (.slice V.a1 V.l1.length V.c1) (.slice V.a2 V.l2.length V.c2) (.slice ao2 S'.L.length cap2) (.int .i64 S'.req))
    have HP5 := Lib.hid (set6_pool HP4.out (b := w.heap.size + 1 + 1) (by omega) (by omega) (.string S'.owner) (.slice V.a0 V.l0.length V.c0) (.slice V.a1 V.l1.length V.c1) (.slice V.a2 V.l2.length V.c2) (.slice ao2 S'.L.length cap2) (.int .i64 S'.req))
    have HD6 := HD5
    unfold set6 at z6 HD6 HP5
    rename_i hHeld
    clear hHeld HD HH4 HH5 HD5 d0 d1 d2 d3 d4 d5 g0 g1 g2 g3 g4 g5
    generalize (((((W4.setCell _ _).setCell _ _).setCell _ _).setCell _ _).setCell _ _).setCell _ _ = WF at z6 HD6 HP5 ⊢
    obtain ⟨z0, z1, z2, z3, z4, z5⟩ := z6
    go_wp2_with fail
    have hvl := (release_vl (fV V) S o.ak o.aq).1
    have hsm := release_keep (fV_ok V).nn HP.out.sim o.ak o.aq
    rw [HX.out] at hvl hsm
    refine bodyPost_ret (v := .tuple #[.agg #[.string S'.owner, .slice V.a0 V.l0.length V.c0, .slice V.a1 V.l1.length V.c1, .slice V.a2 V.l2.length V.c2, .slice ao2 S'.L.length cap2, .int .i64 S'.req], .bool true]) ?_ rfl
      ⟨m, .slice ao2 S'.L.length cap2, by rw [HF.out]; rfl, by rw [HF.out]; exact ⟨HP5.out, hvl.trans HP.out.vl, HD6.out.row, HP.out.v0, hsm, HD6.out.up, HP.out.hp, HP.out.hm⟩, HD6.out.fr, Or.inl rfl⟩
    simp [results, Tryz.results15, go_sem, z0, z1, z2, z3, z4, z5]

set_option maxRecDepth 100000 in
set_option maxHeartbeats 8000000 in
theorem do_require (w0 w : World) (p m : Nat) (V : VS) (S : PS) (sl : Value) (o : OpS) (h : Pair w0 w p m V S sl) (ho : o.Ok) (hk : o.kd % 5 = 2) :
    Calls Tryz.prog 15 #[.pointer (some ⟨p, 0, none⟩), rP V S sl, o.val] w (DoPost w0 w p m (doF o V S)) := by
  obtain ⟨ao, cap, hsl, -⟩ := row_open h.row
  subst hsl
  have HD := Lib.hid (DSt.new h o)
  have HP := Lib.hid h
  have hpl := h.pool.lt
  have hml := h.pool.2.lt
  have hB := h.base.size
  have k0 := ho.k0
  have k1 := ho.k1
  have HO := Lib.hid ho
  have HF : Hid (doF o V S = (V, (requireF S o.n).2)) := Lib.hid (by unfold doF; rw [if_neg (by omega), if_neg (by omega), if_pos hk])
  clear h ho
  unfold rP OpS.val
  unfold pBox zeroP OpS.box OpS.cells at HD
  unfold VS.x0 VS.x1 VS.x2 at *
  go_enter Tryz.func15, Tryz.ntmps15
  go_wp2_with fail
  generalize ((w.alloc (.cells #[.string S.owner, .slice V.a0 V.l0.length V.c0, .slice V.a1 V.l1.length V.c1, .slice V.a2 V.l2.length V.c2, .slice ao S.L.length cap, .int .i64 S.req] 38)).alloc
    (.cells #[.int .u8 o.kd, .string o.ak, .int .i64 o.aq, .string o.bk, .int .i64 o.bq, .int .i64 o.n, .slice o.V.a0 o.V.l0.length o.V.c0, .slice o.V.a1 o.V.l1.length o.V.c1, .slice o.V.a2 o.V.l2.length o.V.c2] 47)).alloc (.cells #[.string ⟨#[]⟩, .slice none 0 0, .slice none 0 0, .slice none 0 0, .slice none 0 0, .int .i64 0] 38) = W1 at HD ⊢
  refine (refRequire_calls _ w0.heap.size V S (.slice ao S.L.length cap) o.n HD.out.pair.row HD.out.pair.v HD.out.pair.base.size HD.out.pair.lok HO.out.n0 HO.out.n1).mono ?_
  rintro e W2 ⟨sl', rfl, hr2, hb⟩
  have HD2 := Lib.hid (HD.out.step hb)
  rw [require_sim HP.out.sim] at hr2
  rw [require_sim HP.out.sim]
  unfold rP VS.x0 VS.x1 VS.x2
  have HR2 := Lib.hid hr2
  clear hb HD hr2
  generalize hX : requireF S o.n = X at HR2 HF ⊢
  have HX := Lib.hid hX
  clear hX
  obtain ⟨cd, S'⟩ := X
  simp only at HR2 HF HX ⊢
  obtain ⟨ao2, cap2, hsl2, -⟩ := row_open HR2.out
  subst hsl2
  have HD3 : Hid (D2 w0 w (W2.alloc (.cells #[.string S'.owner, .slice V.a0 V.l0.length V.c0, .slice V.a1 V.l1.length V.c1, .slice V.a2 V.l2.length V.c2, .slice ao2 S'.L.length cap2, .int .i64 S'.req] 38)) p m o W2.heap.size V S' (.slice ao2 S'.L.length cap2)) := Lib.hid
    ⟨blk_new _ _, blk_alloc HD2.out.o _, Fr.of_below (HD2.out.b.alloc HD2.out.b.size _) (Nat.le_refl _), HD2.out.pair.base.alloc HD2.out.pair.base.size _, ownsRow_below HR2.out ((Below.refl _ _).alloc (Nat.le_refl _) _) (Nat.le_refl _)⟩
  have HP3 := Lib.hid (HD2.out.pair.pool.alloc (.cells #[.string S'.owner, .slice V.a0 V.l0.length V.c0, .slice V.a1 V.l1.length V.c1, .slice V.a2 V.l2.length V.c2, .slice ao2 S'.L.length cap2, .int .i64 S'.req] 38))
  have HY3 : Hid (_ = _) := Lib.hid (blk_alloc HD2.out.y (.cells #[.string S'.owner, .slice V.a0 V.l0.length V.c0, .slice V.a1 V.l1.length V.c1, .slice V.a2 V.l2.length V.c2, .slice ao2 S'.L.length cap2, .int .i64 S'.req] 38))
  have hw2 : w.heap.size + 2 < W2.heap.size := blk_lt HD2.out.y
  go_wp2_with fail
  generalize W2.alloc (.cells #[.string S'.owner, .slice V.a0 V.l0.length V.c0, .slice V.a1 V.l1.length V.c1, .slice V.a2 V.l2.length V.c2, .slice ao2 S'.L.length cap2, .int .i64 S'.req] 38) = W3 at HD3 HP3 HY3 ⊢
  have HD : D2c w0 w W3.drew p m o W2.heap.size V S' (.slice ao2 S'.L.length cap2) := HD3.out.drew.cells
  unfold D2c at HD
  go_region_held3 (fun W => W.cell? ⟨W2.heap.size, 0, none⟩ = some (.string S'.owner) ∧ W.cell? ⟨W2.heap.size, 1, none⟩ = some (.slice V.a0 V.l0.length V.c0) ∧ W.cell? ⟨W2.heap.size, 2, none⟩ = some (.slice V.a1 V.l1.length V.c1) ∧ W.cell? ⟨W2.heap.size, 3, none⟩ = some (.slice V.a2 V.l2.length V.c2) ∧ W.cell? ⟨W2.heap.size, 4, none⟩ = some (.slice ao2 S'.L.length cap2) ∧ W.cell? ⟨W2.heap.size, 5, none⟩ = some (.int .i64 S'.req) ∧
      W.cell? ⟨w.heap.size + 1, 1, none⟩ = some (.string o.ak) ∧ W.cell? ⟨w.heap.size + 1, 2, none⟩ = some (.int .i64 o.aq) ∧ W.cell? ⟨w.heap.size + 1, 3, none⟩ = some (.string o.bk) ∧ W.cell? ⟨w.heap.size + 1, 4, none⟩ = some (.int .i64 o.bq) ∧ W.cell? ⟨w.heap.size + 1, 5, none⟩ = some (.int .i64 o.n) ∧
      W.cell? ⟨w.heap.size + 1, 6, none⟩ = some (.slice o.V.a0 o.V.l0.length o.V.c0) ∧ W.cell? ⟨w.heap.size + 1, 7, none⟩ = some (.slice o.V.a1 o.V.l1.length o.V.c1) ∧ W.cell? ⟨w.heap.size + 1, 8, none⟩ = some (.slice o.V.a2 o.V.l2.length o.V.c2) ∧ D2 w0 w W p m o W2.heap.size V S' (.slice ao2 S'.L.length cap2))
    (first | with_reducible exact HD | with_reducible exact HH5 | with_reducible exact HH4 | with_reducible trivial)
    (first
      | (go_at_call 32
         refine (require_calls _ p m S o.n HP3.out.drew).mono ?_
         rw [HX.out]
         rintro e W4 ⟨rfl, hP4, hF4⟩
         have HP4 := Lib.hid hP4
         have HD4 := Lib.hid (HD3.out.drew.go hF4 HP3.out.drew HP.out.hp HP.out.hm hpl hml (by omega))
         have HH4 := HD4.out.cells
         unfold D2c at HH4
         have HY4 : Hid (W4.heap[w.heap.size + 1 + 1]? = some (.cells zeroP 38 (0, 0))) := Lib.hid ((hF4.block _ (blk_lt HY3.out) (by omega) (by omega)).trans HY3.out)
         obtain ⟨⟨d0, d1, d2, d3, d4, d5⟩, g0, g1, g2, g3, g4, g5⟩ := zcells HY4.out
         have HD5 := Lib.hid (HD4.out.set HY4.out hw2 hB (.string S'.owner) (.slice V.a0 V.l0.length V.c0) (.slice V.a1 V.l1.length V.c1) (.slice V.a2 V.l2.length V.c2) (.slice ao2 S'.L.length cap2) (.int .i64 S'.req))
         have HH5 := HD5.out.cells
         unfold D2c set6 at HH5
         clear hP4 hF4))
  all_goals
    have z6 := six (set6_blk HY4.out (.string S'.owner) (.slice V.a0 V.l0.length V.c0) (.slice V.a1 V.l1.length V.c1) (.slice V.a2 V.l2.length V.c2) (.slice ao2 S'.L.length cap2) (.int .i64 S'.req))
    have HP5 := Lib.hid (set6_pool HP4.out (b := w.heap.size + 1 + 1) (by omega) (by omega) (.string S'.owner) (.slice V.a0 V.l0.length V.c0) (.slice V.a1 V.l1.length V.c1) (.slice V.a2 V.l2.length V.c2) (.slice ao2 S'.L.length cap2) (.int .i64 S'.req))
    have HD6 := HD5
    unfold set6 at z6 HD6 HP5
    rename_i hHeld
    clear hHeld HD HH4 HH5 HD5 d0 d1 d2 d3 d4 d5 g0 g1 g2 g3 g4 g5
    generalize (((((W4.setCell _ _).setCell _ _).setCell _ _).setCell _ _).setCell _ _).setCell _ _ = WF at z6 HD6 HP5 ⊢
    obtain ⟨z0, z1, z2, z3, z4, z5⟩ := z6
    go_wp2_with fail
    have hvl := (require_vl S o.n).1
    have hsm := require_keep HP.out.sim o.n
    rw [HX.out] at hvl hsm
    refine bodyPost_ret (v := .tuple #[.agg #[.string S'.owner, .slice V.a0 V.l0.length V.c0, .slice V.a1 V.l1.length V.c1, .slice V.a2 V.l2.length V.c2, .slice ao2 S'.L.length cap2, .int .i64 S'.req], .bool true]) ?_ rfl
      ⟨m, .slice ao2 S'.L.length cap2, by rw [HF.out]; rfl, by rw [HF.out]; exact ⟨HP5.out, hvl.trans HP.out.vl, HD6.out.row, HP.out.v0, hsm, HD6.out.up, HP.out.hp, HP.out.hm⟩, HD6.out.fr, Or.inl rfl⟩
    simp [results, Tryz.results15, go_sem, z0, z1, z2, z3, z4, z5]

set_option maxRecDepth 100000 in
set_option maxHeartbeats 8000000 in
theorem do_subst (w0 w : World) (p m : Nat) (V : VS) (S : PS) (sl : Value) (o : OpS) (h : Pair w0 w p m V S sl) (ho : o.Ok) (hk : o.kd % 5 = 3) :
    Calls Tryz.prog 15 #[.pointer (some ⟨p, 0, none⟩), rP V S sl, o.val] w (DoPost w0 w p m (doF o V S)) := by
  obtain ⟨ao, cap, hsl, -⟩ := row_open h.row
  subst hsl
  have HD := Lib.hid (DSt.new h o)
  have HP := Lib.hid h
  have hpl := h.pool.lt
  have hml := h.pool.2.lt
  have hB := h.base.size
  have k0 := ho.k0
  have k1 := ho.k1
  have HO := Lib.hid ho
  have HF : Hid (doF o V S = (V, (substF (fV V) S o.ak o.aq o.bk o.bq).2)) := Lib.hid (by unfold doF; rw [if_neg (by omega), if_neg (by omega), if_neg (by omega), if_pos hk])
  clear h ho
  unfold rP OpS.val
  unfold pBox zeroP OpS.box OpS.cells at HD
  unfold VS.x0 VS.x1 VS.x2 at *
  go_enter Tryz.func15, Tryz.ntmps15
  go_wp2_with fail
  generalize ((w.alloc (.cells #[.string S.owner, .slice V.a0 V.l0.length V.c0, .slice V.a1 V.l1.length V.c1, .slice V.a2 V.l2.length V.c2, .slice ao S.L.length cap, .int .i64 S.req] 38)).alloc
    (.cells #[.int .u8 o.kd, .string o.ak, .int .i64 o.aq, .string o.bk, .int .i64 o.bq, .int .i64 o.n, .slice o.V.a0 o.V.l0.length o.V.c0, .slice o.V.a1 o.V.l1.length o.V.c1, .slice o.V.a2 o.V.l2.length o.V.c2] 47)).alloc (.cells #[.string ⟨#[]⟩, .slice none 0 0, .slice none 0 0, .slice none 0 0, .slice none 0 0, .int .i64 0] 38) = W1 at HD ⊢
  refine (refSubst_calls _ w0.heap.size V S (.slice ao S.L.length cap) o.ak o.aq o.bk o.bq HD.out.pair.row HD.out.pair.v HD.out.pair.base.size HD.out.pair.lok HO.out.ka HO.out.kb HO.out.a0 HO.out.a1 HO.out.b0 HO.out.b1).mono ?_
  rintro e W2 ⟨sl', rfl, hr2, hb⟩
  have HD2 := Lib.hid (HD.out.step hb)
  rw [subst_sim HP.out.sim] at hr2
  rw [subst_sim HP.out.sim]
  unfold rP VS.x0 VS.x1 VS.x2
  have HR2 := Lib.hid hr2
  clear hb HD hr2
  generalize hX : substF (fV V) S o.ak o.aq o.bk o.bq = X at HR2 HF ⊢
  have HX := Lib.hid hX
  clear hX
  obtain ⟨cd, S'⟩ := X
  simp only at HR2 HF HX ⊢
  obtain ⟨ao2, cap2, hsl2, -⟩ := row_open HR2.out
  subst hsl2
  have HD3 : Hid (D2 w0 w (W2.alloc (.cells #[.string S'.owner, .slice V.a0 V.l0.length V.c0, .slice V.a1 V.l1.length V.c1, .slice V.a2 V.l2.length V.c2, .slice ao2 S'.L.length cap2, .int .i64 S'.req] 38)) p m o W2.heap.size V S' (.slice ao2 S'.L.length cap2)) := Lib.hid
    ⟨blk_new _ _, blk_alloc HD2.out.o _, Fr.of_below (HD2.out.b.alloc HD2.out.b.size _) (Nat.le_refl _), HD2.out.pair.base.alloc HD2.out.pair.base.size _, ownsRow_below HR2.out ((Below.refl _ _).alloc (Nat.le_refl _) _) (Nat.le_refl _)⟩
  have HP3 := Lib.hid (HD2.out.pair.pool.alloc (.cells #[.string S'.owner, .slice V.a0 V.l0.length V.c0, .slice V.a1 V.l1.length V.c1, .slice V.a2 V.l2.length V.c2, .slice ao2 S'.L.length cap2, .int .i64 S'.req] 38))
  have HY3 : Hid (_ = _) := Lib.hid (blk_alloc HD2.out.y (.cells #[.string S'.owner, .slice V.a0 V.l0.length V.c0, .slice V.a1 V.l1.length V.c1, .slice V.a2 V.l2.length V.c2, .slice ao2 S'.L.length cap2, .int .i64 S'.req] 38))
  have hw2 : w.heap.size + 2 < W2.heap.size := blk_lt HD2.out.y
  go_wp2_with fail
  generalize W2.alloc (.cells #[.string S'.owner, .slice V.a0 V.l0.length V.c0, .slice V.a1 V.l1.length V.c1, .slice V.a2 V.l2.length V.c2, .slice ao2 S'.L.length cap2, .int .i64 S'.req] 38) = W3 at HD3 HP3 HY3 ⊢
  have HD : D2c w0 w W3.drew p m o W2.heap.size V S' (.slice ao2 S'.L.length cap2) := HD3.out.drew.cells
  unfold D2c at HD
  go_region_held3 (fun W => W.cell? ⟨W2.heap.size, 0, none⟩ = some (.string S'.owner) ∧ W.cell? ⟨W2.heap.size, 1, none⟩ = some (.slice V.a0 V.l0.length V.c0) ∧ W.cell? ⟨W2.heap.size, 2, none⟩ = some (.slice V.a1 V.l1.length V.c1) ∧ W.cell? ⟨W2.heap.size, 3, none⟩ = some (.slice V.a2 V.l2.length V.c2) ∧ W.cell? ⟨W2.heap.size, 4, none⟩ = some (.slice ao2 S'.L.length cap2) ∧ W.cell? ⟨W2.heap.size, 5, none⟩ = some (.int .i64 S'.req) ∧
      W.cell? ⟨w.heap.size + 1, 1, none⟩ = some (.string o.ak) ∧ W.cell? ⟨w.heap.size + 1, 2, none⟩ = some (.int .i64 o.aq) ∧ W.cell? ⟨w.heap.size + 1, 3, none⟩ = some (.string o.bk) ∧ W.cell? ⟨w.heap.size + 1, 4, none⟩ = some (.int .i64 o.bq) ∧ W.cell? ⟨w.heap.size + 1, 5, none⟩ = some (.int .i64 o.n) ∧
      W.cell? ⟨w.heap.size + 1, 6, none⟩ = some (.slice o.V.a0 o.V.l0.length o.V.c0) ∧ W.cell? ⟨w.heap.size + 1, 7, none⟩ = some (.slice o.V.a1 o.V.l1.length o.V.c1) ∧ W.cell? ⟨w.heap.size + 1, 8, none⟩ = some (.slice o.V.a2 o.V.l2.length o.V.c2) ∧ D2 w0 w W p m o W2.heap.size V S' (.slice ao2 S'.L.length cap2))
    (first | with_reducible exact HD | with_reducible exact HH5 | with_reducible exact HH4 | with_reducible trivial)
    (first
      | (go_at_call 28
         refine (substitute_calls _ p m S o.ak o.aq o.bk HO.out.kb o.bq 35 (aggV V) w0.heap.size w0 (fV V) 135 (aggV V) HP3.out.drew HP.out.sim.ok (isValuer_prices HP.out.v0) HP.out.vl HD3.out.up.drew HD3.out.up.drew.size HO.out.ka HO.out.kb (fV_range' V)).mono ?_
         rw [HX.out]
         rintro e W4 ⟨rfl, hP4, hF4⟩
         have HP4 := Lib.hid hP4
         have HD4 := Lib.hid (HD3.out.drew.go hF4 HP3.out.drew HP.out.hp HP.out.hm hpl hml (by omega))
         have HH4 := HD4.out.cells
         unfold D2c at HH4
         have HY4 : Hid (W4.heap[w.heap.size + 1 + 1]? = some (.cells zeroP 38 (0, 0))) := Lib.hid ((hF4.block _ (blk_lt HY3.out) (by omega) (by omega)).trans HY3.out)
         obtain ⟨⟨d0, d1, d2, d3, d4, d5⟩, g0, g1, g2, g3, g4, g5⟩ := zcells HY4.out
         have HD5 := Lib.hid (HD4.out.set HY4.out hw2 hB (.string S'.owner) (.slice V.a0 V.l0.length V.c0) (.slice V.a1 V.l1.length V.c1) (.slice V.a2 V.l2.length V.c2) (.slice ao2 S'.L.length cap2) (.int .i64 S'.req))
         have HH5 := HD5.out.cells
         unfold D2c set6 at HH5
         clear hP4 hF4))
  all_goals
    have z6 := six (set6_blk HY4.out (.string S'.owner) (.slice V.a0 V.l0.length V.c0) (.slice V.a1 V.l1.length V.c1) (.slice V.a2 V.l2.length V.c2) (.slice ao2 S'.L.length cap2) (.int .i64 S'.req))
    have HP5 := Lib.hid (set6_pool HP4.out (b := w.heap.size + 1 + 1) (by omega) (by omega) (.string S'.owner) (.slice V.a0 V.l0.length V.c0) (.slice V.a1 V.l1.length V.c1) (.slice V.a2 V.l2.length V.c2) (.slice ao2 S'.L.length cap2) (.int .i64 S'.req))
    have HD6 := HD5
    unfold set6 at z6 HD6 HP5
    rename_i hHeld
    clear hHeld HD HH4 HH5 HD5 d0 d1 d2 d3 d4 d5 g0 g1 g2 g3 g4 g5
    generalize (((((W4.setCell _ _).setCell _ _).setCell _ _).setCell _ _).setCell _ _).setCell _ _ = WF at z6 HD6 HP5 ⊢
    obtain ⟨z0, z1, z2, z3, z4, z5⟩ := z6
    go_wp2_with fail
    have hvl := (subst_vl (fV V) S o.ak o.aq o.bk o.bq).1
    have hsm := subst_keep (fV_ok V).nn HP.out.sim o.ak o.aq o.bk o.bq
    rw [HX.out] at hvl hsm
    refine bodyPost_ret (v := .tuple #[.agg #[.string S'.owner, .slice V.a0 V.l0.length V.c0, .slice V.a1 V.l1.length V.c1, .slice V.a2 V.l2.length V.c2, .slice ao2 S'.L.length cap2, .int .i64 S'.req], .bool true]) ?_ rfl
      ⟨m, .slice ao2 S'.L.length cap2, by rw [HF.out]; rfl, by rw [HF.out]; exact ⟨HP5.out, hvl.trans HP.out.vl, HD6.out.row, HP.out.v0, hsm, HD6.out.up, HP.out.hp, HP.out.hm⟩, HD6.out.fr, Or.inl rfl⟩
    simp [results, Tryz.results15, go_sem, z0, z1, z2, z3, z4, z5]
end Go.Proofs.YtjjnljfphaimgaaGreatDoor.C
