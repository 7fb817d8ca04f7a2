/- Contracts and plain laws, without conditions beyond each theorem's own: ident: letters, digits, expand, luhn. ident.luhn. ident.kinds, classes, prefix. ident.prefix. ident.Check and ident.Valid at securities and members. giroref05: letter, digit, may, Lengths. giroref05: Expand, Luhn. -/
import Derived.Laws.EntriesVeiled
import Derived.Deep.AppendLies
import Derived.Shelf.Abstract
import Derived.Test.YtjjnljfphaimgaaDoorK02
set_option linter.all false
/- ident: letters, digits, expand, luhn. -/
namespace Go.Proofs.YtjjnljfphaimgaaDoor.C
open Go Go.RowKit Go.Shelf Go.Proofs

def upB (c : Nat) : Bool := decide (65 ≤ c) && decide (c ≤ 90)
def dgB (c : Nat) : Bool := decide (48 ≤ c) && decide (c ≤ 57)
def anB (c : Nat) : Bool := upB c || dgB c

set_option maxRecDepth 100000 in
theorem letter_calls (c : Nat) (w : World) : Calls Tryd.prog 50 #[.int .u8 c] w fun e w' => e = .returned (.bool (upB c)) ∧ w = w' := by
  by_cases h1 : 65 ≤ c
  all_goals by_cases h2 : c ≤ 90
  all_goals go_enter Tryd.func50, Tryd.ntmps50
  all_goals go_wp2
  all_goals go_ret
  all_goals exact ⟨by simp [upB, h1, h2]; try omega, rfl⟩
set_option maxRecDepth 100000 in
theorem digit_calls (c : Nat) (w : World) : Calls Tryd.prog 52 #[.int .u8 c] w fun e w' => e = .returned (.bool (dgB c)) ∧ w = w' := by
  by_cases h1 : 48 ≤ c
  all_goals by_cases h2 : c ≤ 57
  all_goals go_enter Tryd.func52, Tryd.ntmps52
  all_goals go_wp2
  all_goals go_ret
  all_goals exact ⟨by simp [dgB, h1, h2]; try omega, rfl⟩
theorem alnum_calls (c : Nat) (w : World) : Calls Tryd.prog 51 #[.int .u8 c] w fun e w' => e = .returned (.bool (anB c)) ∧ w = w' := by
  go_enter Tryd.func51, Tryd.ntmps51
  go_wp2_with (first | (go_at_call 50; refine (letter_calls c _).mono ?_; rintro e w' ⟨rfl, rfl⟩) | (go_at_call 52; refine (digit_calls c _).mono ?_; rintro e w' ⟨rfl, rfl⟩))
  all_goals go_ret
  all_goals exact ⟨by simp_all [anB], rfl⟩

/-- The digits of the value of a letter or digit. -/
def digs (c : Nat) : List Nat := if dgB c = true then [c - 48] else [(c - 65 + 10) / 10, (c - 65 + 10) % 10]
def expN (l : List UInt8) : List Nat := l.flatMap fun c => digs c.toNat
def expS (l : List UInt8) : List UInt8 := (expN l).map fun d => UInt8.ofNat (48 + d)
theorem expS_snoc (l : List UInt8) (c : UInt8) : expS (l ++ [c]) = expS l ++ (digs c.toNat).map fun d => UInt8.ofNat (48 + d) := by
  simp [expS, expN]
theorem digs_dig {c : UInt8} (h : dgB c.toNat = true) : (digs c.toNat).map (fun d => UInt8.ofNat (48 + d)) = [c] := by
  unfold digs; rw [if_pos h]
  simp only [dgB, Bool.and_eq_true, decide_eq_true_eq] at h
  simp only [List.map_cons, List.map_nil, List.cons.injEq, and_true]
  rw [show 48 + (c.toNat - 48) = c.toNat from by omega]
  exact UInt8.ofNat_toNat
theorem digs_up {c : Nat} (h : dgB c = false) (h0 : 65 ≤ c) (h1 : c ≤ 90) : (digs c).map (fun d => UInt8.ofNat (48 + d)) = Lib.decDigits (c - 65 + 10) := by
  unfold digs; rw [if_neg (by simp [h])]
  rw [Lib.decDigits, dif_neg (by omega), Lib.decDigits, dif_pos (by omega)]
  rfl
theorem expS_length (l : List UInt8) : (expS l).length ≤ 2 * l.length := by
  induction l with
  | nil => simp [expS, expN]
  | cons c r ih =>
    have : (digs c.toNat).length ≤ 2 := by unfold digs; split <;> simp
    simp only [expS, expN, List.flatMap_cons, List.length_map, List.length_append, List.length_cons] at ih ⊢
    omega

theorem itoa_calls (n : Int) (w : World) (h0 : 0 ≤ n) (h1 : n < 100) : Calls Tryd.prog 71 #[.int .i64 n] w fun e w' => e = .returned (.string ⟨(Lib.decDigits n.toNat).toArray⟩) ∧ w = w' := by
  obtain ⟨i, rfl⟩ := Int.eq_ofNat_of_zero_le h0
  exact (Tryd.strconv_Itoa_small i (by omega) w).mono fun e w' ⟨he, hw⟩ => ⟨by simpa using he, hw.symm⟩
def StrPost (l : List UInt8) (B : Nat) (w : World) (e : Ending) (w' : World) : Prop := e = .returned (.string ⟨l.toArray⟩) ∧ Below B w w'

set_option maxRecDepth 100000 in
set_option maxHeartbeats 4000000 in
theorem expand_calls (s : ByteArray) (w : World) (hs : s.size ≤ 100) (ha : ∀ c ∈ s.data.toList, anB c.toNat = true) :
    Calls Tryd.prog 70 #[.string s] w (StrPost (expS s.data.toList) w.heap.size w) := by
  have HA := Lib.hid ha
  clear ha
  go_enter Tryd.func70, Tryd.ntmps70
  go_wp2
  go_loopw [7] (fun v7 wr => ∃ k : Nat, k ≤ s.size ∧ v7 = .int .i64 k ∧ Hid (Lib.IsBuilder 131 5 w.heap.size w.heap.size (Lib.byteCells (expS (s.data.toList.take k))) wr) ∧ Hid (Below w.heap.size w wr)) (fun v7 _ => s.size - (intOf v7).toNat)
  case atStart =>
    refine ⟨0, Nat.zero_le _, rfl, Lib.hid ?_, Lib.hid ((Below.refl _ _).alloc (Nat.le_refl _) _)⟩
    refine Or.inl ⟨Nat.le_refl _, .slice none 0 0, blk_new _ _, World.ownsRow_nil _ _ _ _, by simp [Value.ownBlock]⟩
  case round =>
    obtain ⟨k, hk, rfl, HI, HB⟩ := hrel
    by_cases hlt : k < s.size
    · have hmem : s[k] ∈ s.data.toList := by
        have : s[k] = s.data.toList[k]'(by simpa using hlt) := by simp [ByteArray.getElem_eq_getElem_data]
        rw [this]; exact List.getElem_mem _
      have hts : s.data.toList.take (k + 1) = s.data.toList.take k ++ [s[k]] := by
        rw [List.take_succ_eq_append_getElem (by simpa using hlt)]
        simp [ByteArray.getElem_eq_getElem_data]
      have han := HA.out _ hmem
      have HTS := Lib.hid hts
      have hll : (Lib.byteCells (expS (s.data.toList.take k))).length ≤ 200 := by
        rw [Lib.byteCells_length]
        have := expS_length (s.data.toList.take k)
        have h2 : (s.data.toList.take k).length ≤ k := List.length_take_le _ _
        omega
      have HLL := Lib.hid hll
      have hsz := HB.out.size
      clear hts hmem hll
      cases hd : dgB s[k].toNat
      · have hup : upB s[k].toNat = true := by simpa [anB, hd] using han
        simp only [upB, Bool.and_eq_true, decide_eq_true_eq] at hup
        obtain ⟨u0, u1⟩ := hup
        have HD := Lib.hid hd
        clear han
        go_wp2_with (go_at_call 52; refine (digit_calls _ _).mono ?_; rintro e w' ⟨rfl, rfl⟩)
        refine (itoa_calls _ _ (by omega) (by omega)).mono ?_
        rintro e w2 ⟨rfl, rfl⟩
        go_wp2_with fail
        have hdl : (Lib.decDigits (s[k].toNat - 65 + 10)).length = 2 := by
          rw [← digs_up HD.out u0 u1]
          unfold digs; rw [if_neg (by rw [HD.out]; simp)]; rfl
        have hsl : (ByteArray.mk (Lib.decDigits (s[k].toNat - 65 + 10)).toArray).size = 2 := by
          show (Lib.decDigits (s[k].toNat - 65 + 10)).toArray.size = 2
          rw [List.size_toArray]; exact hdl
        have hll := HLL.out
        refine (writeString_calls w.heap.size w.heap.size _ _ _ HI.out (by omega) HB.out.size).mono ?_
        rintro e w3 ⟨rfl, h3, hb3⟩
        have H3 := Lib.hid h3
        have HB3 := Lib.hid (HB.out.trans hb3)
        clear h3 hb3 hdl hsl hll
        go_wp2_with fail
        go_roundw
        case rel =>
          refine ⟨k + 1, by omega, by go_num, Lib.hid (Or.inr ?_), HB3⟩
          rw [HTS.out, expS_snoc, digs_up HD.out u0 u1]
          have := H3.out
          rw [Lib.strCells_eq] at this
          simpa [Lib.byteCells] using this
        case measure => simp [intOf]; omega
      · have HD := Lib.hid hd
        have hll := HLL.out
        clear han
        go_wp2_with (first
          | (go_at_call 52; refine (digit_calls _ _).mono ?_; rintro e w' ⟨rfl, rfl⟩)
          | (go_at_call 78; refine (writeByte_calls w.heap.size w.heap.size _ _ _ HI.out (by omega) HB.out.size).mono ?_; rintro e w2 ⟨rfl, h2, hb2⟩))
        refine ⟨⟨k + 1, by omega, by go_num, Lib.hid (Or.inr ?_), Lib.hid (HB.out.trans hb2)⟩, by simp [intOf]; omega⟩
        rw [HTS.out, expS_snoc, digs_dig HD.out]
        simpa [Lib.byteCells] using h2
    · obtain rfl : k = s.size := by omega
      have htk : s.data.toList.take s.size = s.data.toList := List.take_of_length_le (by simp)
      have HII := Lib.hid HI.out
      rw [htk] at HII
      go_wp2_with (go_at_call 80; refine (Tryd.Builder_String_any _ _ _ _ HII.out HB.out.size).mono ?_; rintro e w2 ⟨rfl, hb2⟩)
      go_ret
      exact ⟨rfl, HB.out.trans hb2⟩
end Go.Proofs.YtjjnljfphaimgaaDoor.C
/- ident.luhn. -/
namespace Go.Proofs.YtjjnljfphaimgaaDoor.C
open Go Go.RowKit Go.Shelf Go.Proofs

def lterm (d i : Nat) : Nat := (if i % 2 = 0 then 2 * d else d) / 10 + (if i % 2 = 0 then 2 * d else d) % 10
def luhnTo (e : List Nat) : Nat → Nat
  | 0 => 0
  | i + 1 => luhnTo e i + lterm (e.getD (e.length - 1 - i) 0) i
def luhnN (e : List Nat) : Nat := (10 - luhnTo e e.length % 10) % 10
theorem lterm_le {d i : Nat} (h : d ≤ 9) : lterm d i ≤ 9 := by unfold lterm; split <;> omega
theorem luhnTo_le (e : List Nat) (h : ∀ d ∈ e, d ≤ 9) : ∀ i, luhnTo e i ≤ 9 * i
  | 0 => by simp [luhnTo]
  | i + 1 => by
    have h1 := luhnTo_le e h i
    have h2 : lterm (e.getD (e.length - 1 - i) 0) i ≤ 9 := by
      refine lterm_le ?_
      rw [List.getD_eq_getElem?_getD]
      cases hg : e[e.length - 1 - i]? with
      | none => simp
      | some d => exact h d (List.mem_of_getElem? hg)
    simp only [luhnTo]; omega
theorem digs_le {c : Nat} (h : anB c = true) : ∀ d ∈ digs c, d ≤ 9 := by
  intro d hd
  unfold digs at hd
  simp only [anB, upB, dgB, Bool.or_eq_true, Bool.and_eq_true, decide_eq_true_eq] at h
  by_cases hg : dgB c = true
  · rw [if_pos hg] at hd
    simp only [dgB, Bool.and_eq_true, decide_eq_true_eq] at hg
    simp at hd; omega
  · rw [if_neg hg] at hd
    simp only [dgB, Bool.and_eq_true, decide_eq_true_eq] at hg
    simp at hd; omega
theorem expN_le {l : List UInt8} (h : ∀ c ∈ l, anB c.toNat = true) : ∀ d ∈ expN l, d ≤ 9 := by
  intro d hd
  obtain ⟨c, hc, hd⟩ := List.mem_flatMap.1 hd
  exact digs_le (h c hc) d hd

set_option maxRecDepth 100000 in
set_option maxHeartbeats 4000000 in
theorem luhn_calls (s : ByteArray) (w : World) (hs : s.size ≤ 100) (ha : ∀ c ∈ s.data.toList, anB c.toNat = true) :
    Calls Tryd.prog 53 #[.string s] w (StrPost (Lib.decDigits (luhnN (expN s.data.toList))) w.heap.size w) := by
  have hle := expN_le ha
  have hlen : (expN s.data.toList).length ≤ 200 := by
    have := expS_length s.data.toList
    simp only [expS, List.length_map] at this
    have h2 : s.data.toList.length = s.size := by simp
    omega
  go_enter Tryd.func53, Tryd.ntmps53
  go_wp2_with fail
  refine (expand_calls s w hs ha).mono ?_
  rintro e w1 ⟨rfl, hb⟩
  have HB1 := Lib.hid hb
  clear hb ha
  unfold expS
  generalize hel : expN s.data.toList = el at hle hlen ⊢
  have HEL := Lib.hid hel
  clear hel
  have HT : Hid (∃ t : ByteArray, t = ⟨(el.map fun d => UInt8.ofNat (48 + d)).toArray⟩) := ⟨_, rfl⟩
  obtain ⟨t, ht⟩ := HT.out
  have hts : t.size = el.length := by rw [ht]; show (el.map fun d => UInt8.ofNat (48 + d)).toArray.size = _; simp
  have htb : ∀ j (h : j < t.size), (t[j].toNat : Int) = 48 + (el.getD j 0 : Nat) := by
    intro j h
    have hj : j < el.length := by omega
    subst ht
    have e1 : (ByteArray.mk (el.map fun d => UInt8.ofNat (48 + d)).toArray)[j] = UInt8.ofNat (48 + el[j]) := by
      simp [ByteArray.getElem_eq_getElem_data]
    have h9 := hle _ (List.getElem_mem hj)
    rw [e1, List.getD_eq_getElem?_getD, List.getElem?_eq_getElem hj]
    simp only [UInt8.toNat_ofNat', Option.getD_some]
    omega
  rw [← ht]
  have HTB := Lib.hid htb
  have HTS := Lib.hid hts
  have HLE := Lib.hid (luhnTo_le el hle)
  clear htb hts ht HT
  have htl : t.size ≤ 200 := by have := HTS.out; omega
  go_wp2
  go_loop [4, 11] (fun v4 v11 => ∃ k : Nat, ∃ sm : Nat, k ≤ t.size ∧ v11 = .int .i64 k ∧ v4 = .int .i64 sm ∧ sm ≤ 9 * k ∧ Hid (sm = luhnTo el k)) (fun _ v11 => t.size - (intOf v11).toNat)
  case atStart => exact ⟨0, 0, Nat.zero_le _, rfl, rfl, by omega, Lib.hid rfl⟩
  case round =>
    obtain ⟨k, sm, hk, rfl, rfl, hsm, HSM⟩ := hrel
    by_cases hlt : k < t.size
    · have hj : t.size - 1 - k < t.size := by omega
      have htj := HTB.out _ hj
      have hd9 : el[t.size - 1 - k]?.getD 0 ≤ 9 := by
        cases hg : el[t.size - 1 - k]? with
        | none => simp
        | some d => exact hle d (List.mem_of_getElem? hg)
      have hsucc : luhnTo el (k + 1) = luhnTo el k + lterm (el[t.size - 1 - k]?.getD 0) k := by
        show luhnTo el k + lterm (el.getD (el.length - 1 - k) 0) k = _
        rw [← HTS.out, List.getD_eq_getElem?_getD]
      have HSC := Lib.hid hsucc
      have HD9 := Lib.hid hd9
      clear hsucc hd9 hle
      go_wp2_with fail
      · rename_i hp
        have hd9 := HD9.out
        have hp2 : k % 2 = 0 := by have : (k : Int) % 2 = 0 := by simpa using hp
                                   omega
        have hlt9 := lterm_le (i := k) hd9
        refine ⟨⟨k + 1, sm + lterm (el[t.size - 1 - k]?.getD 0) k, by omega, by go_num, ?_, by omega, Lib.hid (by rw [HSC.out, ← HSM.out])⟩, by simp [intOf]; omega⟩
        generalize el[t.size - 1 - k]?.getD 0 = d at hd9
        congr 1
        unfold lterm
        rw [if_pos hp2]
        omega
      · rename_i hp
        have hd9 := HD9.out
        have hp2 : ¬ k % 2 = 0 := by have : ¬ (k : Int) % 2 = 0 := by simpa using hp
                                     omega
        have hlt9 := lterm_le (i := k) hd9
        refine ⟨⟨k + 1, sm + lterm (el[t.size - 1 - k]?.getD 0) k, by omega, by go_num, ?_, by omega, Lib.hid (by rw [HSC.out, ← HSM.out])⟩, by simp [intOf]; omega⟩
        generalize el[t.size - 1 - k]?.getD 0 = d at hd9
        congr 1
        unfold lterm
        rw [if_neg hp2]
        omega
    · obtain rfl : k = t.size := by omega
      have HL : Hid (luhnN el = (10 - sm % 10) % 10) := by
        show luhnN el = _
        unfold luhnN; rw [← HTS.out, ← HSM.out]
      clear hle
      go_wp2_with fail
      refine (itoa_calls _ _ (by omega) (by omega)).mono ?_
      rintro e w2 ⟨rfl, rfl⟩
      go_wp2
      go_ret
      refine ⟨?_, HB1.out⟩
      rw [HEL.out, HL.out]
      have hx : (-((sm : Int) % 10) % 10).toNat = (10 - sm % 10) % 10 := by omega
      show Ending.returned (.string ⟨(Lib.decDigits (-((sm : Int) % 10) % 10).toNat).toArray⟩) = _
      rw [hx]
end Go.Proofs.YtjjnljfphaimgaaDoor.C
/- ident.kinds, classes, prefix. -/
namespace Go.Proofs.YtjjnljfphaimgaaDoor.C
open Go Go.RowKit Go.Shelf Go.Proofs

def fv (g : Nat) : Value := .func (.func g) #[] #[]
def kindsV (b1 b2 b3 b4 : Nat) : Array Value :=
  #[.int .i64 12, .slice (some ⟨b1, 0, none⟩) 3 3, .int .i64 11, fv 53, .int .i64 4, .slice (some ⟨b2, 0, none⟩) 2 2, .int .i64 0, .nilFunc,
    .int .i64 1, .slice (some ⟨b3, 0, none⟩) 1 1, .int .i64 0, .nilFunc, .int .i64 20, .slice (some ⟨b4, 0, none⟩) 2 2, .int .i64 18, fv 55]
def KindsPost (w : World) (e : Ending) (w' : World) : Prop :=
  ∃ b1 b2 b3 b4, e = .returned (.agg (kindsV b1 b2 b3 b4)) ∧ w'.heap[b1]? = some (.cells #[.int .i64 2, fv 50, .int .i64 9, fv 51, .int .i64 1, fv 52] 107 (0, 0)) ∧
    w'.heap[b2]? = some (.cells #[.int .i64 1, fv 50, .int .i64 7, fv 51] 107 (0, 0)) ∧ Below w.heap.size w w'

set_option maxRecDepth 100000 in
set_option maxHeartbeats 4000000 in
theorem kinds_calls (w : World) : Calls Tryd.prog 39 #[] w (KindsPost w) := by
  go_enter Tryd.func39, Tryd.ntmps39
  go_wp2
  refine bodyPost_ret (v := .agg (kindsV (w.heap.size + 1) (w.heap.size + 1 + 1) (w.heap.size + 1 + 1 + 1) (w.heap.size + 1 + 1 + 1 + 1))) ?_ rfl ?_
  · simp [results, Tryd.results39, go_sem, kindsV, fv]
  · refine ⟨_, _, _, _, rfl, ?_, ?_, ?_⟩
    · refine blk_alloc (blk_alloc (blk_alloc ?_ _) _) _
      have := blk_new (w.alloc (.cells (kindsV (w.heap.size + 1) (w.heap.size + 1 + 1) (w.heap.size + 1 + 1 + 1) (w.heap.size + 1 + 1 + 1 + 1)) 92)) (.cells #[.int .i64 2, fv 50, .int .i64 9, fv 51, .int .i64 1, fv 52] 107 (0, 0))
      simpa [kindsV, fv] using this
    · refine blk_alloc (blk_alloc ?_ _) _
      have := blk_new ((w.alloc (.cells (kindsV (w.heap.size + 1) (w.heap.size + 1 + 1) (w.heap.size + 1 + 1 + 1) (w.heap.size + 1 + 1 + 1 + 1)) 92)).alloc (.cells #[.int .i64 2, fv 50, .int .i64 9, fv 51, .int .i64 1, fv 52] 107 (0, 0))) (.cells #[.int .i64 1, fv 50, .int .i64 7, fv 51] 107 (0, 0))
      simpa [kindsV, fv] using this
    · go_grown

/-- The classes of a kind's positions. -/
def clsL (sp : List (Nat × Nat)) : List Value := sp.flatMap fun x => List.replicate x.1 (fv x.2)
def spanRow (sp : List (Nat × Nat)) : List Value := sp.flatMap fun x => [.int .i64 x.1, fv x.2]
theorem spanRow_get : ∀ (sp : List (Nat × Nat)) (k : Nat) (h : k < sp.length), (spanRow sp)[k * 2]? = some (.int .i64 sp[k].1) ∧ (spanRow sp)[k * 2 + 1]? = some (fv sp[k].2)
  | a :: r, 0, _ => ⟨rfl, rfl⟩
  | a :: r, k + 1, h => by
    have := spanRow_get r k (by simpa using h)
    rw [show spanRow (a :: r) = .int .i64 a.1 :: fv a.2 :: spanRow r from rfl, show (k + 1) * 2 = k * 2 + 2 from by omega, show k * 2 + 2 + 1 = k * 2 + 1 + 2 from by omega]
    simpa using this
theorem clsL_length (sp : List (Nat × Nat)) (i : Nat) (h : ∀ p ∈ sp, p.1 ≤ 20) : (clsL (sp.take i)).length ≤ 20 * sp.length := by
  induction sp generalizing i with
  | nil => simp [clsL]
  | cons a r ih =>
    cases i with
    | zero => simp [clsL]
    | succ i =>
      have h1 := ih i (fun p hp => h p (by simp [hp]))
      have h2 := h a (by simp)
      simp only [clsL, List.take_succ_cons, List.flatMap_cons, List.length_append, List.length_replicate, List.length_cons] at h1 ⊢
      omega
theorem ownRow_ne {w : World} {base e size n b : Nat} {v : Value} {xs : List Value} {cs : Array Value} {t : TypeId} {z : Nat × Nat} (h : w.ownsRow base e size v n xs) (hb : w.heap[b]? = some (.cells cs t z)) (hne : t ≠ e) : v.ownBlock ≠ some b := by
  intro he
  rcases h.2 with ⟨rfl, _⟩ | ⟨g, cap, cur, rfl, _, hg, _⟩
  · cases he
  · simp only [Value.ownBlock, Option.some.injEq] at he
    subst he
    rw [hg] at hb
    simp only [Option.some.injEq, Obj.cells.injEq] at hb
    exact hne hb.2.1.symm
def ClsPost (sp : List (Nat × Nat)) (w : World) (e : Ending) (w' : World) : Prop :=
  ∃ v, e = .returned v ∧ w'.ownsRow w.heap.size 105 1 v (clsL sp).length (clsL sp) ∧ Below w.heap.size w w'
theorem info131 : (Tryd.prog.info? 105).map (fun i => (i.zero, i.size, i.bytes)) = some (some .nilFunc, 1, 8) := by kernel_rfl

set_option maxRecDepth 100000 in
set_option maxHeartbeats 4000000 in
theorem classes_calls (w : World) (b : Nat) (sp : List (Nat × Nat)) (x y z : Value) (hb : w.heap[b]? = some (.cells (spanRow sp).toArray 107 (0, 0))) (hl : sp.length ≤ 10) (hn : ∀ p ∈ sp, p.1 ≤ 20)
    (hx : x = .int .i64 12 ∨ x = .int .i64 4) (hz : z = fv 53 ∨ z = .nilFunc) (hy : y = .int .i64 11 ∨ y = .int .i64 0) :
    Calls Tryd.prog 41 #[.agg #[x, .slice (some ⟨b, 0, none⟩) sp.length sp.length, y, z]] w (ClsPost sp w) := by
  obtain ⟨i0, hi, hz0, hz1, hz2⟩ := info_parts info131
  have HB := Lib.hid hb
  have HN := Lib.hid hn
  have hblt : b < w.heap.size := blk_lt hb
  have HBW := Lib.hid ((Below.refl w.heap.size w).alloc (Nat.le_refl _) (.cells #[x, .slice (some ⟨b, 0, none⟩) sp.length sp.length, y, z] 91))
  clear hb hn
  go_enter Tryd.func41, Tryd.ntmps41
  go_wp2
  have HBX := Lib.hid HBW.out
  generalize w.alloc (.cells #[x, .slice (some ⟨b, 0, none⟩) sp.length sp.length, y, z] 91) = W1 at HBX ⊢
  clear hx hy hz HBW
  go_loopw [3, 9] (fun v3 v9 wr => ∃ i : Nat, i ≤ sp.length ∧ v9 = .int .i64 i ∧ Hid (wr.ownsRow w.heap.size 105 1 v3 (clsL (sp.take i)).length (clsL (sp.take i))) ∧ Hid (Below w.heap.size w wr)) (fun _ v9 _ => sp.length - (intOf v9).toNat)
  case atStart => exact ⟨0, Nat.zero_le _, rfl, Lib.hid (World.ownsRow_nil _ _ _ _), HBX⟩
  case round =>
    obtain ⟨i, hik, rfl, HO, HBr⟩ := hrel
    by_cases hlt : i < sp.length
    · have hbr : wr.heap[b]? = _ := (HBr.out.block b hblt).trans HB.out
      have x0 : wr.cell? ⟨b, i * 2, none⟩ = some (.int .i64 sp[i].1) := by
        rw [blk_cell hbr]; simpa using (spanRow_get sp i hlt).1
      have x1 : wr.cell? ⟨b, i * 2 + 1, none⟩ = some (fv sp[i].2) := by
        rw [blk_cell hbr]; simpa using (spanRow_get sp i hlt).2
      have HN1 := HN.out _ (List.getElem_mem hlt)
      have HTK : Hid (clsL (sp.take (i + 1)) = clsL (sp.take i) ++ List.replicate sp[i].1 (fv sp[i].2)) := by
        show clsL _ = _
        unfold clsL; rw [List.take_succ_eq_append_getElem hlt, List.flatMap_append]; simp
      clear hbr
      generalize sp[i] = pr at x0 x1 HN1 HTK
      obtain ⟨pn, pg⟩ := pr
      simp only at x0 x1 HN1 HTK
      unfold fv at x1
      have hlen0 : (clsL (sp.take i)).length ≤ 20 * sp.length := clsL_length sp i HN.out
      generalize hL0 : clsL (sp.take i) = L0 at HO HTK hlen0
      have HL0 := Lib.hid hL0
      clear hL0
      obtain ⟨wo, hwo⟩ : ∃ wo : World, wo = wr := ⟨_, rfl⟩
      subst hwo
      go_wp2
      have HB5 := Lib.hid (blk_new wo (.cells #[.int .i64 pn, .func (.func pg) #[] #[]] 107))
      have HO5 := Lib.hid (HO.out.alloc (.cells #[.int .i64 pn, .func (.func pg) #[] #[]] 107))
      have HBl5 := Lib.hid (HBr.out.alloc HBr.out.size (.cells #[.int .i64 pn, .func (.func pg) #[] #[]] 107))
      clear x0 x1
      generalize wo.alloc (.cells #[.int .i64 pn, .func (.func pg) #[] #[]] 107) = W5 at HB5 HO5 HBl5 ⊢
      generalize wo.heap.size = b5 at HB5 ⊢
      go_loopw [3, 15] (fun v3 v15 wq => ∃ j : Nat, j ≤ pn ∧ v15 = .int .i64 j ∧ Hid (wq.ownsRow w.heap.size 105 1 v3 (L0.length + j) (L0 ++ List.replicate j (fv pg))) ∧ Hid (Below w.heap.size w wq) ∧ Hid (wq.heap[b5]? = some (Obj.cells #[.int .i64 pn, .func (.func pg) #[] #[]] 107 (0, 0)))) (fun _ v15 _ => pn - (intOf v15).toNat)
      case atStart => exact ⟨0, Nat.zero_le _, rfl, Lib.hid (by simpa using HO5.out), HBl5, HB5⟩
      case round =>
        obtain ⟨j, hjn, rfl, HOj, HBj, HCj⟩ := hrel
        by_cases hjlt : j < pn
        · have y1 := (blk_cell HCj.out 1).trans rfl
          go_wp2_with (at_builtin; refine wpList_append_own _ rfl _ _ 95 rfl w.heap.size 105 i0 .nilFunc 1 8 Tryd.underlying95 hi hz0 hz1 hz2 rfl (by decide) _ _ _ rfl (HOj.out.alloc _) ⟨wr.heap.size, 0, none⟩ 1 1 [.func (.func pg) #[] #[]] rfl rfl ?c1 ?c2 ?c3 ?c4 ?c5 ?_; rotate_right; intro v' w3 hown3 hgr3 _)
          case roundEnd =>
            refine ⟨⟨j + 1, by omega, by go_num, Lib.hid ?_, Lib.hid ?_, Lib.hid ?_⟩, by simp [intOf]; omega⟩
            · have := hown3
              rw [List.append_assoc] at this
              rw [List.replicate_succ']
              exact this
            · exact (HBj.out.alloc HBj.out.size _).grown hgr3 (by have := HBj.out.size; simp; omega) fun q hq => (HOj.out.lt q hq).1
            · rw [hgr3.block b5 (by have := blk_lt HCj.out; simp; omega) (fun e => ownRow_ne HOj.out HCj.out (by decide) e.symm)]
              exact blk_alloc HCj.out _
          case c1 => exact World.news_of_block (cs := #[.func (.func pg) #[] #[]]) (blk_new wr _)
          case c2 => simp [Value.oneCell']
          case c3 => unfold maxLen; omega
          case c4 => omega
          case c5 => have := HBj.out.size; simp; omega
        · obtain rfl : j = pn := by omega
          have HTT : Hid ((clsL (sp.take (i + 1))).length = L0.length + j) := by
            show _ = _
            rw [HTK.out]; simp
          go_wp2
          refine ⟨⟨i + 1, by omega, by go_num, Lib.hid ?_, HBj⟩, by simp [intOf]; omega⟩
          rw [HTT.out, HTK.out]
          exact HOj.out
    · obtain rfl : i = sp.length := by omega
      have htk : sp.take sp.length = sp := List.take_length
      have HOO := Lib.hid HO.out
      rw [htk] at HOO
      go_wp2
      go_ret
      exact ⟨_, rfl, HOO.out, HBr.out⟩
end Go.Proofs.YtjjnljfphaimgaaDoor.C
/- ident.prefix. -/
namespace Go.Proofs.YtjjnljfphaimgaaDoor.C
open Go Go.RowKit Go.Shelf Go.Proofs

/-- A class: a function's number and what it tells. -/
structure Cls where
  g : Nat
  p : Nat → Bool
  enters : ∀ args w, (callFunc g args).run Tryd.prog w = .ok (.enter g args) w
  calls : ∀ (c : Nat) (w : World), Calls Tryd.prog g #[.int .u8 c] w fun e w' => e = .returned (.bool (p c)) ∧ w = w'

def prefOK (cls : List Cls) (shortest : Nat) (l : List UInt8) : Bool :=
  decide (shortest ≤ l.length) && decide (l.length ≤ cls.length) && (l.zip cls).all fun x => x.2.p x.1.toNat
theorem toList_get (s : ByteArray) (k : Nat) (h : k < s.size) : s.data.toList[k]'(by simpa using h) = s[k] := by simp [ByteArray.getElem_eq_getElem_data]
theorem prefOK_false {cls : List Cls} {sh : Nat} {s : ByteArray} {k : Nat} (hk : k < cls.length) (hs : k < s.size) (hp : cls[k].p s[k].toNat = false) : prefOK cls sh s.data.toList = false := by
  unfold prefOK
  have : ((s.data.toList.zip cls).all fun x => x.2.p x.1.toNat) = false := by
    rw [List.all_eq_false]
    refine ⟨(s[k], cls[k]), ?_, by simpa using hp⟩
    rw [List.mem_iff_getElem]
    refine ⟨k, by simp [List.length_zip]; omega, ?_⟩
    rw [List.getElem_zip, toList_get s k hs]
  rw [this]; simp
theorem prefOK_all {cls : List Cls} {sh : Nat} {s : ByteArray} (h : ∀ j (h : j < cls.length) (h' : j < s.size), cls[j].p s[j].toNat = true) : prefOK cls sh s.data.toList = (decide (sh ≤ s.size) && decide (s.size ≤ cls.length)) := by
  unfold prefOK
  have : ((s.data.toList.zip cls).all fun x => x.2.p x.1.toNat) = true := by
    rw [List.all_eq_true]
    intro x hx
    obtain ⟨j, hj, rfl⟩ := List.getElem_of_mem hx
    simp only [List.length_zip, Array.length_toList] at hj
    have hj' : j < s.size := by have : s.data.size = s.size := rfl
                                omega
    rw [List.getElem_zip]
    show (cls[j]).p (s.data.toList[j]).toNat = true
    rw [toList_get s j hj']
    exact h j (by omega) hj'
  have e : s.data.toList.length = s.size := by simp
  rw [this, e]; simp
def PrefPost (ok : Bool) (B : Nat) (w : World) (e : Ending) (w' : World) : Prop :=
  ∃ at_ er : Int, e = .returned (.tuple #[.int .i64 at_, .int .i64 er]) ∧ decide (er = 0) = ok ∧ Below B w w'

set_option maxRecDepth 100000 in
set_option maxHeartbeats 4000000 in
theorem prefix_calls (w : World) (v : Value) (cls : List Cls) (sh : Nat) (s : ByteArray) (B : Nat) (hv : w.ownsRow B 105 1 v cls.length (cls.map fun x => fv x.g)) (h0 : 0 < cls.length) (h1 : cls.length ≤ 100) (hsh : sh ≤ 100) (hs : s.size ≤ maxLen) :
    Calls Tryd.prog 40 #[v, .int .i64 sh, .string s] w (PrefPost (prefOK cls sh s.data.toList) w.heap.size w) := by
  unfold maxLen at hs
  obtain ⟨g, cap, cur, rfl, hg⟩ : ∃ g cap cur, v = .slice (some ⟨g, 0, none⟩) cls.length cap ∧ w.heap[g]? = some (.cells cur 105 (0, 0)) := by
    rcases hv.2 with ⟨_, e⟩ | ⟨g, cap, cur, e, _, e3, _⟩
    · omega
    · exact ⟨g, cap, cur, e, e3⟩
  have HV := Lib.hid hv
  have hgl := blk_lt hg
  clear hv hg
  go_enter Tryd.func40, Tryd.ntmps40
  go_wp2
  go_loop [12] (fun v12 => ∃ k : Nat, k ≤ cls.length ∧ v12 = .int .i64 k ∧ Hid (∀ j (h : j < cls.length) (h' : j < s.size), j < k → cls[j].p s[j].toNat = true)) (fun v12 => cls.length - (intOf v12).toNat)
  case atStart => exact ⟨0, Nat.zero_le _, rfl, Lib.hid (fun j _ _ h => absurd h (by omega))⟩
  case round =>
    obtain ⟨k, hk, rfl, HE⟩ := hrel
    by_cases hlt : k < cls.length
    · have x0 : w.cell? ⟨g, k, none⟩ = some (.func (.func cls[k].g) #[] #[]) := by
        rw [World.ownsRow.cellAt HV.out k (by omega)]
        simp [hlt, fv]
      by_cases hks : k < s.size
      · have eg := cls[k].enters
        have HC := Lib.hid (cls[k].calls)
        generalize hcl : cls[k] = cl at x0 eg HC
        have HCL := Lib.hid hcl
        clear hcl
        cases hp : cl.p s[k].toNat
        · have HP := Lib.hid hp
          go_wp2_with fail
          refine (HC.out _ _).mono ?_
          rintro e w' ⟨rfl, rfl⟩
          go_wp2_with fail
          go_ret2
          exact ⟨_, _, rfl, by rw [prefOK_false hlt hks (by rw [HCL.out]; exact HP.out)]; rfl, Below.refl _ _⟩
        · have HP := Lib.hid hp
          go_wp2_with fail
          refine (HC.out _ _).mono ?_
          rintro e w' ⟨rfl, rfl⟩
          go_wp2_with fail
          refine ⟨⟨k + 1, by omega, by go_num, Lib.hid (fun j h h' hj => ?_)⟩, by simp [intOf]; omega⟩
          rcases Nat.lt_or_ge j k with hjk | hjk
          · exact HE.out j h h' hjk
          · obtain rfl : j = k := by omega
            rw [HCL.out]; exact HP.out
      · go_wp2_with fail
        refine ⟨⟨k + 1, by omega, by go_num, Lib.hid (fun j h h' hj => ?_)⟩, by simp [intOf]; omega⟩
        rcases Nat.lt_or_ge j k with hjk | hjk
        · exact HE.out j h h' hjk
        · omega
    · obtain rfl : k = cls.length := by omega
      have HPA := Lib.hid (prefOK_all (sh := sh) (fun j h h' => HE.out j h h' h))
      go_wp2_with fail
      all_goals go_ret2
      all_goals refine ⟨_, _, rfl, ?_, Below.refl _ _⟩
      all_goals rw [HPA.out]
      all_goals simp
      all_goals omega
end Go.Proofs.YtjjnljfphaimgaaDoor.C
/- ident.Check and ident.Valid at securities and members. -/
namespace Go.Proofs.YtjjnljfphaimgaaDoor.C
open Go Go.RowKit Go.Shelf Go.Proofs

noncomputable def cLet : Cls := ⟨50, upB, enters_of Tryd.func50 (by kernel_rfl) rfl, letter_calls⟩
noncomputable def cAn : Cls := ⟨51, anB, enters_of Tryd.func51 (by kernel_rfl) rfl, alnum_calls⟩
noncomputable def cDig : Cls := ⟨52, dgB, enters_of Tryd.func52 (by kernel_rfl) rfl, digit_calls⟩
noncomputable def clsISIN : List Cls := List.replicate 2 cLet ++ List.replicate 9 cAn ++ List.replicate 1 cDig
noncomputable def clsMem : List Cls := List.replicate 1 cLet ++ List.replicate 7 cAn
noncomputable def isinB (s : ByteArray) : Bool := prefOK clsISIN 12 s.data.toList && decide (Lib.decDigits (luhnN (expN (s.data.toList.take 11))) = s.data.toList.drop 11)
noncomputable def memberB (s : ByteArray) : Bool := prefOK clsMem 4 s.data.toList
noncomputable def validB (kind : Int) (s : ByteArray) : Bool := if kind = 0 then isinB s else memberB s

theorem isin_an {s : ByteArray} (h : prefOK clsISIN 12 s.data.toList = true) : ∀ c ∈ (s.extract 0 11).data.toList, anB c.toNat = true := by
  intro c hc
  have e : (s.extract 0 11).data.toList = s.data.toList.take 11 := by simp [ByteArray.data_extract]
  rw [e] at hc
  unfold prefOK at h
  simp only [Bool.and_eq_true, decide_eq_true_eq, List.all_eq_true] at h
  obtain ⟨⟨h1, h2⟩, h3⟩ := h
  have h4 : clsISIN.length = 12 := rfl
  obtain ⟨i, hi, rfl⟩ := List.getElem_of_mem hc
  have hi' : i < 11 := by simp at hi; omega
  have hm := h3 (s.data.toList[i]'(by omega), clsISIN[i]'(by omega)) (by
    rw [List.mem_iff_getElem]
    exact ⟨i, by rw [List.length_zip]; omega, by rw [List.getElem_zip]⟩)
  rw [List.getElem_take]
  generalize s.data.toList[i]'(by omega) = x at hm ⊢
  have hx : ∀ i (h : i < 12), (clsISIN[i]'(by omega)).p x.toNat = true → i < 11 → anB x.toNat = true := by
    intro i h
    unfold clsISIN
    match i, h with
    | 0, _ => intro h _; unfold anB; simp [cLet] at h ⊢; exact Or.inl h
    | 1, _ => intro h _; unfold anB; simp [cLet] at h ⊢; exact Or.inl h
    | 2, _ => exact fun h _ => h
    | 3, _ => exact fun h _ => h
    | 4, _ => exact fun h _ => h
    | 5, _ => exact fun h _ => h
    | 6, _ => exact fun h _ => h
    | 7, _ => exact fun h _ => h
    | 8, _ => exact fun h _ => h
    | 9, _ => exact fun h _ => h
    | 10, _ => exact fun h _ => h
    | 11, _ => intro _ h; omega
  exact hx i (by omega) hm hi'
def CheckPost (ok : Bool) (B : Nat) (w : World) (e : Ending) (w' : World) : Prop :=
  ∃ at_ er : Int, e = .returned (.tuple #[.int .i64 at_, .int .i64 er]) ∧ decide (er = 0) = ok ∧ Below B w w'

theorem index_kind0 (b1 b2 b3 b4 : Nat) (w : World) : (Instr.index 92 (.agg (kindsV b1 b2 b3 b4)) (.int .i64 0)).run Tryd.prog w = .ok (.agg #[.int .i64 12, .slice (some ⟨b1, 0, none⟩) 3 3, .int .i64 11, .func (.func 53) #[] #[]]) w := by kernel_rfl
theorem index_kind1 (b1 b2 b3 b4 : Nat) (w : World) : (Instr.index 92 (.agg (kindsV b1 b2 b3 b4)) (.int .i64 1)).run Tryd.prog w = .ok (.agg #[.int .i64 4, .slice (some ⟨b2, 0, none⟩) 2 2, .int .i64 0, .nilFunc]) w := by kernel_rfl

theorem neq_nilf (w : World) : (binOp .neq 89 .nilFunc .nilFunc).run Tryd.prog w = .ok (.bool false) w := by kernel_rfl
theorem neq_func (n : Nat) (w : World) : (binOp .neq 89 (.func (.func n) #[] #[]) .nilFunc).run Tryd.prog w = .ok (.bool true) w := by kernel_rfl
theorem clsL_mem : clsL [(1, 50), (7, 51)] = clsMem.map fun x => fv x.g := rfl
theorem clsL_isin : clsL [(2, 50), (9, 51), (1, 52)] = clsISIN.map fun x => fv x.g := rfl
def ClsPost' (cls : List Cls) (w : World) (e : Ending) (w' : World) : Prop := ∃ v, e = .returned v ∧ w'.ownsRow w.heap.size 105 1 v cls.length (cls.map fun x => fv x.g) ∧ Below w.heap.size w w'
theorem classes_member (w : World) (b : Nat) (hb : w.heap[b]? = some (.cells #[.int .i64 1, fv 50, .int .i64 7, fv 51] 107 (0, 0))) :
    Calls Tryd.prog 41 #[.agg #[.int .i64 4, .slice (some ⟨b, 0, none⟩) 2 2, .int .i64 0, .nilFunc]] w (ClsPost' clsMem w) := by
  refine (classes_calls w b [(1, 50), (7, 51)] (.int .i64 4) (.int .i64 0) .nilFunc hb (by decide) (by decide) (Or.inr rfl) (Or.inr rfl) (Or.inr rfl)).mono ?_
  rintro e w' ⟨v, rfl, hv, hb⟩
  rw [clsL_mem] at hv
  exact ⟨v, rfl, by simpa using hv, hb⟩
theorem classes_isin (w : World) (b : Nat) (hb : w.heap[b]? = some (.cells #[.int .i64 2, fv 50, .int .i64 9, fv 51, .int .i64 1, fv 52] 107 (0, 0))) :
    Calls Tryd.prog 41 #[.agg #[.int .i64 12, .slice (some ⟨b, 0, none⟩) 3 3, .int .i64 11, fv 53]] w (ClsPost' clsISIN w) := by
  refine (classes_calls w b [(2, 50), (9, 51), (1, 52)] (.int .i64 12) (.int .i64 11) (fv 53) hb (by decide) (by decide) (Or.inl rfl) (Or.inl rfl) (Or.inl rfl)).mono ?_
  rintro e w' ⟨v, rfl, hv, hb⟩
  rw [clsL_isin] at hv
  exact ⟨v, rfl, by simpa using hv, hb⟩
theorem kcells {w : World} {b : Nat} {x y z u : Value} {t : TypeId} (h : w.heap[b]? = some (.cells #[x, y, z, u] t (0, 0))) :
    w.cell? ⟨b, 0, none⟩ = some x ∧ w.cell? ⟨b, 1, none⟩ = some y ∧ w.cell? ⟨b, 2, none⟩ = some z ∧ w.cell? ⟨b, 3, none⟩ = some u :=
  ⟨(blk_cell h 0).trans rfl, (blk_cell h 1).trans rfl, (blk_cell h 2).trans rfl, (blk_cell h 3).trans rfl⟩
theorem bdrewN {B : Nat} {a w : World} (h : Below B a w) (n : Nat) : Below B a (w.drewN n) := ⟨h.os, h.tape, h.output, h.size, h.block⟩
theorem isinB_eq {s : ByteArray} {b : Bool} (h : prefOK clsISIN 12 s.data.toList = true) (hs : s.size = 12) (hb : (Lib.decDigits (luhnN (expN (List.take 11 s.data.toList))) == (s.extract 11 12).toList) = b) : isinB s = b := by
  have e : (s.extract 11 12).toList = s.data.toList.drop 11 := by
    rw [ByteArray.toList_eq]
    simp [ByteArray.data_extract]
    have : s.data.size = 12 := hs
    rw [List.take_of_length_le (by simp; omega)]
  unfold isinB
  rw [h, ← e, ← hb, Bool.true_and]
  generalize Lib.decDigits (luhnN (expN (List.take 11 s.data.toList))) = l1
  generalize (s.extract 11 12).toList = l2
  cases hq : (l1 == l2)
  · have : ¬ l1 = l2 := by simpa using hq
    simp [this]
  · have : l1 = l2 := by simpa using hq
    simp [this]
theorem kcellsN {w : World} {b : Nat} {x y z u : Value} {t : TypeId} (h : w.heap[b]? = some (.cells #[x, y, z, u] t (0, 0))) (n : Nat) :
    (w.drewN n).cell? ⟨b, 0, none⟩ = some x ∧ (w.drewN n).cell? ⟨b, 1, none⟩ = some y ∧ (w.drewN n).cell? ⟨b, 2, none⟩ = some z ∧ (w.drewN n).cell? ⟨b, 3, none⟩ = some u :=
  kcells (w := w.drewN n) h
set_option maxRecDepth 100000 in
set_option maxHeartbeats 4000000 in
theorem check_member (s : ByteArray) (w : World) (hs : s.size ≤ maxLen) :
    Calls Tryd.prog 33 #[.int .i64 1, .string s] w (CheckPost (memberB s) w.heap.size w) := by
  have hk1 := index_kind1
  go_enter Tryd.func33, Tryd.ntmps33
  go_wp2_with fail
  refine (kinds_calls _).mono ?_
  rintro e w1 ⟨b1, b2, b3, b4, rfl, hb1, hb2, hb⟩
  go_wp2_with fail
  have HB := Lib.hid (hb.alloc hb.size (.cells #[.int .i64 4, .slice (some ⟨b2, 0, none⟩) 2 2, .int .i64 0, .nilFunc] 91))
  have HK := Lib.hid (blk_new w1 (.cells #[.int .i64 4, .slice (some ⟨b2, 0, none⟩) 2 2, .int .i64 0, .nilFunc] 91))
  have HS := Lib.hid (blk_alloc hb2 (.cells #[.int .i64 4, .slice (some ⟨b2, 0, none⟩) 2 2, .int .i64 0, .nilFunc] 91))
  clear hb hb1 hb2 hk1
  generalize w1.alloc (.cells #[.int .i64 4, .slice (some ⟨b2, 0, none⟩) 2 2, .int .i64 0, .nilFunc] 91) = W at HB HK HS ⊢
  generalize w1.heap.size = bk at HK ⊢
  have x0 := (blk_cell HK.out 0).trans rfl
  have x1 := (blk_cell HK.out 1).trans rfl
  have x2 := (blk_cell HK.out 2).trans rfl
  have x3 := (blk_cell HK.out 3).trans rfl
  have hcl := @classes_calls
  have HCL := Lib.hid hcl
  clear hcl
  go_region_held3 (fun w' => w'.cell? ⟨bk, 0, none⟩ = some (.int .i64 4) ∧ w'.cell? ⟨bk, 1, none⟩ = some (.slice (some ⟨b2, 0, none⟩) 2 2) ∧ w'.cell? ⟨bk, 2, none⟩ = some (.int .i64 0) ∧ w'.cell? ⟨bk, 3, none⟩ = some .nilFunc)
    (first | exact ⟨x0, x1, x2, x3⟩ | exact kcells HK.out | trivial)
    (first
      | (go_at_call 41
         refine (classes_member _ b2 (blk_drew HS.out)).mono ?_
         rintro e w2 ⟨v, rfl, hv, hb2⟩
         have HB := Lib.hid (bstep HB.out.drew hb2 HB.out.size)
         have HV := Lib.hid hv
         have HK := Lib.hid (blk_keep hb2 HK.out (Nat.le_refl _))
         clear hv hb2)
      | (go_at_call 40
         refine (prefix_calls _ v clsMem 4 s _ HV.out (by decide) (by decide) (by decide) hs).mono ?_
         rintro e w3 ⟨at_, er, rfl, her, hb3⟩
         have HB := Lib.hid (bstep HB.out hb3 HB.out.size)
         have HK := Lib.hid (blk_keep hb3 HK.out (Nat.le_refl _))
         have HER := Lib.hid her
         clear her hb3))
  all_goals
    clear x0 x1 x2 x3
    have x0 := (blk_cell HK.out 0).trans rfl
    have x1 := (blk_cell HK.out 1).trans rfl
    have x2 := (blk_cell HK.out 2).trans rfl
    have x3 := (blk_cell HK.out 3).trans rfl
    by_cases he : er = 0
    · have HE : Hid (memberB s = true) := Lib.hid (by unfold memberB; rw [← HER.out, he]; rfl)
      subst he
      go_wp2_with fail
      clear x0 x1 x2 x3
      have hq := fun n => kcellsN HK.out n
      have y0 := fun n => (hq n).1
      have y3 := fun n => (hq n).2.2.2
      clear hq
      have hnn := neq_nilf
      obtain ⟨wo, hwo⟩ : ∃ wo : World, wo = w3 := ⟨_, rfl⟩
      subst hwo
      go_quiet (fail)
      go_wp2_with fail
      go_ret2
      exact ⟨_, _, rfl, by rw [HE.out]; rfl, bdrewN HB.out _⟩
    · have HE : Hid (memberB s = false) := Lib.hid (by unfold memberB; rw [← HER.out]; simp [he])
      have h1 : (er != 0) = true := by simp [he]
      have h2 : (er == 0) = false := by simp [he]
      go_wp2_with fail
      go_ret2
      exact ⟨_, _, rfl, by rw [HE.out]; simp [he], HB.out⟩
theorem prefOK_size {s : ByteArray} (h : prefOK clsISIN 12 s.data.toList = true) : s.size = 12 := by
  unfold prefOK at h
  simp only [Bool.and_eq_true, decide_eq_true_eq] at h
  have e : s.data.toList.length = s.size := by simp
  have e2 : clsISIN.length = 12 := by rfl
  omega
set_option maxRecDepth 100000 in
set_option maxHeartbeats 4000000 in
theorem check_isin (s : ByteArray) (w : World) (hs : s.size ≤ maxLen) :
    Calls Tryd.prog 33 #[.int .i64 0, .string s] w (CheckPost (isinB s) w.heap.size w) := by
  have hk1 := index_kind0
  go_enter Tryd.func33, Tryd.ntmps33
  go_wp2_with fail
  refine (kinds_calls _).mono ?_
  rintro e w1 ⟨b1, b2, b3, b4, rfl, hb1, hb2, hb⟩
  go_wp2_with fail
  have HB := Lib.hid (hb.alloc hb.size (.cells #[.int .i64 12, .slice (some ⟨b1, 0, none⟩) 3 3, .int .i64 11, .func (.func 53) #[] #[]] 91))
  have HK := Lib.hid (blk_new w1 (.cells #[.int .i64 12, .slice (some ⟨b1, 0, none⟩) 3 3, .int .i64 11, .func (.func 53) #[] #[]] 91))
  have HS := Lib.hid (blk_alloc hb1 (.cells #[.int .i64 12, .slice (some ⟨b1, 0, none⟩) 3 3, .int .i64 11, .func (.func 53) #[] #[]] 91))
  clear hb hb1 hb2 hk1
  generalize w1.alloc (.cells #[.int .i64 12, .slice (some ⟨b1, 0, none⟩) 3 3, .int .i64 11, .func (.func 53) #[] #[]] 91) = W at HB HK HS ⊢
  generalize w1.heap.size = bk at HK ⊢
  have x0 := (blk_cell HK.out 0).trans rfl
  have x1 := (blk_cell HK.out 1).trans rfl
  have x2 := (blk_cell HK.out 2).trans rfl
  have x3 := (blk_cell HK.out 3).trans rfl
  have hcl := @classes_calls
  have HCL := Lib.hid hcl
  clear hcl
  go_region_held3 (fun w' => w'.cell? ⟨bk, 0, none⟩ = some (.int .i64 12) ∧ w'.cell? ⟨bk, 1, none⟩ = some (.slice (some ⟨b1, 0, none⟩) 3 3) ∧ w'.cell? ⟨bk, 2, none⟩ = some (.int .i64 11) ∧ w'.cell? ⟨bk, 3, none⟩ = some (.func (.func 53) #[] #[]))
    (first | exact ⟨x0, x1, x2, x3⟩ | exact kcells HK.out | trivial)
    (first
      | (go_at_call 41
         refine (classes_isin _ b1 (blk_drew HS.out)).mono ?_
         rintro e w2 ⟨v, rfl, hv, hb2⟩
         have HB := Lib.hid (bstep HB.out.drew hb2 HB.out.size)
         have HV := Lib.hid hv
         have HK := Lib.hid (blk_keep hb2 HK.out (Nat.le_refl _))
         clear hv hb2)
      | (go_at_call 40
         refine (prefix_calls _ v clsISIN 12 s _ HV.out (by decide) (by decide) (by decide) hs).mono ?_
         rintro e w3 ⟨at_, er, rfl, her, hb3⟩
         have HB := Lib.hid (bstep HB.out hb3 HB.out.size)
         have HK := Lib.hid (blk_keep hb3 HK.out (Nat.le_refl _))
         have HER := Lib.hid her
         clear her hb3))
  all_goals
    clear x0 x1 x2 x3
    have x0 := (blk_cell HK.out 0).trans rfl
    have x1 := (blk_cell HK.out 1).trans rfl
    have x2 := (blk_cell HK.out 2).trans rfl
    have x3 := (blk_cell HK.out 3).trans rfl
    by_cases he : er = 0
    · subst he
      have hpo : prefOK clsISIN 12 s.data.toList = true := by rw [← HER.out]; rfl
      have hsz : s.size = 12 := prefOK_size hpo
      have HBD := Lib.hid HB.out.drew
      have HTK : Hid ((s.extract 0 11).data.toList = s.data.toList.take 11) := by
        show _ = _
        simp [ByteArray.data_extract]
      go_wp2_with fail
      clear x0 x1 x2 x3
      obtain ⟨x0, x1, x2, x3⟩ := kcells (blk_drew HK.out)
      have hnn := neq_func
      go_region_held3 (fun w' => w'.cell? ⟨bk, 0, none⟩ = some (.int .i64 12) ∧ w'.cell? ⟨bk, 1, none⟩ = some (.slice (some ⟨b1, 0, none⟩) 3 3) ∧ w'.cell? ⟨bk, 2, none⟩ = some (.int .i64 11) ∧ w'.cell? ⟨bk, 3, none⟩ = some (.func (.func 53) #[] #[]))
        (first | exact ⟨x0, x1, x2, x3⟩ | exact kcells HK.out | exact kcells (blk_drew HK.out) | trivial)
        (first
          | (go_at_call 53
             refine (luhn_calls (s.extract 0 11) _ (by rw [ByteArray.size_extract]; omega) (isin_an hpo)).mono ?_
             rintro e w4 ⟨rfl, hb4⟩
             simp only [HTK.out]
             have HB4 := Lib.hid (bstep HBD.out hb4 HBD.out.size)
             have HK := Lib.hid (blk_keep hb4 HK.out (Nat.le_refl _))
             clear hb4))
      all_goals
        cases hq : (Lib.decDigits (luhnN (expN (List.take 11 s.data.toList))) == (s.extract 11 12).toList)
        · have HE : Hid (isinB s = false) := Lib.hid (isinB_eq hpo hsz hq)
          clear hpo
          go_wp2
          go_ret2
          exact ⟨_, _, rfl, by rw [HE.out]; rfl, HB4.out⟩
        · have HE : Hid (isinB s = true) := Lib.hid (isinB_eq hpo hsz hq)
          clear hpo
          go_wp2
          go_ret2
          exact ⟨_, _, rfl, by rw [HE.out]; rfl, HB4.out⟩
    · have HE : Hid (isinB s = false) := Lib.hid (by unfold isinB; rw [← HER.out]; simp [he])
      have h1 : (er != 0) = true := by simp [he]
      have h2 : (er == 0) = false := by simp [he]
      go_wp2_with fail
      go_ret2
      exact ⟨_, _, rfl, by rw [HE.out]; simp [he], HB.out⟩

theorem check_calls (kind : Int) (hk : kind = 0 ∨ kind = 1) (s : ByteArray) (w : World) (hs : s.size ≤ maxLen) : Calls Tryd.prog 33 #[.int .i64 kind, .string s] w (CheckPost (validB kind s) w.heap.size w) := by
  rcases hk with rfl | rfl
  · exact check_isin s w hs
  · exact check_member s w hs
set_option maxRecDepth 100000 in
set_option maxHeartbeats 4000000 in
theorem valid_calls (kind : Int) (s : ByteArray) (w : World) (hk : kind = 0 ∨ kind = 1) (hs : s.size ≤ maxLen) :
    Calls Tryd.prog 21 #[.int .i64 kind, .string s] w fun e w' => e = .returned (.bool (validB kind s)) ∧ Below w.heap.size w w' := by
  go_enter Tryd.func21, Tryd.ntmps21
  go_wp2_with fail
  refine (check_calls kind hk s _ hs).mono ?_
  rintro e w1 ⟨at_, er, rfl, her, hb⟩
  by_cases he : er = 0
  · subst he
    go_wp2_with fail
    go_ret
    exact ⟨by rw [← her]; rfl, hb⟩
  · have h1 : (er == 0) = false := by simp [he]
    go_wp2_with fail
    go_ret
    exact ⟨by rw [← her]; simp [he], hb⟩
end Go.Proofs.YtjjnljfphaimgaaDoor.C
/- giroref05: letter, digit, may, Lengths. -/
namespace Go.Proofs.YtjjnljfphaimgaaDoor.C
open Go Go.RowKit Go.Shelf Go.Proofs

set_option maxRecDepth 100000 in
theorem rletter_calls (c : Nat) (w : World) : Calls Tryd.prog 67 #[.int .u8 c] w fun e w' => e = .returned (.bool (upB c)) ∧ w = w' := by
  by_cases h1 : 65 ≤ c
  all_goals by_cases h2 : c ≤ 90
  all_goals go_enter Tryd.func67, Tryd.ntmps67
  all_goals go_wp2
  all_goals go_ret
  all_goals exact ⟨by simp [upB, h1, h2]; try omega, rfl⟩
set_option maxRecDepth 100000 in
theorem rdigit_calls (c : Nat) (w : World) : Calls Tryd.prog 68 #[.int .u8 c] w fun e w' => e = .returned (.bool (dgB c)) ∧ w = w' := by
  by_cases h1 : 48 ≤ c
  all_goals by_cases h2 : c ≤ 57
  all_goals go_enter Tryd.func68, Tryd.ntmps68
  all_goals go_wp2
  all_goals go_ret
  all_goals exact ⟨by simp [dgB, h1, h2]; try omega, rfl⟩
theorem lengths0_calls (w : World) : Calls Tryd.prog 45 #[.int .i64 0] w fun e w' => e = .returned (.tuple #[.int .i64 12, .int .i64 12]) ∧ w = w' := by
  go_enter Tryd.func45, Tryd.ntmps45
  go_wp2
  go_ret2
  exact ⟨rfl, rfl⟩
theorem lengths1_calls (w : World) : Calls Tryd.prog 45 #[.int .i64 1] w fun e w' => e = .returned (.tuple #[.int .i64 4, .int .i64 8]) ∧ w = w' := by
  go_enter Tryd.func45, Tryd.ntmps45
  go_wp2
  go_ret2
  exact ⟨rfl, rfl⟩
def mayM (i c : Nat) : Bool := upB c || (decide (0 < i) && dgB c)
def mayI (i c : Nat) : Bool := decide (i < 2) && upB c || decide (2 ≤ i) && decide (i < 11) && anB c || decide (i = 11) && dgB c
set_option maxRecDepth 100000 in
set_option maxHeartbeats 4000000 in
theorem may1_calls (i c : Nat) (w : World) (hi : i < 20) : Calls Tryd.prog 46 #[.int .i64 1, .int .i64 i, .int .u8 c] w fun e w' => e = .returned (.bool (mayM i c)) ∧ w = w' := by
  by_cases h0 : 0 < i
  all_goals cases hu : upB c
  all_goals cases hd : dgB c
  all_goals go_enter Tryd.func46, Tryd.ntmps46
  all_goals go_wp2_with (first | (go_at_call 67; refine (rletter_calls c _).mono ?_; rw [hu]; rintro e w' ⟨rfl, rfl⟩) | (go_at_call 68; refine (rdigit_calls c _).mono ?_; rw [hd]; rintro e w' ⟨rfl, rfl⟩))
  all_goals go_ret
  all_goals exact ⟨by simp [mayM, hu, hd, h0], rfl⟩
set_option maxRecDepth 100000 in
set_option maxHeartbeats 8000000 in
theorem may0_calls (i c : Nat) (w : World) (hi : i < 12) : Calls Tryd.prog 46 #[.int .i64 0, .int .i64 i, .int .u8 c] w fun e w' => e = .returned (.bool (mayI i c)) ∧ w = w' := by
  have h3 : i < 2 ∨ (2 ≤ i ∧ i < 11) ∨ i = 11 := by omega
  rcases h3 with h | ⟨h, h'⟩ | rfl
  · have g1 : decide ((i : Int) < 2) = true := by simp; omega
    have g2 : decide ((2 : Int) ≤ i) = false := by simp; omega
    have g3 : ((i : Int) == 11) = false := by simp; omega
    cases hu : upB c
    all_goals go_enter Tryd.func46, Tryd.ntmps46
    all_goals go_wp2_with (first | (go_at_call 67; refine (rletter_calls c _).mono ?_; rw [hu]; rintro e w' ⟨rfl, rfl⟩))
    all_goals go_ret
    all_goals exact ⟨by simp [mayI, hu, h]; try omega, rfl⟩
  · have g1 : decide ((i : Int) < 2) = false := by simp; omega
    have g2 : decide ((2 : Int) ≤ i) = true := by simp; omega
    have g4 : decide ((i : Int) < 11) = true := by simp; omega
    have g3 : ((i : Int) == 11) = false := by simp; omega
    cases hu : upB c
    all_goals cases hd : dgB c
    all_goals go_enter Tryd.func46, Tryd.ntmps46
    all_goals go_wp2_with (first | (go_at_call 67; refine (rletter_calls c _).mono ?_; rw [hu]; rintro e w' ⟨rfl, rfl⟩) | (go_at_call 68; refine (rdigit_calls c _).mono ?_; rw [hd]; rintro e w' ⟨rfl, rfl⟩))
    all_goals go_ret
    all_goals exact ⟨by simp [mayI, anB, hu, hd, h, h']; try omega, rfl⟩
  · cases hd : dgB c
    all_goals go_enter Tryd.func46, Tryd.ntmps46
    all_goals go_wp2_with (first | (go_at_call 68; refine (rdigit_calls c _).mono ?_; rw [hd]; rintro e w' ⟨rfl, rfl⟩))
    all_goals go_ret
    all_goals exact ⟨by simp [mayI, hd], rfl⟩
end Go.Proofs.YtjjnljfphaimgaaDoor.C
/- giroref05: Expand, Luhn. -/
namespace Go.Proofs.YtjjnljfphaimgaaDoor.C
open Go Go.RowKit Go.Shelf Go.Proofs

def intRow (l : List Nat) : List Value := l.map fun (d : Nat) => Value.int .i64 (d : Int)
theorem infoInt : (Tryd.prog.info? 3).map (fun i => (i.zero, i.size, i.bytes)) = some (some (.int .i64 0), 1, 8) := by kernel_rfl
def ExpPost (l : List Nat) (w : World) (e : Ending) (w' : World) : Prop :=
  ∃ v, e = .returned v ∧ w'.ownsRow w.heap.size 3 1 v l.length (intRow l) ∧ Below w.heap.size w w'
theorem expN_snoc (l : List UInt8) (c : UInt8) : expN (l ++ [c]) = expN l ++ digs c.toNat := by simp [expN]

set_option maxRecDepth 100000 in
set_option maxHeartbeats 4000000 in
theorem rexpand_calls (s : ByteArray) (w : World) (hs : s.size ≤ 100) (ha : ∀ c ∈ s.data.toList, anB c.toNat = true) :
    Calls Tryd.prog 69 #[.string s] w (ExpPost (expN s.data.toList) w) := by
  obtain ⟨i0, hi, hz0, hz1, hz2⟩ := info_parts infoInt
  have HA := Lib.hid ha
  clear ha
  go_enter Tryd.func69, Tryd.ntmps69
  go_wp2
  go_loopw [3, 4] (fun v3 v4 wr => ∃ k : Nat, k ≤ s.size ∧ v4 = .int .i64 k ∧ Hid (wr.ownsRow w.heap.size 3 1 v3 (expN (s.data.toList.take k)).length (intRow (expN (s.data.toList.take k)))) ∧ Hid (Below w.heap.size w wr)) (fun _ v4 _ => s.size - (intOf v4).toNat)
  case atStart => exact ⟨0, Nat.zero_le _, rfl, Lib.hid (by simpa [expN, intRow] using World.ownsRow_nil w w.heap.size 3 1), Lib.hid (Below.refl _ _)⟩
  case round =>
    obtain ⟨k, hk, rfl, HO, HB⟩ := hrel
    by_cases hlt : k < s.size
    · have hmem : s[k] ∈ s.data.toList := by
        have : s[k] = s.data.toList[k]'(by simpa using hlt) := by simp [ByteArray.getElem_eq_getElem_data]
        rw [this]; exact List.getElem_mem _
      have hts : s.data.toList.take (k + 1) = s.data.toList.take k ++ [s[k]] := by
        rw [List.take_succ_eq_append_getElem (by simpa using hlt)]
        simp [ByteArray.getElem_eq_getElem_data]
      have han := HA.out _ hmem
      have HTS : Hid (expN (s.data.toList.take (k + 1)) = expN (s.data.toList.take k) ++ digs s[k].toNat) := Lib.hid (by rw [hts, expN_snoc])
      have hll : (expN (s.data.toList.take k)).length ≤ 200 := by
        have := expS_length (s.data.toList.take k)
        simp only [expS, List.length_map] at this
        have h2 : (s.data.toList.take k).length ≤ k := List.length_take_le _ _
        omega
      generalize hL0 : expN (s.data.toList.take k) = L0 at HO HTS hll
      clear hts hmem hL0
      cases hd : dgB s[k].toNat
      · have hup : upB s[k].toNat = true := by simpa [anB, hd] using han
        have HDG : Hid (digs s[k].toNat = [(s[k].toNat - 65 + 10) / 10, (s[k].toNat - 65 + 10) % 10]) := by
          show _ = _
          unfold digs; rw [if_neg (by simp [hd])]
        simp only [upB, Bool.and_eq_true, decide_eq_true_eq] at hup
        obtain ⟨u0, u1⟩ := hup
        have HD := Lib.hid hd
        clear han
        go_wp2_with fail
        refine (rdigit_calls _ _).mono ?_
        rintro e w' ⟨rfl, rfl⟩
        go_wp2_with (at_builtin; refine wpList_append_own _ rfl _ _ 24 rfl w.heap.size 3 i0 (.int .i64 0) 1 8 Tryd.underlying24 hi hz0 hz1 hz2 rfl (by decide) _ _ _ rfl (HO.out.alloc _) ⟨wr.heap.size, 0, none⟩ 2 2 [.int .i64 (((s[k].toNat : Int) - 65 + 10) / 10), .int .i64 (((s[k].toNat : Int) - 65) % 10)] rfl rfl ?c1 ?c2 ?c3 ?c4 ?c5 ?_; rotate_right; intro v' w3 hown3 hgr3 _)
        case roundEnd =>
          refine ⟨⟨k + 1, by omega, by go_num, Lib.hid ?_, Lib.hid ?_⟩, by simp [intOf]; omega⟩
          · rw [HTS.out, HDG.out]
            have := hown3
            simp only [intRow, List.map_append, List.length_append] at this ⊢
            have e1 : ((s[k].toNat : Int) - 65 + 10) / 10 = (((s[k].toNat - 65 + 10) / 10 : Nat) : Int) := by omega
            have e2 : ((s[k].toNat : Int) - 65) % 10 = (((s[k].toNat - 65 + 10) % 10 : Nat) : Int) := by omega
            rw [e1, e2] at this
            exact this
          · exact (HB.out.alloc HB.out.size _).grown hgr3 (by have := HB.out.size; simp; omega) fun q hq => (HO.out.lt q hq).1
        case c1 => exact World.news_of_block (cs := #[.int .i64 (((s[k].toNat : Int) - 65 + 10) / 10), .int .i64 (((s[k].toNat : Int) - 65) % 10)]) (blk_new wr _)
        case c2 => simp [Value.oneCell']
        case c3 => unfold maxLen; omega
        case c4 => omega
        case c5 => have := HB.out.size; simp; omega
      · have HDG : Hid (digs s[k].toNat = [s[k].toNat - 48]) := by
          show _ = _
          unfold digs; rw [if_pos hd]
        have HD := Lib.hid hd
        clear han
        simp only [dgB, Bool.and_eq_true, decide_eq_true_eq] at hd
        obtain ⟨u0, u1⟩ := hd
        have hd := HD.out
        go_wp2_with fail
        refine (rdigit_calls _ _).mono ?_
        rintro e w' ⟨rfl, rfl⟩
        rw [HD.out]
        go_wp2_with (at_builtin; refine wpList_append_own _ rfl _ _ 24 rfl w.heap.size 3 i0 (.int .i64 0) 1 8 Tryd.underlying24 hi hz0 hz1 hz2 rfl (by decide) _ _ _ rfl (HO.out.alloc _) ⟨wr.heap.size, 0, none⟩ 1 1 [.int .i64 ((s[k].toNat : Int) - 48)] rfl rfl ?c1 ?c2 ?c3 ?c4 ?c5 ?_; rotate_right; intro v' w3 hown3 hgr3 _)
        case roundEnd =>
          refine ⟨⟨k + 1, by omega, by go_num, Lib.hid ?_, Lib.hid ?_⟩, by simp [intOf]; omega⟩
          · rw [HTS.out, HDG.out]
            have := hown3
            simp only [intRow, List.map_append, List.length_append] at this ⊢
            simpa [Int.ofNat_sub u0] using this
          · exact (HB.out.alloc HB.out.size _).grown hgr3 (by have := HB.out.size; simp; omega) fun q hq => (HO.out.lt q hq).1
        case c1 => exact World.news_of_block (cs := #[.int .i64 ((s[k].toNat : Int) - 48)]) (blk_new wr _)
        case c2 => simp [Value.oneCell']
        case c3 => unfold maxLen; omega
        case c4 => omega
        case c5 => have := HB.out.size; simp; omega
    · obtain rfl : k = s.size := by omega
      have htk : s.data.toList.take s.size = s.data.toList := List.take_of_length_le (by simp)
      have HOO := Lib.hid HO.out
      rw [htk] at HOO
      go_wp2
      go_ret
      exact ⟨_, rfl, HOO.out, HB.out⟩

theorem luhnN_lt (e : List Nat) : luhnN e < 10 := by unfold luhnN; omega
theorem expN_pos {l : List UInt8} (h : 0 < l.length) : 0 < (expN l).length := by
  cases l with
  | nil => simp at h
  | cons a r =>
    simp only [expN, List.flatMap_cons, List.length_append]
    have : 0 < (digs a.toNat).length := by unfold digs; split <;> simp
    omega
set_option maxRecDepth 100000 in
set_option maxHeartbeats 4000000 in
theorem rluhn_calls (s : ByteArray) (w : World) (hs : s.size ≤ 100) (h0 : 0 < s.size) (ha : ∀ c ∈ s.data.toList, anB c.toNat = true) :
    Calls Tryd.prog 47 #[.string s] w fun e w' => e = .returned (.int .i64 (luhnN (expN s.data.toList))) ∧ Below w.heap.size w w' := by
  have hle := expN_le ha
  have hlen : (expN s.data.toList).length ≤ 200 := by
    have := expS_length s.data.toList
    simp only [expS, List.length_map] at this
    have h2 : s.data.toList.length = s.size := by simp
    omega
  have hpos : 0 < (expN s.data.toList).length := expN_pos (by simpa using h0)
  obtain ⟨n, hn⟩ : ∃ n : Nat, n = luhnN (expN s.data.toList) := ⟨_, rfl⟩
  rw [← hn]
  go_enter Tryd.func47, Tryd.ntmps47
  go_wp2_with fail
  refine (rexpand_calls s w hs ha).mono ?_
  rintro e w1 ⟨v, rfl, hv, hb⟩
  have HB1 := Lib.hid hb
  clear hb ha
  generalize hel : expN s.data.toList = el at hle hlen hpos hv hn
  have HN := Lib.hid hn
  clear hel hn
  obtain ⟨g, cap, rfl⟩ : ∃ g cap, v = .slice (some ⟨g, 0, none⟩) el.length cap := by
    rcases hv.2 with ⟨_, e⟩ | ⟨g, cap, cur, e, _, e3, _⟩
    · omega
    · exact ⟨g, cap, e⟩
  have HV := Lib.hid hv
  clear hv
  have HLE := Lib.hid (luhnTo_le el hle)
  go_wp2
  go_loop [4, 5] (fun v4 v5 => ∃ k : Nat, ∃ sm : Nat, k ≤ el.length ∧ v5 = .int .i64 k ∧ v4 = .int .i64 sm ∧ sm ≤ 9 * k ∧ Hid (sm = luhnTo el k)) (fun _ v5 => el.length - (intOf v5).toNat)
  case atStart => exact ⟨0, 0, Nat.zero_le _, rfl, rfl, by omega, Lib.hid rfl⟩
  case round =>
    obtain ⟨k, sm, hk, rfl, rfl, hsm, HSM⟩ := hrel
    by_cases hlt : k < el.length
    · have hj : el.length - 1 - k < el.length := by omega
      have hx : w1.cell? ⟨g, el.length - 1 - k, none⟩ = some (.int .i64 (el[el.length - 1 - k] : Nat)) := by
        rw [World.ownsRow.cellAt HV.out _ (by omega)]
        simp [intRow, hj]
      have hd9 := hle _ (List.getElem_mem hj)
      have hsucc : luhnTo el (k + 1) = luhnTo el k + lterm el[el.length - 1 - k] k := by
        show luhnTo el k + lterm (el.getD (el.length - 1 - k) 0) k = _
        rw [List.getD_eq_getElem?_getD, List.getElem?_eq_getElem hj]; rfl
      generalize el[el.length - 1 - k] = d at hx hd9 hsucc
      have HSC := Lib.hid hsucc
      clear hsucc hle
      by_cases hp : k % 2 = 0
      · have hp2 : ((k : Int) % 2 == 0) = true := by simp; omega
        go_wp2_with fail
        have hlt9 := lterm_le (i := k) hd9
        refine ⟨⟨k + 1, sm + lterm d k, by omega, by go_num, ?_, by omega, Lib.hid (by rw [HSC.out, ← HSM.out])⟩, by simp [intOf]; omega⟩
        congr 1
        unfold lterm
        rw [if_pos hp]
        omega
      · have hp2 : ((k : Int) % 2 == 0) = false := by simp; omega
        go_wp2_with fail
        have hlt9 := lterm_le (i := k) hd9
        refine ⟨⟨k + 1, sm + lterm d k, by omega, by go_num, ?_, by omega, Lib.hid (by rw [HSC.out, ← HSM.out])⟩, by simp [intOf]; omega⟩
        congr 1
        unfold lterm
        rw [if_neg hp]
        omega
    · obtain rfl : k = el.length := by omega
      have HL : Hid (luhnN el = (10 - sm % 10) % 10) := by
        show luhnN el = _
        unfold luhnN; rw [← HSM.out]
      clear hle
      go_wp2
      go_ret
      refine ⟨?_, HB1.out⟩
      rw [HN.out, HL.out]
      show Ending.returned (.int .i64 (-((sm : Int) % 10) % 10)) = _
      congr 2
      omega
end Go.Proofs.YtjjnljfphaimgaaDoor.C
