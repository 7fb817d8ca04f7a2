/- Contracts and plain laws, without conditions beyond each theorem's own: giroref05.Check at securities and members. The pool's small methods. apply, Pledge, Release, Require. Pledge, Release, Require. Release, Require. apply at two changes. -/
import Derived.Outline
import Derived.Deep.QuietTactic
import Derived.BigQuiet
import Derived.Deep.RegionHeld3
import Derived.Handy
import Derived.StillTailTactics
import Derived.Test.YtjjnljfphaimgaaDoorK01
import Derived.Test.YtjjnljfphaimgaaDoorK03
set_option linter.all false
/- giroref05.Check at securities and members. -/
namespace Go.Proofs.YtjjnljfphaimgaaDoor.C
open Go Go.RowKit Go.Shelf Go.Proofs

theorem clsMem_may (j : Nat) (h : j < clsMem.length) (c : Nat) : (clsMem[j]).p c = mayM j c := by
  have h' : j < 8 := h
  match j, h' with
  | 0, _ => simp [clsMem, cLet, mayM]
  | 1, _ => simp [clsMem, cAn, mayM, anB]
  | 2, _ => simp [clsMem, cAn, mayM, anB]
  | 3, _ => simp [clsMem, cAn, mayM, anB]
  | 4, _ => simp [clsMem, cAn, mayM, anB]
  | 5, _ => simp [clsMem, cAn, mayM, anB]
  | 6, _ => simp [clsMem, cAn, mayM, anB]
  | 7, _ => simp [clsMem, cAn, mayM, anB]
theorem clsISIN_may (j : Nat) (h : j < clsISIN.length) (c : Nat) : (clsISIN[j]).p c = mayI j c := by
  have h' : j < 12 := h
  match j, h' with
  | 0, _ => simp [clsISIN, cLet, mayI]
  | 1, _ => simp [clsISIN, cLet, mayI]
  | 2, _ => simp [clsISIN, cAn, mayI]
  | 3, _ => simp [clsISIN, cAn, mayI]
  | 4, _ => simp [clsISIN, cAn, mayI]
  | 5, _ => simp [clsISIN, cAn, mayI]
  | 6, _ => simp [clsISIN, cAn, mayI]
  | 7, _ => simp [clsISIN, cAn, mayI]
  | 8, _ => simp [clsISIN, cAn, mayI]
  | 9, _ => simp [clsISIN, cAn, mayI]
  | 10, _ => simp [clsISIN, cAn, mayI]
  | 11, _ => simp [clsISIN, cDig, mayI]
theorem member_false {s : ByteArray} {k : Nat} (hk : k < 8) (hs : k < s.size) (hp : mayM k s[k].toNat = false) : memberB s = false :=
  prefOK_false (cls := clsMem) hk hs (by rw [clsMem_may k hk]; exact hp)
theorem member_all {s : ByteArray} (h : ∀ j (h' : j < s.size), j < 8 → mayM j s[j].toNat = true) : memberB s = (decide (4 ≤ s.size) && decide (s.size ≤ 8)) :=
  prefOK_all (cls := clsMem) fun j hj h' => by rw [clsMem_may j hj]; exact h j h' hj
theorem isin_pre {s : ByteArray} (h : ∀ j (h' : j < s.size), j < 12 → mayI j s[j].toNat = true) : prefOK clsISIN 12 s.data.toList = (decide (12 ≤ s.size) && decide (s.size ≤ 12)) :=
  prefOK_all (cls := clsISIN) fun j hj h' => by rw [clsISIN_may j hj]; exact h j h' hj
theorem isin_false {s : ByteArray} {k : Nat} (hk : k < 12) (hs : k < s.size) (hp : mayI k s[k].toNat = false) : isinB s = false := by
  unfold isinB
  rw [prefOK_false (cls := clsISIN) hk hs (by rw [clsISIN_may k hk]; exact hp)]; rfl
set_option maxRecDepth 100000 in
set_option maxHeartbeats 4000000 in
theorem rcheck_member (s : ByteArray) (w : World) (hs : s.size ≤ maxLen) :
    Calls Tryd.prog 38 #[.int .i64 1, .string s] w (CheckPost (memberB s) w.heap.size w) := by
  unfold maxLen at hs
  go_enter Tryd.func38, Tryd.ntmps38
  go_wp2_with (go_at_call 45; refine (lengths1_calls _).mono ?_; rintro e w' ⟨rfl, rfl⟩)
  go_loop [8] (fun v8 => ∃ k : Nat, k ≤ 8 ∧ v8 = .int .i64 k ∧ Hid (∀ j (h' : j < s.size), j < k → mayM j s[j].toNat = true)) (fun v8 => 8 - (intOf v8).toNat)
  case atStart => exact ⟨0, Nat.zero_le _, rfl, Lib.hid (fun j _ h => absurd h (by omega))⟩
  case round =>
    obtain ⟨k, hk, rfl, HE⟩ := hrel
    by_cases hks : k < s.size
    · by_cases hlt : k < 8
      · cases hp : mayM k s[k].toNat
        · have HP := Lib.hid hp
          go_wp2_with (go_at_call 46; refine (may1_calls _ _ _ (by omega)).mono ?_; rw [HP.out]; rintro e w' ⟨rfl, rfl⟩)
          go_ret2
          exact ⟨_, _, rfl, by rw [member_false hlt hks HP.out]; rfl, Below.refl _ _⟩
        · have HP := Lib.hid hp
          go_wp2_with (go_at_call 46; refine (may1_calls _ _ _ (by omega)).mono ?_; rw [HP.out]; rintro e w' ⟨rfl, rfl⟩)
          refine ⟨⟨k + 1, by omega, by go_num, Lib.hid ?_⟩, by simp [intOf]; omega⟩
          intro j hj hjk
          by_cases hjj : j = k
          · subst hjj; exact HP.out
          · exact HE.out j hj (by omega)
      · obtain rfl : k = 8 := by omega
        have HM : Hid (memberB s = (decide (4 ≤ s.size) && decide (s.size ≤ 8))) := Lib.hid (member_all fun j h' h => HE.out j h' h)
        by_cases hz : s.size ≤ 8
        · have : s.size = 8 := by omega
          omega
        · go_wp2_with fail
          go_ret2
          exact ⟨_, _, rfl, by rw [HM.out]; simp [hz], Below.refl _ _⟩
    · have HM : Hid (memberB s = (decide (4 ≤ s.size) && decide (s.size ≤ 8))) := Lib.hid (member_all fun j h' h => HE.out j h' (by omega))
      by_cases hz : s.size < 4
      · go_wp2_with fail
        go_ret2
        exact ⟨_, _, rfl, by rw [HM.out]; simp; omega, Below.refl _ _⟩
      · have hz8 : s.size ≤ 8 := by omega
        go_wp2_with fail
        go_quiet (fail)
        go_wp2_with fail
        go_quiet (fail)
        go_wp2_with fail
        go_ret2
        exact ⟨_, _, rfl, by rw [HM.out]; simp; omega, bdrewN (bdrewN (Below.refl _ _) _) _⟩

theorem isin_eq {s : ByteArray} (hpo : prefOK clsISIN 12 s.data.toList = true) (hs : s.size = 12) (h : dgB (s[11]'(by omega)).toNat = true) :
    isinB s = decide ((s[11]'(by omega)).toNat - 48 = luhnN (expN (s.data.toList.take 11))) := by
  unfold isinB
  rw [hpo, Bool.true_and]
  have hl : s.data.toList.length = 12 := by simpa using hs
  have hd : s.data.toList.drop 11 = [s[11]'(by omega)] := by
    rw [List.drop_eq_getElem_cons (by omega), List.drop_eq_nil_of_le (by omega), toList_get s 11 (by omega)]
  have hn := luhnN_lt (expN (s.data.toList.take 11))
  generalize luhnN (expN (s.data.toList.take 11)) = n at hn
  rw [hd, Lib.decDigits, dif_pos (by omega)]
  simp only [dgB, Bool.and_eq_true, decide_eq_true_eq] at h
  generalize (s[11]'(by omega)) = c at h
  by_cases hc : c.toNat - 48 = n
  · rw [decide_eq_true hc, decide_eq_true_eq]
    congr 1
    rw [← hc, show 48 + (c.toNat - 48) = c.toNat from by omega]
    exact UInt8.ofNat_toNat
  · rw [decide_eq_false hc, decide_eq_false_iff_not]
    intro e
    simp only [List.cons.injEq, and_true] at e
    apply hc
    have := congrArg UInt8.toNat e
    simp at this
    omega
set_option maxRecDepth 100000 in
set_option maxHeartbeats 4000000 in
theorem rcheck_isin (s : ByteArray) (w : World) (hs : s.size ≤ maxLen) :
    Calls Tryd.prog 38 #[.int .i64 0, .string s] w (CheckPost (isinB s) w.heap.size w) := by
  unfold maxLen at hs
  go_enter Tryd.func38, Tryd.ntmps38
  go_wp2_with (go_at_call 45; refine (lengths0_calls _).mono ?_; rintro e w' ⟨rfl, rfl⟩)
  go_loop [8] (fun v8 => ∃ k : Nat, k ≤ 12 ∧ v8 = .int .i64 k ∧ Hid (∀ j (h' : j < s.size), j < k → mayI j s[j].toNat = true)) (fun v8 => 12 - (intOf v8).toNat)
  case atStart => exact ⟨0, Nat.zero_le _, rfl, Lib.hid (fun j _ h => absurd h (by omega))⟩
  case round =>
    obtain ⟨k, hk, rfl, HE⟩ := hrel
    by_cases hks : k < s.size
    · by_cases hlt : k < 12
      · cases hp : mayI k s[k].toNat
        · have HP := Lib.hid hp
          go_wp2_with (go_at_call 46; refine (may0_calls _ _ _ (by omega)).mono ?_; rw [HP.out]; rintro e w' ⟨rfl, rfl⟩)
          go_ret2
          exact ⟨_, _, rfl, by rw [isin_false hlt hks HP.out]; rfl, Below.refl _ _⟩
        · have HP := Lib.hid hp
          go_wp2_with (go_at_call 46; refine (may0_calls _ _ _ (by omega)).mono ?_; rw [HP.out]; rintro e w' ⟨rfl, rfl⟩)
          refine ⟨⟨k + 1, by omega, by go_num, Lib.hid ?_⟩, by simp [intOf]; omega⟩
          intro j hj hjk
          by_cases hjj : j = k
          · subst hjj; exact HP.out
          · exact HE.out j hj (by omega)
      · obtain rfl : k = 12 := by omega
        have HM : Hid (prefOK clsISIN 12 s.data.toList = (decide (12 ≤ s.size) && decide (s.size ≤ 12))) := Lib.hid (isin_pre fun j h' h => HE.out j h' h)
        by_cases hz : s.size ≤ 12
        · have : s.size = 12 := by omega
          omega
        · go_wp2_with fail
          go_ret2
          exact ⟨_, _, rfl, by unfold isinB; rw [HM.out]; simp [hz], Below.refl _ _⟩
    · have HM : Hid (prefOK clsISIN 12 s.data.toList = (decide (12 ≤ s.size) && decide (s.size ≤ 12))) := Lib.hid (isin_pre fun j h' h => HE.out j h' (by omega))
      by_cases hz : s.size < 12
      · go_wp2_with fail
        go_ret2
        exact ⟨_, _, rfl, by unfold isinB; rw [HM.out]; simp; omega, Below.refl _ _⟩
      · have hz8 : s.size = 12 := by omega
        have HPO : Hid (prefOK clsISIN 12 s.data.toList = true) := Lib.hid (by rw [HM.out]; simp; omega)
        have hdg : dgB s[11].toNat = true := by
          have := HE.out 11 (by omega) (by omega)
          simpa [mayI] using this
        have HQ := Lib.hid (isin_eq HPO.out hz8 hdg)
        have HTK : Hid ((s.extract 0 11).data.toList = s.data.toList.take 11) := by
          show _ = _
          simp [ByteArray.data_extract]
        simp only [dgB, Bool.and_eq_true, decide_eq_true_eq] at hdg
        obtain ⟨u0, u1⟩ := hdg
        rw [← HTK.out] at HQ
        have hn10 := luhnN_lt (expN (s.extract 0 11).data.toList)
        obtain ⟨nn, HNN⟩ : ∃ nn, Hid (nn = luhnN (expN (s.extract 0 11).data.toList)) := ⟨_, rfl⟩
        rw [← HNN.out] at HQ hn10
        go_wp2_with fail
        go_region_held3 (fun _ => True) (trivial)
          (first
            | (go_at_call 47
               refine (rluhn_calls (s.extract 0 11) _ (by rw [ByteArray.size_extract]; omega) (by rw [ByteArray.size_extract]; omega) (isin_an HPO.out)).mono ?_
               rw [← HNN.out]
               rintro e w4 ⟨rfl, hb4⟩
               have HB4 := Lib.hid hb4
               clear hb4))
        all_goals
          have HBB := Lib.hid (((Below.refl w.heap.size w).drew).trans HB4.out)
          clear HB4
        all_goals
          have hwr : IntKind.i64.wrap (IntKind.u8.wrap ((s[11].toNat : Int) - 48)) = (s[11].toNat : Int) - 48 := by
            rw [IntKind.wrap_u8, IntKind.wrap_i64]
            omega
          by_cases hq : s[11].toNat - 48 = nn
          · have h1 : ((s[11].toNat : Int) - 48 == (nn : Int)) = true := by rw [beq_iff_eq]; omega
            have h2 : (IntKind.i64.wrap (IntKind.u8.wrap ((s[11].toNat : Int) - 48)) != (nn : Int)) = false := by rw [hwr, bne, h1]; rfl
            have h3 : ((s[11].toNat : Int) - 48 = (nn : Int)) := by omega
            have HE' : Hid (isinB s = true) := Lib.hid (by rw [HQ.out, decide_eq_true hq])
            clear hq hwr
            go_wp2_with fail
            go_quiet (fail)
            go_wp2_with fail
            go_ret2
            exact ⟨_, _, rfl, by rw [HE'.out]; rfl, bdrewN HBB.out _⟩
          · have h1 : ((s[11].toNat : Int) - 48 == (nn : Int)) = false := by rw [beq_eq_false_iff_ne]; omega
            have h2 : (IntKind.i64.wrap (IntKind.u8.wrap ((s[11].toNat : Int) - 48)) != (nn : Int)) = true := by rw [hwr, bne, h1]; rfl
            have h3 : ¬ ((s[11].toNat : Int) - 48 = (nn : Int)) := by omega
            have HE' : Hid (isinB s = false) := Lib.hid (by rw [HQ.out, decide_eq_false hq])
            clear hq hwr
            go_wp2_with fail
            go_ret2
            exact ⟨_, _, rfl, by rw [HE'.out]; rfl, HBB.out⟩
theorem rcheck_calls (kind : Int) (hk : kind = 0 ∨ kind = 1) (s : ByteArray) (w : World) (hs : s.size ≤ maxLen) : Calls Tryd.prog 38 #[.int .i64 kind, .string s] w (CheckPost (validB kind s) w.heap.size w) := by
  rcases hk with rfl | rfl
  · exact rcheck_isin s w hs
  · exact rcheck_member s w hs
set_option maxRecDepth 100000 in
set_option maxHeartbeats 4000000 in
theorem rvalid_calls (kind : Int) (s : ByteArray) (w : World) (hk : kind = 0 ∨ kind = 1) (hs : s.size ≤ maxLen) :
    Calls Tryd.prog 32 #[.int .i64 kind, .string s] w fun e w' => e = .returned (.bool (validB kind s)) ∧ Below w.heap.size w w' := by
  go_enter Tryd.func32, Tryd.ntmps32
  go_wp2_with fail
  refine (rcheck_calls kind hk s _ hs).mono ?_
  rintro e w1 ⟨at_, er, rfl, her, hb⟩
  by_cases he : er = 0
  · subst he
    go_wp2_with fail
    go_ret
    exact ⟨by rw [← her]; rfl, hb⟩
  · have h1 : (er == 0) = false := by simp [he]
    go_wp2_with fail
    go_ret
    exact ⟨by rw [← her]; simp [he], hb⟩
end Go.Proofs.YtjjnljfphaimgaaDoor.C
/- The pool's small methods. -/
namespace Go.Proofs.YtjjnljfphaimgaaDoor.C
open Go Go.RowKit Go.Maps

theorem PoolAt.cells {w : World} {p m : Nat} {S : PS} (h : PoolAt w p m S) :
    w.cell? ⟨p, 0, none⟩ = some (.string S.owner) ∧ w.cell? ⟨p, 1, none⟩ = some S.vl ∧ w.cell? ⟨p, 2, none⟩ = some (.map (some m)) ∧
    w.cell? ⟨p, 3, none⟩ = some (.int .i64 S.req) ∧ w.cell? ⟨p, 4, none⟩ = some (.int .i64 S.value) := by
  simp [World.cell?, h.1, PS.row]

theorem required_calls (w : World) (p m : Nat) (S : PS) (h : PoolAt w p m S) :
    Calls Tryd.prog 10 #[.pointer (some ⟨p, 0, none⟩)] w fun e w' => e = .returned (.int .i64 S.req) ∧ w = w' := by
  obtain ⟨c0, c1, c2, c3, c4⟩ := h.cells
  clear h
  go_enter Tryd.func10, Tryd.ntmps10
  go_wp2
  go_ret
  exact ⟨rfl, rfl⟩

theorem isAmount_calls (n : Int) (w : World) :
    Calls Tryd.prog 22 #[.int .i64 n] w fun e w' => e = .returned (.bool (decide (1 ≤ n) && decide (n ≤ 1000000000000000))) ∧ w = w' := by
  by_cases h1 : 1 ≤ n
  all_goals by_cases h2 : n ≤ 1000000000000000
  all_goals go_enter Tryd.func22, Tryd.ntmps22
  all_goals go_wp2
  all_goals go_ret
  all_goals exact ⟨by simp [h1, h2], rfl⟩

def ckRel (L : List Hold) (k : ByteArray) (n : Int) : Int :=
  if has L k = false then 9 else if ¬ (1 ≤ n ∧ n ≤ 1000000000000000) then 2 else if qty L k < n then 13 else 0

def Ret (v : Value) (B : Nat) (w : World) (e : Ending) (w' : World) : Prop := e = .returned v ∧ Below B w w'

set_option maxRecDepth 100000 in
set_option maxHeartbeats 400000 in
theorem checkRelease_calls (w : World) (p m : Nat) (S : PS) (k : ByteArray) (n : Int) (h : PoolAt w p m S) (hk : k.size ≤ maxLen) :
    Calls Tryd.prog 25 #[.pointer (some ⟨p, 0, none⟩), .string k, .int .i64 n] w (Ret (.int .i64 (ckRel S.L k n)) w.heap.size w) := by
  obtain ⟨c0, c1, c2, c3, c4⟩ := h.cells
  have hlook := h.2.look hk
  clear h
  go_enter Tryd.func25, Tryd.ntmps25
  go_wp2_with ((go_at_call 22; refine (isAmount_calls _ _).mono ?_; rintro e w' ⟨rfl, rfl⟩))
  all_goals go_ret
  all_goals refine ⟨ret_int ?_, (Below.refl _ _).alloc (Nat.le_refl _) _⟩
  all_goals simp_all [ckRel]
  all_goals omega

theorem MapIs.below {w w' : World} {m B : Nat} {L : List Hold} (h : MapIs w m L) (hb : Below B w w') (hm : m < B) : MapIs w' m L := h.kept (hb.block m hm)
theorem PoolAt.below {w w' : World} {p m B : Nat} {S : PS} (h : PoolAt w p m S) (hb : Below B w w') (hp : p < B) (hm : m < B) : PoolAt w' p m S :=
  ⟨(hb.block p hp).trans h.1, h.2.below hb hm⟩
theorem PoolAt.lt {w : World} {p m : Nat} {S : PS} (h : PoolAt w p m S) : p < w.heap.size := by
  have := h.1
  rcases Nat.lt_or_ge p w.heap.size with h' | h'
  · exact h'
  · rw [Array.getElem?_eq_none h'] at this; cases this

/-- A valuer: an interface value whose method Value returns f's answer and changes nothing below. -/
structure IsValuer (T : TypeId) (x : Value) (B : Nat) (w0 : World) (f : ByteArray → Int → Int × Int) (fid : FuncId) (rv : Value) : Prop where
  ahead : ∀ (w : World) n, (nilAhead (n + 1) T x "Value").run Tryd.prog w = .ok (some false) w
  meth : ∀ (w : World) n, (method (n + 1) T x "Value").run Tryd.prog w = .ok (fid, rv) w
  enters : ∀ (args : Array Value) (w : World), (callFunc fid args).run Tryd.prog w = .ok (.enter fid args) w
  calls : ∀ (w : World) (o a : ByteArray) (q : Int), Below B w0 w → 1 ≤ q → q ≤ 1000000000000000 →
    Calls Tryd.prog fid #[rv, .string o, .string a, .int .i64 q] w (Ret (.tuple #[.int .i64 (f a q).1, .int .i64 (f a q).2]) w.heap.size w)

def worthF (f : ByteArray → Int → Int × Int) (k : ByteArray) (q : Int) : Int × Int × Int :=
  if q = 0 then (0, 0, 0) else (q, (f k q).1, (f k q).2)

set_option maxRecDepth 100000 in
set_option maxHeartbeats 1000000 in
theorem worth_calls (w : World) (p m : Nat) (S : PS) (k : ByteArray) (q : Int) (T : TypeId) (x : Value) (B : Nat) (w0 : World) (f : ByteArray → Int → Int × Int) (fid : FuncId) (rv : Value)
    (h : PoolAt w p m S) (hv : IsValuer T x B w0 f fid rv) (hS : S.vl = .iface T x) (hB : Below B w0 w) (hBs : B ≤ w.heap.size) (h0 : 0 ≤ q) (h1 : q ≤ 1000000000000000) :
    Calls Tryd.prog 23 #[.pointer (some ⟨p, 0, none⟩), .string k, .int .i64 q] w
      (Ret (.tuple #[.agg #[.int .i64 (worthF f k q).1, .int .i64 (worthF f k q).2.1], .int .i64 (worthF f k q).2.2]) w.heap.size w) := by
  obtain ⟨c0, c1, c2, c3, c4⟩ := h.cells
  rw [hS] at c1
  have hp := h.lt
  have hv1 := hv.ahead
  have hv2 := hv.meth
  have hv3 := hv.enters
  have HV := Lib.hid hv
  clear h hv hS
  by_cases hq : q = 0
  · subst hq
    go_enter Tryd.func23, Tryd.ntmps23
    go_wp2
    exact bodyPost_ret (v := .tuple #[.agg #[.int .i64 0, .int .i64 0], .int .i64 0]) (by simp [results, Tryd.results23, go_sem]) rfl ⟨by simp [worthF], (Below.refl _ _).alloc (Nat.le_refl _) _⟩
  · have hq1 : (q == 0) = false := by simp [hq]
    have hq0 : 1 ≤ q := by omega
    have hw : worthF f k q = (q, (f k q).1, (f k q).2) := by simp [worthF, hq]
    rw [hw]
    clear hq hw
    have e0 := World.new_ne w ⟨p, 0, none⟩ c0
    have e1 := World.new_ne w ⟨p, 1, none⟩ c1
    go_enter Tryd.func23, Tryd.ntmps23
    go_wp2_with fail
    go_region_held3 (fun w' => w'.cell? ⟨p, 0, none⟩ = some (.string S.owner) ∧ w'.cell? ⟨p, 1, none⟩ = some (.iface T x)) (go_keep)
      (first | (refine (HV.out.calls _ _ _ _ ((hB.alloc hBs _).drew) hq0 h1).mono ?_; rintro e w' ⟨rfl, hb⟩; have g0 := cell_keep hb (cell_drew (cell_alloc c0 _)) (Nat.le_refl _); have g1 := cell_keep hb (cell_drew (cell_alloc c1 _)) (Nat.le_refl _); have b6 := blk_keep hb (blk_drew (blk_new _ _)) (Nat.le_refl _)))
    have g2 := (blk_cell b6 0).trans rfl
    have g3 := (blk_cell b6 1).trans rfl
    have f2 := blk_frozen b6 0
    have f3 := blk_frozen b6 1
    clear b6
    go_wp2
    refine bodyPost_ret (v := .tuple #[.agg #[.int .i64 q, .int .i64 (f k q).1], .int .i64 (f k q).2]) ?_ rfl ⟨rfl, ?_⟩
    · have z0 : w.heap.size ≠ w.heap.size + 1 := by omega
      simp [results, Tryd.results23, go_sem, g2, g3]
    · exact (bstep (((Below.refl _ _).alloc (Nat.le_refl _) _).drew) hb (by simp)).setCell (by simp) _ |>.setCell (by simp) _

theorem value_calls (w : World) (p m : Nat) (S : PS) (h : PoolAt w p m S) :
    Calls Tryd.prog 11 #[.pointer (some ⟨p, 0, none⟩)] w fun e w' => e = .returned (.int .i64 S.value) ∧ w = w' := by
  obtain ⟨c0, c1, c2, c3, c4⟩ := h.cells
  clear h
  go_enter Tryd.func11, Tryd.ntmps11
  go_wp2
  go_ret
  exact ⟨rfl, rfl⟩
theorem owner_calls (w : World) (p m : Nat) (S : PS) (h : PoolAt w p m S) :
    Calls Tryd.prog 9 #[.pointer (some ⟨p, 0, none⟩)] w fun e w' => e = .returned (.string S.owner) ∧ w = w' := by
  obtain ⟨c0, c1, c2, c3, c4⟩ := h.cells
  clear h
  go_enter Tryd.func9, Tryd.ntmps9
  go_wp2
  go_ret
  exact ⟨rfl, rfl⟩
set_option maxRecDepth 100000 in
set_option maxHeartbeats 400000 in
theorem excess_calls (w : World) (p m : Nat) (S : PS) (h : PoolAt w p m S) (h0 : 0 ≤ S.value) (h1 : S.value ≤ 1000000000000000) (h2 : 0 ≤ S.req) (h3 : S.req ≤ 1000000000000000) :
    Calls Tryd.prog 12 #[.pointer (some ⟨p, 0, none⟩)] w fun e w' => e = .returned (.int .i64 (S.value - S.req)) ∧ w = w' := by
  go_enter Tryd.func12, Tryd.ntmps12
  go_wp2_with (first | (go_at_call 11; refine (value_calls _ _ _ _ h).mono ?_; rintro e w' ⟨rfl, rfl⟩) | (go_at_call 10; refine (required_calls _ _ _ _ h).mono ?_; rintro e w' ⟨rfl, rfl⟩))
  go_ret
  exact ⟨rfl, rfl⟩
set_option maxRecDepth 100000 in
set_option maxHeartbeats 400000 in
theorem quantity_calls (w : World) (p m : Nat) (S : PS) (k : ByteArray) (h : PoolAt w p m S) (hk : k.size ≤ maxLen) :
    Calls Tryd.prog 14 #[.pointer (some ⟨p, 0, none⟩), .string k] w fun e w' => e = .returned (.int .i64 (qty S.L k)) ∧ w = w' := by
  obtain ⟨c0, c1, c2, c3, c4⟩ := h.cells
  have hlook := h.2.look1 hk
  clear h
  have hf0 := field0
  go_enter Tryd.func14, Tryd.ntmps14
  go_wp2
  go_ret
  exact ⟨rfl, rfl⟩
end Go.Proofs.YtjjnljfphaimgaaDoor.C
/- apply, Pledge, Release, Require. -/
namespace Go.Proofs.YtjjnljfphaimgaaDoor.C
open Go Go.RowKit Go.Maps

/-- All that was there but blocks p and m is as it was. -/
structure Fr (p m : Nat) (w w' : World) : Prop where
  os : w'.os = w.os
  tape : w'.tape = w.tape
  output : w'.output = w.output
  size : w.heap.size ≤ w'.heap.size
  block : ∀ k, k < w.heap.size → k ≠ p → k ≠ m → w'.heap[k]? = w.heap[k]?

theorem Fr.of_below {p m B : Nat} {w w' : World} (h : Below B w w') (hB : w.heap.size ≤ B) : Fr p m w w' := ⟨h.os, h.tape, h.output, h.size, fun k hk _ _ => h.block k (Nat.lt_of_lt_of_le hk hB)⟩
theorem Fr.trans {p m : Nat} {a b c : World} (h : Fr p m a b) (k : Fr p m b c) : Fr p m a c :=
  ⟨k.os.trans h.os, k.tape.trans h.tape, k.output.trans h.output, Nat.le_trans h.size k.size, fun i hi h1 h2 => (k.block i (Nat.lt_of_lt_of_le hi h.size) h1 h2).trans (h.block i hi h1 h2)⟩
theorem Fr.below {p m B : Nat} {w w' : World} (h : Fr p m w w') (hp : B ≤ p) (hm : B ≤ m) (hB : B ≤ w.heap.size) : Below B w w' :=
  ⟨h.os, h.tape, h.output, h.size, fun k hk => h.block k (by omega) (by omega) (by omega)⟩
theorem Fr.set {p m : Nat} {a w : World} (h : Fr p m a w) {x : Addr} (hx : x.block = p ∨ x.block = m ∨ a.heap.size ≤ x.block) (v : Value) : Fr p m a (w.setCell x v) :=
  ⟨h.os, h.tape, h.output, by simpa [World.setCell] using h.size, fun k hk h1 h2 => (Below.heap_setCell w x v k (by rcases hx with e | e | e <;> omega)).trans (h.block k hk h1 h2)⟩
theorem Fr.setp {p m : Nat} {a w : World} (h : Fr p m a w) (i : Nat) (v : Value) : Fr p m a (w.setCell ⟨p, i, none⟩ v) := h.set (Or.inl rfl) v
theorem Fr.setn {p m b : Nat} {a w : World} (h : Fr p m a w) (hb : a.heap.size ≤ b) (i : Nat) (v : Value) : Fr p m a (w.setCell ⟨b, i, none⟩ v) := h.set (Or.inr (Or.inr hb)) v
theorem Fr.turned {p m : Nat} {a w w' : World} (h : Fr p m a w) (ht : w.mapTurned w' m) : Fr p m a w' := by
  have hg := ht.grown
  exact ⟨hg.os.trans h.os, hg.tape.trans h.tape, hg.output.trans h.output, Nat.le_trans h.size hg.size, fun k hk h1 h2 => (hg.block k (Nat.lt_of_lt_of_le hk h.size) (by simp; omega)).trans (h.block k hk h1 h2)⟩

def updL (L : List Hold) (c : Hold) : List Hold := if c.q = 0 then del L c.key else put L c

def applyTot (S : PS) (cs : List Hold) : Int := cs.foldl (fun t c => t + (c.v - val S.L c.key)) S.value
def ApplyPost (p m : Nat) (S : PS) (cover : Bool) (cs : List Hold) (w : World) (e : Ending) (w' : World) : Prop :=
  if 1000000000000000 < applyTot S cs then e = .returned (.int .i64 12) ∧ Below w.heap.size w w'
  else if cover = true ∧ applyTot S cs < S.req then e = .returned (.int .i64 25) ∧ Below w.heap.size w w'
  else e = .returned (.int .i64 0) ∧ PoolAt w' p m { S with L := cs.foldl updL S.L, value := applyTot S cs } ∧ Fr p m w w'

theorem ApplyPost.over {p m : Nat} {S : PS} {cover : Bool} {cs : List Hold} {w w' : World} (h : 1000000000000000 < applyTot S cs) (hb : Below w.heap.size w w') : ApplyPost p m S cover cs w (.returned (.int .i64 12)) w' := by
  unfold ApplyPost; rw [if_pos h]; exact ⟨rfl, hb⟩
theorem ApplyPost.cov {p m : Nat} {S : PS} {cover : Bool} {cs : List Hold} {w w' : World} (h : ¬ 1000000000000000 < applyTot S cs) (hc : cover = true) (h' : applyTot S cs < S.req) (hb : Below w.heap.size w w') : ApplyPost p m S cover cs w (.returned (.int .i64 25)) w' := by
  unfold ApplyPost; rw [if_neg h, if_pos ⟨hc, h'⟩]; exact ⟨rfl, hb⟩
theorem ApplyPost.ok {p m : Nat} {S : PS} {cover : Bool} {cs : List Hold} {w w' : World} (h : ¬ 1000000000000000 < applyTot S cs) (hc : ¬ (cover = true ∧ applyTot S cs < S.req))
    (hP : PoolAt w' p m { S with L := cs.foldl updL S.L, value := applyTot S cs }) (hF : Fr p m w w') : ApplyPost p m S cover cs w (.returned (.int .i64 0)) w' := by
  unfold ApplyPost; rw [if_neg h, if_neg hc]; exact ⟨rfl, hP, hF⟩
theorem PoolAt.alloc {w : World} {p m : Nat} {S : PS} (h : PoolAt w p m S) (o : Obj) : PoolAt (w.alloc o) p m S := ⟨blk_alloc h.1 o, h.2.alloc o⟩
theorem PoolAt.drewN {w : World} {p m : Nat} {S : PS} (h : PoolAt w p m S) (n : Nat) : PoolAt (w.drewN n) p m S := ⟨h.1, h.2.drewN n⟩
theorem PoolAt.drew {w : World} {p m : Nat} {S : PS} (h : PoolAt w p m S) : PoolAt w.drew p m S := ⟨h.1, h.2.drew⟩
theorem PoolAt.other {w : World} {p m : Nat} {S : PS} (h : PoolAt w p m S) {a : Addr} (hp : p ≠ a.block) (hm : m ≠ a.block) (v : Value) : PoolAt (w.setCell a v) p m S := ⟨blk_other h.1 hp v, h.2.setCell hm v⟩
theorem PoolAt.ne {w : World} {p m : Nat} {S : PS} (h : PoolAt w p m S) : p ≠ m := by
  intro e
  obtain ⟨h1, es, clock, hb, _⟩ := h
  subst e
  rw [h1] at hb; cases hb
theorem below_drewN {B : Nat} {a w : World} (h : Below B a w) (n : Nat) : Below B a (w.drewN n) := ⟨h.os, h.tape, h.output, h.size, h.block⟩

theorem Fr.refl (p m : Nat) (w : World) : Fr p m w w := ⟨rfl, rfl, rfl, Nat.le_refl _, fun _ _ _ _ => rfl⟩
theorem Fr.bstep {p m : Nat} {a w w' : World} (h : Fr p m a w) (hb : Below w.heap.size w w') : Fr p m a w' := h.trans (Fr.of_below hb (Nat.le_refl _))
theorem Fr.alloc {p m : Nat} {a w : World} (h : Fr p m a w) (o : Obj) : Fr p m a (w.alloc o) := h.bstep ((Below.refl _ _).alloc (Nat.le_refl _) _)
theorem PoolAt.value {w : World} {p m : Nat} {S : PS} (h : PoolAt w p m S) (tot : Int) : PoolAt (w.setCell ⟨p, 4, none⟩ (.int .i64 tot)) p m { S with value := tot } :=
  ⟨(blk_set h.1 4 (.int .i64 tot)).trans rfl, h.2.setCell h.ne.symm _⟩
theorem PoolAt.turn {w w' : World} {p m : Nat} {S : PS} {L' : List Hold} (h : PoolAt w p m S) (h4 : MapIs w' m L') (ht : w.mapTurned w' m) : PoolAt w' p m { S with L := L' } := by
  refine ⟨?_, h4⟩
  rw [ht.grown.block p h.lt (by simp [h.ne])]
  exact h.1

theorem apply_close {w w3 w4 : World} {p m : Nat} {S : PS} {L' : List Hold} (hP : PoolAt w3 p m S) (hF : Fr p m w w3) (hM : MapIs w4 m L') (ht : w3.drew.mapTurned w4 m) : PoolAt w4 p m { S with L := L' } ∧ Fr p m w w4 :=
  ⟨hP.drew.turn hM ht, Fr.turned (w := w3.drew) ⟨hF.os, hF.tape, hF.output, hF.size, hF.block⟩ ht⟩

set_option maxRecDepth 100000 in
set_option maxHeartbeats 4000000 in
theorem apply1_calls (w : World) (p m : Nat) (S : PS) (cover : Bool) (c : Hold) (b : Nat) (h : PoolAt w p m S) (hk : c.key.size ≤ maxLen) (hn : S.L.length < maxLen)
    (hc : w.heap[b]? = some (.cells #[.string c.key, .int .i64 c.q, .int .i64 c.v] 68 (0, 0)))
    (h0 : 0 ≤ S.value) (h1 : S.value ≤ 1000000000000000) (h2 : 0 ≤ c.v) (h3 : c.v ≤ 1000000000000000) (h4 : 0 ≤ val S.L c.key) (h5 : val S.L c.key ≤ 1000000000000000) :
    Calls Tryd.prog 24 #[.pointer (some ⟨p, 0, none⟩), .bool cover, .slice (some ⟨b, 0, none⟩) 1 1] w (ApplyPost p m S cover [c] w) := by
  obtain ⟨c0, c1, c2, c3, c4⟩ := h.cells
  have hl := fun n => ((h.2.alloc (.cells #[.string c.key, .int .i64 c.q, .int .i64 c.v] 68)).drewN n).look1 hk
  have hf1 := field1
  have e2 := cell_alloc c2 (.cells #[.string c.key, .int .i64 c.q, .int .i64 c.v] 68)
  have d0 := (blk_cell hc 0).trans rfl
  have d1 := (blk_cell hc 1).trans rfl
  have d2 := (blk_cell hc 2).trans rfl
  have H := Lib.hid h
  have HC := Lib.hid hc
  clear h hc
  go_enter Tryd.func24, Tryd.ntmps24
  go_wp2
  refine wp_loop_rounds 2 ?_
  rw [rounds_succ]
  go_wp2
  go_quiet (fail)
  rename_i nq
  clear e2 hl
  have HP := Lib.hid ((H.out.alloc (.cells #[.string c.key, .int .i64 c.q, .int .i64 c.v] 68)).drewN nq)
  have HCC := Lib.hid (show ((w.alloc (.cells #[.string c.key, .int .i64 c.q, .int .i64 c.v] 68)).drewN nq).heap[b]? = _ from blk_alloc HC.out _)
  have HB : Hid (Below w.heap.size w ((w.alloc (.cells #[.string c.key, .int .i64 c.q, .int .i64 c.v] 68)).drewN nq)) := below_drewN ((Below.refl _ _).alloc (Nat.le_refl _) _) nq
  generalize (w.alloc (.cells #[.string c.key, .int .i64 c.q, .int .i64 c.v] 68)).drewN nq = W1 at HP HCC HB ⊢
  clear c0 c1 c2 c3 c4 d0 d1 d2
  obtain ⟨c0, c1, c2, c3, c4⟩ := HP.out.cells
  have d0 := (blk_cell HCC.out 0).trans rfl
  have d1 := (blk_cell HCC.out 1).trans rfl
  have d2 := (blk_cell HCC.out 2).trans rfl
  have f4 := blk_frozen HP.out.1 4
  go_wp2
  rw [rounds_succ]
  go_wp2
  · go_ret
    rename_i hov
    exact ApplyPost.over hov HB.out
  · go_ret
    rename_i hov hcov hcv
    exact ApplyPost.cov (by show ¬ _ < S.value + (c.v - val S.L c.key); omega) hcov hcv HB.out
  all_goals
    have HP2 := Lib.hid (HP.out.value (S.value + (c.v - val S.L c.key)))
    have hbp : b ≠ p := by
      intro e
      have h1 := HCC.out
      rw [e, HP.out.1] at h1
      simp [PS.row] at h1
    have HC2 := Lib.hid (blk_other (a := ⟨p, 4, none⟩) HCC.out hbp (.int .i64 (S.value + (c.v - val S.L c.key))))
    have HF2 := Lib.hid ((Fr.of_below (p := p) (m := m) HB.out (Nat.le_refl _)).set (x := ⟨p, 4, none⟩) (Or.inl rfl) (.int .i64 (S.value + (c.v - val S.L c.key))))
    clear c0 c1 c2 c3 c4 d0 d1 d2 f4
    generalize W1.setCell ⟨p, 4, none⟩ (.int .i64 (S.value + (c.v - val S.L c.key))) = W2 at HP2 HC2 HF2 ⊢
    obtain ⟨c0, c1, c2, c3, c4⟩ := HP2.out.cells
    have d0 := (blk_cell HC2.out 0).trans rfl
    have d1 := (blk_cell HC2.out 1).trans rfl
    have d2 := (blk_cell HC2.out 2).trans rfl
    have n0 := (blk_cell (blk_new W2 (.cells #[.string c.key, .int .i64 c.q, .int .i64 c.v] 68)) 0).trans rfl
    have n1 := (blk_cell (blk_new W2 (.cells #[.string c.key, .int .i64 c.q, .int .i64 c.v] 68)) 1).trans rfl
    have n2 := (blk_cell (blk_new W2 (.cells #[.string c.key, .int .i64 c.q, .int .i64 c.v] 68)) 2).trans rfl
    have e2 := cell_alloc c2 (.cells #[.string c.key, .int .i64 c.q, .int .i64 c.v] 68)
    have HP3 := Lib.hid (HP2.out.alloc (.cells #[.string c.key, .int .i64 c.q, .int .i64 c.v] 68))
    have HF3 := Lib.hid (HF2.out.alloc (.cells #[.string c.key, .int .i64 c.q, .int .i64 c.v] 68))
    refine wp_loop_rounds 2 ?_
    rw [rounds_succ]
    go_wp2
  all_goals
    clear c0 c1 c2 c3 c4 d0 d1 d2
    generalize W2.alloc (.cells #[.string c.key, .int .i64 c.q, .int .i64 c.v] 68) = W3 at n0 n1 n2 e2 HP3 HF3 ⊢
  all_goals first
    | (go_still_tail 6, (by kernel_rfl)
       go_wp2_with (at_delete; refine wpList_drop W3 rfl _ _ rfl m S.L c.key rfl rfl HP3.out.2 hk rfl ?_; intro W4 hM4 ht4)
       rw [rounds_succ]
       go_wp2
       go_ret
       have hcl := apply_close HP3.out HF3.out hM4 ht4
       have hq : c.q = 0 := by simp_all
       refine ApplyPost.ok (by simp only [applyTot, List.foldl]; omega) ?_ ?_ hcl.2
       · simp only [applyTot, List.foldl]; rintro ⟨a, b⟩; first | omega | simp_all
       · simpa [updL, hq, applyTot] using hcl.1)
    | (go_still_tail 8, (by kernel_rfl)
       go_wp2_with (at_mapUpdate; refine wpList_store W3 rfl _ _ _ rfl m S.L c.key c.q c.v rfl rfl rfl HP3.out.2 hk hn rfl ?_; intro W4 hM4 ht4)
       rw [rounds_succ]
       go_wp2
       go_ret
       have hcl := apply_close HP3.out HF3.out hM4 ht4
       have hq : c.q ≠ 0 := by intro e; simp_all
       refine ApplyPost.ok (by simp only [applyTot, List.foldl]; omega) ?_ ?_ hcl.2
       · simp only [applyTot, List.foldl]; rintro ⟨a, b⟩; first | omega | simp_all
       · simpa [updL, hq, applyTot] using hcl.1)
end Go.Proofs.YtjjnljfphaimgaaDoor.C
/- Pledge, Release, Require. -/
namespace Go.Proofs.YtjjnljfphaimgaaDoor.C
open Go Go.RowKit Go.Maps

/-- A pool's state is in order: f values its holdings. -/
structure PS.Ok (S : PS) : Prop where
  v0 : 0 ≤ S.value
  v1 : S.value ≤ 1000000000000000
  r0 : 0 ≤ S.req
  r1 : S.req ≤ 1000000000000000
  q0 : ∀ h ∈ S.L, 1 ≤ h.q
  q1 : ∀ h ∈ S.L, h.q ≤ 1000000000000000
  w0 : ∀ h ∈ S.L, 0 ≤ h.v
  w1 : ∀ h ∈ S.L, h.v ≤ 1000000000000000
  len : S.L.length ≤ 1024

theorem find_mem {L : List Hold} {k : ByteArray} {h : Hold} (e : find L k = some h) : h ∈ L ∧ h.key = k := by
  unfold find at e
  have := List.find?_some e
  exact ⟨List.mem_of_find?_eq_some e, by simpa using this⟩
theorem find_none {L : List Hold} {k : ByteArray} (e : find L k = none) : has L k = false := by
  unfold find at e
  rw [List.find?_eq_none] at e
  simp only [has, List.any_eq_false]
  exact e
theorem find_some_has {L : List Hold} {k : ByteArray} {h : Hold} (e : find L k = some h) : has L k = true := by
  obtain ⟨h1, h2⟩ := find_mem e
  simp only [has, List.any_eq_true, decide_eq_true_eq]
  exact ⟨h, h1, h2⟩
theorem PS.Ok.qty {S : PS} (h : S.Ok) (k : ByteArray) : 0 ≤ qty S.L k ∧ C.qty S.L k ≤ 1000000000000000 ∧ 0 ≤ val S.L k ∧ val S.L k ≤ 1000000000000000 := by
  unfold C.qty val
  cases e : find S.L k with
  | none => simp
  | some x =>
    have hm := (find_mem e).1
    have a := h.q0 x hm; have b := h.q1 x hm; have c := h.w0 x hm; have d := h.w1 x hm
    simp only [Option.map_some, Option.getD_some]; omega
theorem PS.Ok.qty1 {S : PS} (h : S.Ok) {k : ByteArray} (hk : has S.L k = true) : 1 ≤ C.qty S.L k := by
  unfold C.qty
  cases e : find S.L k with
  | none => rw [find_none e] at hk; cases hk
  | some x => exact h.q0 x (find_mem e).1

theorem isAmount_yes (n : Int) (w : World) (h0 : 1 ≤ n) (h1 : n ≤ 1000000000000000) : Calls Tryd.prog 22 #[.int .i64 n] w fun e w' => e = .returned (.bool true) ∧ w = w' :=
  (isAmount_calls n w).mono fun e w' ⟨he, hw⟩ => ⟨by rw [he]; simp [h0, h1], hw⟩
theorem isAmount_no (n : Int) (w : World) (h : ¬ (1 ≤ n ∧ n ≤ 1000000000000000)) : Calls Tryd.prog 22 #[.int .i64 n] w fun e w' => e = .returned (.bool false) ∧ w = w' :=
  (isAmount_calls n w).mono fun e w' ⟨he, hw⟩ => ⟨by rw [he]; congr 2; simp; omega, hw⟩

theorem worth_pos (w : World) (p m : Nat) (S : PS) (k : ByteArray) (q : Int) (T : TypeId) (x : Value) (B : Nat) (w0 : World) (f : ByteArray → Int → Int × Int) (fid : FuncId) (rv : Value)
    (h : PoolAt w p m S) (hv : IsValuer T x B w0 f fid rv) (hS : S.vl = .iface T x) (hB : Below B w0 w) (hBs : B ≤ w.heap.size) (h0 : 1 ≤ q) (h1 : q ≤ 1000000000000000) :
    Calls Tryd.prog 23 #[.pointer (some ⟨p, 0, none⟩), .string k, .int .i64 q] w
      (Ret (.tuple #[.agg #[.int .i64 q, .int .i64 (f k q).1], .int .i64 (f k q).2]) w.heap.size w) := by
  have := worth_calls w p m S k q T x B w0 f fid rv h hv hS hB hBs (by omega) h1
  rwa [show worthF f k q = (q, (f k q).1, (f k q).2) from by unfold worthF; rw [if_neg (by omega)]] at this

/-- What a method that writes leaves. -/
def MutPost (p m : Nat) (w : World) (r : Int × PS) (e : Ending) (w' : World) : Prop := e = .returned (.int .i64 r.1) ∧ PoolAt w' p m r.2 ∧ Fr p m w w'
theorem MutPost.same {p m : Nat} {w w' : World} {r : Int × PS} {S : PS} {c : Int} (hr : r = (c, S)) (h : PoolAt w p m S) (hb : Below w.heap.size w w') : MutPost p m w r (.returned (.int .i64 c)) w' := by
  subst hr; exact ⟨rfl, h.below hb h.lt h.2.lt, Fr.of_below hb (Nat.le_refl _)⟩

def applyF (S : PS) (cover : Bool) (cs : List Hold) : Int × PS :=
  if 1000000000000000 < applyTot S cs then (12, S) else if cover = true ∧ applyTot S cs < S.req then (25, S) else (0, { S with L := cs.foldl updL S.L, value := applyTot S cs })
theorem ApplyPost.mut {p m : Nat} {S : PS} {cover : Bool} {cs : List Hold} {w0 w w' : World} {e : Ending} (h : ApplyPost p m S cover cs w e w') (hP : PoolAt w0 p m S) (hb : Below w0.heap.size w0 w) : MutPost p m w0 (applyF S cover cs) e w' := by
  unfold ApplyPost at h
  unfold applyF
  have hs := hb.size
  split at h
  · rename_i c; rw [if_pos c]; obtain ⟨rfl, hb'⟩ := h; exact MutPost.same rfl hP (bstep hb hb' hs)
  · rename_i c; rw [if_neg c]
    split at h
    · rename_i c'; rw [if_pos c']; obtain ⟨rfl, hb'⟩ := h; exact MutPost.same rfl hP (bstep hb hb' hs)
    · rename_i c'; rw [if_neg c']; obtain ⟨rfl, hP', hF⟩ := h
      exact ⟨rfl, hP', (Fr.of_below hb (Nat.le_refl _)).trans hF⟩

noncomputable def pledgeF (f : ByteArray → Int → Int × Int) (S : PS) (k : ByteArray) (n : Int) : Int × PS :=
  if isinB k = false then (6, S)
  else if ¬ (1 ≤ n ∧ n ≤ 1000000000000000) then (2, S)
  else if 1000000000000000 - n < qty S.L k then (12, S)
  else if has S.L k = false ∧ 1024 ≤ S.L.length then (8, S)
  else if (f k (qty S.L k + n)).2 ≠ 0 then ((f k (qty S.L k + n)).2, S)
  else applyF S false [⟨k, qty S.L k + n, (f k (qty S.L k + n)).1⟩]

set_option maxRecDepth 100000 in
set_option maxHeartbeats 4000000 in
theorem pledge_calls (w : World) (p m : Nat) (S : PS) (k : ByteArray) (hsz : k.size ≤ maxLen) (n : Int) (T : TypeId) (x : Value) (B : Nat) (w0 : World) (f : ByteArray → Int → Int × Int) (fid : FuncId) (rv : Value)
    (h : PoolAt w p m S) (hok : S.Ok) (hv : IsValuer T x B w0 f fid rv) (hS : S.vl = .iface T x) (hB : Below B w0 w) (hBs : B ≤ w.heap.size) (hk : k.size ≤ maxLen)
    (hf : ∀ k q, 0 ≤ (f k q).1 ∧ (f k q).1 ≤ 1000000000000000) :
    Calls Tryd.prog 4 #[.pointer (some ⟨p, 0, none⟩), .string k, .int .i64 n] w (MutPost p m w (pledgeF f S k n)) := by
  obtain ⟨c0, c1, c2, c3, c4⟩ := h.cells
  have hlook := h.2.look hk
  obtain ⟨q0, q1, q2, q3⟩ := hok.qty k
  have hp := h.lt
  have hlen := hok.len
  have H := Lib.hid h
  have HV := Lib.hid hv
  have HS := Lib.hid hS
  clear h hv hS
  by_cases ha : 1 ≤ n ∧ n ≤ 1000000000000000
  · have ha0 := ha.1
    have ha1 := ha.2
    clear ha
    go_enter Tryd.func4, Tryd.ntmps4
    go_wp2_with fail
    refine (valid_calls _ _ _ (Or.inl rfl) hsz).mono ?_
    rintro e w1 ⟨rfl, hb1⟩
    have HB1 := Lib.hid (bstep ((Below.refl w.heap.size w).alloc (Nat.le_refl _) _) hb1 (by simp))
    have HP1 := Lib.hid (H.out.below HB1.out H.out.lt H.out.2.lt)
    have BO := Lib.hid (blk_keep hb1 (blk_new _ _) (Nat.le_refl _))
    have HS1 : w.heap.size < w1.heap.size := blk_lt BO.out
    have hl := fun ty => HP1.out.2.len ty
    have o0 := (blk_cell BO.out 0).trans rfl
    have o1 := (blk_cell BO.out 1).trans rfl
    clear c0 c1 c2 c3 c4 hlook hb1
    obtain ⟨c0, c1, c2, c3, c4⟩ := HP1.out.cells
    go_wp2_with (go_at_call 22; refine (isAmount_yes _ _ ha0 ha1).mono ?_; rintro e w' ⟨rfl, rfl⟩)
    · go_ret
      rename_i hv1
      exact MutPost.same (by unfold pledgeF; rw [if_pos (by simp_all [validB])]) H.out HB1.out
    · go_ret
      rename_i hv1 hq
      exact MutPost.same (by unfold pledgeF; rw [if_neg (by simp_all [validB]), if_neg (by simp [ha0, ha1]), if_pos hq]) H.out HB1.out
    rotate_left
    · go_ret
      rename_i hv1 hq hh hl1
      exact MutPost.same (by unfold pledgeF; rw [if_neg (by simp_all [validB]), if_neg (by simp [ha0, ha1]), if_neg (by omega), if_pos ⟨by simpa using hh, by omega⟩]) H.out HB1.out
    all_goals
      have HPF : Hid (pledgeF f S k n = if (f k (qty S.L k + n)).2 ≠ 0 then ((f k (qty S.L k + n)).2, S) else applyF S false [⟨k, qty S.L k + n, (f k (qty S.L k + n)).1⟩]) := by
        have g1 : isinB k = true := by simp_all [validB]
        have g2 : ¬ 1000000000000000 - n < qty S.L k := by omega
        have g3 : ¬ (has S.L k = false ∧ 1024 ≤ S.L.length) := by rintro ⟨a, b⟩; first | omega | simp_all
        unfold Hid pledgeF
        rw [if_neg (by simp [g1]), if_neg (by simp [ha0, ha1]), if_neg g2, if_neg g3]
      have HB2 := Lib.hid (hB.trans (HB1.out.mono hBs))
      refine (worth_pos _ _ m S _ _ T x B w0 f fid rv HP1.out HV.out HS.out HB2.out (Nat.le_trans hBs HB1.out.size) (by omega) (by omega)).mono ?_
      rintro e w2 ⟨rfl, hb2⟩
      have HB3 := Lib.hid (bstep HB1.out hb2 HB1.out.size)
      have HP2 := Lib.hid (H.out.below HB3.out H.out.lt H.out.2.lt)
      clear c0 c1 c2 c3 c4 hb2 o0 o1 hl
      go_wp2_with fail
    all_goals first
      | (go_ret
         rename_i he
         exact MutPost.same (by rw [HPF.out, if_pos (by simpa using he)]) H.out (HB3.out.alloc HB3.out.size _))
      | (have he : ((f k (qty S.L k + n)).2 != 0) = false := by assumption
         have hf0 := hf k (qty S.L k + n)
         have HB4 := Lib.hid ((HB3.out.alloc HB3.out.size (.cells #[.int .i64 (qty S.L k + n), .int .i64 (f k (qty S.L k + n)).1] 55)).alloc (by have := HB3.out.size; simp; omega) (.cells #[.string k, .int .i64 (qty S.L k + n), .int .i64 (f k (qty S.L k + n)).1] 68))
         have HP4 := Lib.hid ((HP2.out.alloc (.cells #[.int .i64 (qty S.L k + n), .int .i64 (f k (qty S.L k + n)).1] 55)).alloc (.cells #[.string k, .int .i64 (qty S.L k + n), .int .i64 (f k (qty S.L k + n)).1] 68))
         have HC4 := Lib.hid (blk_new (w2.alloc (.cells #[.int .i64 (qty S.L k + n), .int .i64 (f k (qty S.L k + n)).1] 55)) (.cells #[.string k, .int .i64 (qty S.L k + n), .int .i64 (f k (qty S.L k + n)).1] 68))
         refine (apply1_calls _ p m S false ⟨k, qty S.L k + n, (f k (qty S.L k + n)).1⟩ _ HP4.out hk (by unfold maxLen; omega) (by simpa using HC4.out) hok.v0 hok.v1 hf0.1 hf0.2 q2 q3).mono ?_
         rintro e w3 hpost
         obtain ⟨rfl, hm1, hm2⟩ := hpost.mut H.out HB4.out
         have HM1 := Lib.hid hm1
         have HM2 := Lib.hid hm2
         have HE := Lib.hid he
         clear hm1 hm2 hpost he
         go_wp2
         go_ret
         show MutPost p m w _ (.returned (.int .i64 _)) _
         rw [HPF.out, if_neg (by simpa using HE.out)]
         exact ⟨rfl, HM1.out, HM2.out⟩)
  · have hpl : ¬ isinB k = false → pledgeF f S k n = (2, S) := fun g => by unfold pledgeF; rw [if_neg g, if_pos ha]
    go_enter Tryd.func4, Tryd.ntmps4
    go_wp2_with fail
    refine (valid_calls _ _ _ (Or.inl rfl) hsz).mono ?_
    rintro e w1 ⟨rfl, hb1⟩
    have HB1 := Lib.hid (bstep ((Below.refl w.heap.size w).alloc (Nat.le_refl _) _) hb1 (by simp))
    have HPL := Lib.hid hpl
    have HA := Lib.hid ha
    clear c0 c1 c2 c3 c4 hlook hb1 hpl ha
    go_wp2_with (go_at_call 22; refine (isAmount_no _ _ HA.out).mono ?_; rintro e w' ⟨rfl, rfl⟩)
    · go_ret
      rename_i hv1
      exact MutPost.same (by unfold pledgeF; rw [if_pos (by simp_all [validB])]) H.out HB1.out
    · go_ret
      rename_i hv1
      exact MutPost.same (HPL.out (by simp_all [validB])) H.out HB1.out
end Go.Proofs.YtjjnljfphaimgaaDoor.C
/- Release, Require. -/
namespace Go.Proofs.YtjjnljfphaimgaaDoor.C
open Go Go.RowKit Go.Maps

def releaseF (f : ByteArray → Int → Int × Int) (S : PS) (k : ByteArray) (n : Int) : Int × PS :=
  if ckRel S.L k n ≠ 0 then (ckRel S.L k n, S)
  else if (worthF f k (qty S.L k - n)).2.2 ≠ 0 then ((worthF f k (qty S.L k - n)).2.2, S)
  else applyF S true [⟨k, (worthF f k (qty S.L k - n)).1, (worthF f k (qty S.L k - n)).2.1⟩]

theorem worthF_v (f : ByteArray → Int → Int × Int) (hf : ∀ k q, 0 ≤ (f k q).1 ∧ (f k q).1 ≤ 1000000000000000) (k : ByteArray) (q : Int) : 0 ≤ (worthF f k q).2.1 ∧ (worthF f k q).2.1 ≤ 1000000000000000 := by
  unfold worthF; split
  · simp
  · exact hf k q
theorem ckRel_zero {L : List Hold} {k : ByteArray} {n : Int} (h : ckRel L k n = 0) : has L k = true ∧ 1 ≤ n ∧ n ≤ 1000000000000000 ∧ n ≤ qty L k := by
  unfold ckRel at h
  split at h
  · cases h
  · rename_i h1
    split at h
    · cases h
    · rename_i h2
      split at h
      · cases h
      · rename_i h3
        simp only [Decidable.not_not] at h2
        exact ⟨by simpa using h1, h2.1, h2.2, by omega⟩

set_option maxRecDepth 100000 in
set_option maxHeartbeats 4000000 in
theorem release_calls (w : World) (p m : Nat) (S : PS) (k : ByteArray) (n : Int) (T : TypeId) (x : Value) (B : Nat) (w0 : World) (f : ByteArray → Int → Int × Int) (fid : FuncId) (rv : Value)
    (h : PoolAt w p m S) (hok : S.Ok) (hv : IsValuer T x B w0 f fid rv) (hS : S.vl = .iface T x) (hB : Below B w0 w) (hBs : B ≤ w.heap.size) (hk : k.size ≤ maxLen)
    (hf : ∀ k q, 0 ≤ (f k q).1 ∧ (f k q).1 ≤ 1000000000000000) :
    Calls Tryd.prog 5 #[.pointer (some ⟨p, 0, none⟩), .string k, .int .i64 n] w (MutPost p m w (releaseF f S k n)) := by
  obtain ⟨q0, q1, q2, q3⟩ := hok.qty k
  have hp := h.lt
  have hlen := hok.len
  have hf1 := field0
  have H := Lib.hid h
  have HV := Lib.hid hv
  have HS := Lib.hid hS
  have HW := Lib.hid (worthF_v f hf k (qty S.L k - n))
  have HCK := fun h => Lib.hid (ckRel_zero (L := S.L) (k := k) (n := n) h)
  clear h hv hS
  go_enter Tryd.func5, Tryd.ntmps5
  go_wp2_with fail
  refine (checkRelease_calls _ _ m S _ _ H.out hk).mono ?_
  rintro e w1 ⟨rfl, hb1⟩
  have HB1 := Lib.hid hb1
  have HP1 := Lib.hid (H.out.below HB1.out H.out.lt H.out.2.lt)
  obtain ⟨c0, c1, c2, c3, c4⟩ := HP1.out.cells
  have hl := HP1.out.2.look1 hk
  clear hb1
  generalize hc : ckRel S.L k n = ck
  have HC := Lib.hid hc
  clear hc
  by_cases hz : ck = 0
  · subst hz
    have hbd := (HCK HC.out).out
    obtain ⟨b0, b1, b2, b3⟩ := hbd
    have HB0 := Lib.hid b0
    clear b0
    go_wp2_with fail
    have HB2 := Lib.hid (hB.trans (HB1.out.mono hBs))
    refine (worth_calls _ p m S k (qty S.L k - n) T x B w0 f fid rv HP1.out HV.out HS.out HB2.out (Nat.le_trans hBs HB1.out.size) (by omega) (by omega)).mono ?_
    have HR : Hid (releaseF f S k n = if (worthF f k (qty S.L k - n)).2.2 ≠ 0 then ((worthF f k (qty S.L k - n)).2.2, S) else applyF S true [⟨k, (worthF f k (qty S.L k - n)).1, (worthF f k (qty S.L k - n)).2.1⟩]) := by
      unfold Hid releaseF; rw [if_neg (by simp [HC.out])]
    generalize hWF : worthF f k (qty S.L k - n) = r at HW HR ⊢
    have HWF := Lib.hid hWF
    clear hWF
    obtain ⟨wq, wv, we⟩ := r
    simp only at HW HR ⊢
    rintro e w2 ⟨rfl, hb2⟩
    have HB3 := Lib.hid (bstep HB1.out hb2 HB1.out.size)
    have HP2 := Lib.hid (H.out.below HB3.out H.out.lt H.out.2.lt)
    clear c0 c1 c2 c3 c4 hb2 hl
    go_wp2_with fail
    · go_ret
      rename_i he
      exact MutPost.same (by rw [HR.out, if_pos (by simpa using he)]) H.out (HB3.out.alloc HB3.out.size _)
    · have he : (we != 0) = false := by assumption
      have hf0 := HW.out
      have HB4 := Lib.hid ((HB3.out.alloc HB3.out.size (.cells #[.int .i64 wq, .int .i64 wv] 55)).alloc (by have := HB3.out.size; simp; omega) (.cells #[.string k, .int .i64 wq, .int .i64 wv] 68))
      have HP4 := Lib.hid ((HP2.out.alloc (.cells #[.int .i64 wq, .int .i64 wv] 55)).alloc (.cells #[.string k, .int .i64 wq, .int .i64 wv] 68))
      have HC4 := Lib.hid (blk_new (w2.alloc (.cells #[.int .i64 wq, .int .i64 wv] 55)) (.cells #[.string k, .int .i64 wq, .int .i64 wv] 68))
      refine (apply1_calls _ p m S true ⟨k, wq, wv⟩ _ HP4.out hk (by unfold maxLen; omega) (by simpa using HC4.out) hok.v0 hok.v1 hf0.1 hf0.2 q2 q3).mono ?_
      rintro e w3 hpost
      obtain ⟨rfl, hm1, hm2⟩ := hpost.mut H.out HB4.out
      have HM1 := Lib.hid hm1
      have HM2 := Lib.hid hm2
      have HE := Lib.hid he
      clear hm1 hm2 hpost he
      go_wp2
      go_ret
      show MutPost p m w _ (.returned (.int .i64 _)) _
      rw [HR.out, if_neg (by simpa using HE.out)]
      exact ⟨rfl, HM1.out, HM2.out⟩
  · have hz1 : (ck != 0) = true := by simpa using hz
    have HZ := Lib.hid hz
    clear hz
    go_wp2_with fail
    go_ret
    exact MutPost.same (by unfold releaseF; rw [HC.out, if_pos HZ.out]) H.out HB1.out

def requireF (S : PS) (n : Int) : Int × PS :=
  if n < 0 ∨ 1000000000000000 < n then (2, S) else if S.value < n then (25, S) else (0, { S with req := n })
theorem PoolAt.req {w : World} {p m : Nat} {S : PS} (h : PoolAt w p m S) (n : Int) : PoolAt (w.setCell ⟨p, 3, none⟩ (.int .i64 n)) p m { S with req := n } :=
  ⟨(blk_set h.1 3 (.int .i64 n)).trans rfl, h.2.setCell h.ne.symm _⟩
set_option maxRecDepth 100000 in
set_option maxHeartbeats 1000000 in
theorem require_calls (w : World) (p m : Nat) (S : PS) (n : Int) (h : PoolAt w p m S) :
    Calls Tryd.prog 6 #[.pointer (some ⟨p, 0, none⟩), .int .i64 n] w (MutPost p m w (requireF S n)) := by
  obtain ⟨c0, c1, c2, c3, c4⟩ := h.cells
  have f3 := blk_frozen h.1 3
  have H := Lib.hid h
  clear h
  go_enter Tryd.func6, Tryd.ntmps6
  go_wp2
  all_goals go_ret
  all_goals first
    | exact MutPost.same (by unfold requireF; rw [if_pos (by omega)]) H.out (Below.refl _ _)
    | exact MutPost.same (by unfold requireF; rw [if_neg (by omega), if_pos (by omega)]) H.out (Below.refl _ _)
    | (show MutPost p m w _ (.returned (.int .i64 _)) _
       unfold requireF; rw [if_neg (by omega), if_neg (by omega)]
       exact ⟨rfl, H.out.req n, (Fr.refl p m w).set (Or.inl rfl) _⟩)
end Go.Proofs.YtjjnljfphaimgaaDoor.C
/- apply at two changes. -/
namespace Go.Proofs.YtjjnljfphaimgaaDoor.C
open Go Go.RowKit Go.Maps

set_option maxRecDepth 100000 in
set_option maxHeartbeats 8000000 in
theorem apply2_calls (w : World) (p m : Nat) (S : PS) (cover : Bool) (c e : Hold) (b : Nat) (h : PoolAt w p m S) (hk : c.key.size ≤ maxLen) (hke : e.key.size ≤ maxLen) (hn : S.L.length + 1 < maxLen)
    (hc : w.heap[b]? = some (.cells #[.string c.key, .int .i64 c.q, .int .i64 c.v, .string e.key, .int .i64 e.q, .int .i64 e.v] 68 (0, 0)))
    (h0 : 0 ≤ S.value) (h1 : S.value ≤ 1000000000000000) (h2 : 0 ≤ c.v) (h3 : c.v ≤ 1000000000000000) (h4 : 0 ≤ val S.L c.key) (h5 : val S.L c.key ≤ 1000000000000000)
    (i2 : 0 ≤ e.v) (i3 : e.v ≤ 1000000000000000) (i4 : 0 ≤ val S.L e.key) (i5 : val S.L e.key ≤ 1000000000000000) (he : 1 ≤ e.q) (hL : ((updL S.L c).length ≤ S.L.length + 1)) :
    Calls Tryd.prog 24 #[.pointer (some ⟨p, 0, none⟩), .bool cover, .slice (some ⟨b, 0, none⟩) 2 2] w (ApplyPost p m S cover [c, e] w) := by
  obtain ⟨c0, c1, c2, c3, c4⟩ := h.cells
  have hl := fun n => ((h.2.alloc (.cells #[.string c.key, .int .i64 c.q, .int .i64 c.v] 68)).drewN n).look1 hk
  have hf1 := field1
  have e2 := cell_alloc c2 (.cells #[.string c.key, .int .i64 c.q, .int .i64 c.v] 68)
  have d0 := (blk_cell hc 0).trans rfl
  have d1 := (blk_cell hc 1).trans rfl
  have d2 := (blk_cell hc 2).trans rfl
  have H := Lib.hid h
  have HC := Lib.hid hc
  have HLL := Lib.hid hL
  clear h hc hL
  go_enter Tryd.func24, Tryd.ntmps24
  go_wp2
  refine wp_loop_rounds 3 ?_
  rw [rounds_succ]
  go_wp2
  go_quiet (fail)
  rename_i nq
  clear e2 hl
  have HP := Lib.hid ((H.out.alloc (.cells #[.string c.key, .int .i64 c.q, .int .i64 c.v] 68)).drewN nq)
  have HCC := Lib.hid (show ((w.alloc (.cells #[.string c.key, .int .i64 c.q, .int .i64 c.v] 68)).drewN nq).heap[b]? = _ from blk_alloc HC.out _)
  have HB : Hid (Below w.heap.size w ((w.alloc (.cells #[.string c.key, .int .i64 c.q, .int .i64 c.v] 68)).drewN nq)) := below_drewN ((Below.refl _ _).alloc (Nat.le_refl _) _) nq
  generalize (w.alloc (.cells #[.string c.key, .int .i64 c.q, .int .i64 c.v] 68)).drewN nq = W1 at HP HCC HB ⊢
  clear c0 c1 c2 c3 c4 d0 d1 d2
  obtain ⟨c0, c1, c2, c3, c4⟩ := HP.out.cells
  have d3 := (blk_cell HCC.out 3).trans rfl
  have d4 := (blk_cell HCC.out 4).trans rfl
  have d5 := (blk_cell HCC.out 5).trans rfl
  have hl := fun n => ((HP.out.2.alloc (.cells #[.string e.key, .int .i64 e.q, .int .i64 e.v] 68)).drewN n).look1 hke
  have e2 := cell_alloc c2 (.cells #[.string e.key, .int .i64 e.q, .int .i64 e.v] 68)
  go_wp2
  rw [rounds_succ]
  go_wp2
  go_quiet (fail)
  clear e2 hl
  have HQ := Lib.hid ((HP.out.alloc (.cells #[.string e.key, .int .i64 e.q, .int .i64 e.v] 68)).drewN nq)
  have HCD := Lib.hid (show ((W1.alloc (.cells #[.string e.key, .int .i64 e.q, .int .i64 e.v] 68)).drewN nq).heap[b]? = _ from blk_alloc HCC.out _)
  have HBB : Hid (Below w.heap.size w ((W1.alloc (.cells #[.string e.key, .int .i64 e.q, .int .i64 e.v] 68)).drewN nq)) := below_drewN (HB.out.alloc HB.out.size _) nq
  generalize (W1.alloc (.cells #[.string e.key, .int .i64 e.q, .int .i64 e.v] 68)).drewN nq = W2 at HQ HCD HBB ⊢
  clear c0 c1 c2 c3 c4 d3 d4 d5
  obtain ⟨c0, c1, c2, c3, c4⟩ := HQ.out.cells
  have d0 := (blk_cell HCD.out 0).trans rfl
  have d1 := (blk_cell HCD.out 1).trans rfl
  have d2 := (blk_cell HCD.out 2).trans rfl
  have f4 := blk_frozen HQ.out.1 4
  go_wp2
  rw [rounds_succ]
  go_wp2
  · go_ret
    rename_i hov
    exact ApplyPost.over hov HBB.out
  · go_ret
    rename_i hov hcov hcv
    exact ApplyPost.cov (by show ¬ _ < (S.value + (c.v - val S.L c.key) + (e.v - val S.L e.key)); omega) hcov hcv HBB.out
  all_goals
    have HP2 := Lib.hid (HQ.out.value (S.value + (c.v - val S.L c.key) + (e.v - val S.L e.key)))
    have hbp : b ≠ p := by
      intro e
      have h1 := HCD.out
      rw [e, HQ.out.1] at h1
      simp [PS.row] at h1
    have HC2 := Lib.hid (blk_other (a := ⟨p, 4, none⟩) HCD.out hbp (.int .i64 (S.value + (c.v - val S.L c.key) + (e.v - val S.L e.key))))
    have HF2 := Lib.hid ((Fr.of_below (p := p) (m := m) HBB.out (Nat.le_refl _)).set (x := ⟨p, 4, none⟩) (Or.inl rfl) (.int .i64 (S.value + (c.v - val S.L c.key) + (e.v - val S.L e.key))))
    clear c0 c1 c2 c3 c4 d0 d1 d2 f4
    generalize W2.setCell ⟨p, 4, none⟩ (.int .i64 (S.value + (c.v - val S.L c.key) + (e.v - val S.L e.key))) = W3 at HP2 HC2 HF2 ⊢
    obtain ⟨c0, c1, c2, c3, c4⟩ := HP2.out.cells
    have d0 := (blk_cell HC2.out 0).trans rfl
    have d1 := (blk_cell HC2.out 1).trans rfl
    have d2 := (blk_cell HC2.out 2).trans rfl
    have n0 := (blk_cell (blk_new W3 (.cells #[.string c.key, .int .i64 c.q, .int .i64 c.v] 68)) 0).trans rfl
    have n1 := (blk_cell (blk_new W3 (.cells #[.string c.key, .int .i64 c.q, .int .i64 c.v] 68)) 1).trans rfl
    have n2 := (blk_cell (blk_new W3 (.cells #[.string c.key, .int .i64 c.q, .int .i64 c.v] 68)) 2).trans rfl
    have e2 := cell_alloc c2 (.cells #[.string c.key, .int .i64 c.q, .int .i64 c.v] 68)
    have HP3 := Lib.hid (HP2.out.alloc (.cells #[.string c.key, .int .i64 c.q, .int .i64 c.v] 68))
    have HF3 := Lib.hid (HF2.out.alloc (.cells #[.string c.key, .int .i64 c.q, .int .i64 c.v] 68))
    have HC3 := Lib.hid (blk_alloc HC2.out (.cells #[.string c.key, .int .i64 c.q, .int .i64 c.v] 68))
    refine wp_loop_rounds 3 ?_
    rw [rounds_succ]
    go_wp2
  all_goals
    clear c0 c1 c2 c3 c4 d0 d1 d2
    generalize W3.alloc (.cells #[.string c.key, .int .i64 c.q, .int .i64 c.v] 68) = W4 at n0 n1 n2 e2 HP3 HF3 HC3 ⊢
  all_goals first
    | (go_still_tail 6, (by kernel_rfl)
       go_wp2_with (at_delete; refine wpList_drop W4 rfl _ _ rfl m S.L c.key rfl rfl HP3.out.2 hk rfl ?_; intro W5 hM4 ht4)
       have HU : Hid (updL S.L c = del S.L c.key) := by have hq : c.q = 0 := by simp_all
                                                        simp [Hid, updL, hq]
       have hcl := apply_close HP3.out HF3.out hM4 ht4
       have HC5 := Lib.hid (turned_keep ht4 HC3.out (by have := HP2.out.2; intro e; subst e; obtain ⟨es, cl, hb, _⟩ := HP3.out.2; rw [HC3.out] at hb; cases hb))
       rw [← HU.out] at hcl
       have HCL := Lib.hid hcl
       clear hcl hM4 ht4 n0 n1 n2 e2 HU)
    | (go_still_tail 8, (by kernel_rfl)
       go_wp2_with (at_mapUpdate; refine wpList_store W4 rfl _ _ _ rfl m S.L c.key c.q c.v rfl rfl rfl HP3.out.2 hk (by omega) rfl ?_; intro W5 hM4 ht4)
       have HU : Hid (updL S.L c = put S.L ⟨c.key, c.q, c.v⟩) := by have hq : c.q ≠ 0 := by intro e; simp_all
                                                                    simp [Hid, updL, hq]
       have hcl := apply_close HP3.out HF3.out hM4 ht4
       have HC5 := Lib.hid (turned_keep ht4 HC3.out (by have := HP2.out.2; intro e; subst e; obtain ⟨es, cl, hb, _⟩ := HP3.out.2; rw [HC3.out] at hb; cases hb))
       rw [← HU.out] at hcl
       have HCL := Lib.hid hcl
       clear hcl hM4 ht4 n0 n1 n2 e2 HU)
  all_goals
    have HP5 := Lib.hid HCL.out.1
    have HF5 := Lib.hid HCL.out.2
    obtain ⟨c0, c1, c2, c3, c4⟩ := HP5.out.cells
    have d0 := (blk_cell HC5.out 3).trans rfl
    have d1 := (blk_cell HC5.out 4).trans rfl
    have d2 := (blk_cell HC5.out 5).trans rfl
    have n0 := (blk_cell (blk_new W5 (.cells #[.string e.key, .int .i64 e.q, .int .i64 e.v] 68)) 0).trans rfl
    have n1 := (blk_cell (blk_new W5 (.cells #[.string e.key, .int .i64 e.q, .int .i64 e.v] 68)) 1).trans rfl
    have n2 := (blk_cell (blk_new W5 (.cells #[.string e.key, .int .i64 e.q, .int .i64 e.v] 68)) 2).trans rfl
    have e2 := cell_alloc c2 (.cells #[.string e.key, .int .i64 e.q, .int .i64 e.v] 68)
    have HP6 := Lib.hid (HP5.out.alloc (.cells #[.string e.key, .int .i64 e.q, .int .i64 e.v] 68))
    have HF6 := Lib.hid (HF5.out.alloc (.cells #[.string e.key, .int .i64 e.q, .int .i64 e.v] 68))
    have heq : (e.q == 0) = false := by simp; omega
    rw [rounds_succ]
    go_wp2
  all_goals
    clear c0 c1 c2 c3 c4 d0 d1 d2
    generalize W5.alloc (.cells #[.string e.key, .int .i64 e.q, .int .i64 e.v] 68) = W6 at n0 n1 n2 e2 HP6 HF6 ⊢
    go_still_tail 8, (by kernel_rfl)
    have hLL := HLL.out
    go_wp2_with (at_mapUpdate; refine wpList_store W6 rfl _ _ _ rfl m (updL S.L c) e.key e.q e.v rfl rfl rfl HP6.out.2 hke (by omega) rfl ?_; intro W7 hM6 ht6)
    rw [rounds_succ]
    go_wp2
    go_ret
    have hcl := apply_close HP6.out HF6.out hM6 ht6
    have hq : e.q ≠ 0 := by omega
    refine ApplyPost.ok (by simp only [applyTot, List.foldl]; omega) ?_ ?_ hcl.2
    · simp only [applyTot, List.foldl]; rintro ⟨a, b⟩; first | omega | simp_all
    · simpa [updL, hq, applyTot] using hcl.1
end Go.Proofs.YtjjnljfphaimgaaDoor.C
