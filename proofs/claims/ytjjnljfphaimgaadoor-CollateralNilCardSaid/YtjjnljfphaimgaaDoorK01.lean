/- Contracts and plain laws, without conditions beyond each theorem's own: Words for the collateral pool: what a pool in memory is (a block of five cells and a map), and what its map's operations do to the sorted list of holdings. -/
import Derived.WalkKit
import Derived.Maps.OwnSet
import Derived.Maps.Ext
import Derived.StringKeys
import Derived.Deep.QuietTactic
import Derived.BigQuiet
import Derived.Deep.RegionHeld3
import Derived.Handy
import Derived.Outline
import Derived.Maps.OwnOps
import Derived.Lib.Hide
import Derived.KernelRfl
import Derived.Test.YtjjnljfphaimgaaDoorProg
set_option linter.all false
/- Words for the collateral pool: what a pool in memory is (a block of five cells and a map), and what its map's operations do to the sorted list of holdings. -/
namespace Go.Proofs.YtjjnljfphaimgaaDoor.C
open Go Go.RowKit Go.Maps
open Go.WideElems (Fit rd rg pl rd_val elemAt)

/-- One holding of a pool: the asset, its quantity, its value. -/
structure Hold where
  key : ByteArray
  q : Int
  v : Int

def holdD (q v : Int) : DataW Unit := .agg [.lit (.int .i64 q), .lit (.int .i64 v)]
def holdV (q v : Int) : Value := .agg #[.int .i64 q, .int .i64 v]
def holdRL : List Value → Option (DataW Unit × List MemPlace)
  | [.int .i64 q, .int .i64 v] => some (holdD q v, [])
  | _ => none
def holdR : Value → Option (DataW Unit × List MemPlace)
  | .agg cs => holdRL cs.toList
  | _ => none
theorem holdR_mk (q v : Int) : holdR (holdV q v) = some (holdD q v, []) := rfl
theorem holdR_inv {x : Value} {q v : Int} {ps : List MemPlace} (h : holdR x = some (holdD q v, ps)) : x = holdV q v := by
  unfold holdR at h
  split at h
  · rename_i cs
    unfold holdRL at h
    split at h
    · rename_i a b e
      obtain rfl : cs = #[.int .i64 a, .int .i64 b] := Array.ext' e
      simp only [Option.some.injEq, Prod.mk.injEq, holdD, DataW.agg.injEq, List.cons.injEq, DataW.lit.injEq, Lit.int.injEq, true_and, and_true] at h
      obtain ⟨⟨rfl, rfl⟩, _⟩ := h
      rfl
    · cases h
  · cases h

def litK (k : ByteArray) : Lit := .string k.data.toList
def ent (h : Hold) : Lit × DataW Unit := (litK h.key, holdD h.q h.v)
def mapD (L : List Hold) : DataW Unit := .map (L.map ent)

theorem litK_inj {a b : ByteArray} (h : litK a = litK b) : a = b := by
  unfold litK at h
  simp only [Lit.string.injEq] at h
  cases a with | mk a => cases b with | mk b => simp only at h; congr 1; exact Array.ext' h
theorem litK_same (a b : ByteArray) : (litK a).sameKey (litK b) = decide (a = b) := by
  by_cases h : a = b
  · subst h; simp [litK, Lit.sameKey]
  · have : litK a ≠ litK b := fun e => h (litK_inj e)
    simp only [litK, Lit.sameKey]
    simp only [h, decide_false]
    simp only [litK, ne_eq, Lit.string.injEq] at this
    simpa using this

/-- The keys' order. -/
def kbefore (a b : ByteArray) : Bool := bytesBefore a.data.toList b.data.toList

def find (L : List Hold) (k : ByteArray) : Option Hold := L.find? (fun h => decide (h.key = k))
def has (L : List Hold) (k : ByteArray) : Bool := L.any (fun h => decide (h.key = k))
def qty (L : List Hold) (k : ByteArray) : Int := ((find L k).map (·.q)).getD 0
def val (L : List Hold) (k : ByteArray) : Int := ((find L k).map (·.v)).getD 0
def ins (x : Hold) : List Hold → List Hold
  | [] => [x]
  | y :: r => if kbefore x.key y.key then x :: y :: r else y :: ins x r
def del (L : List Hold) (k : ByteArray) : List Hold := L.filter (fun h => !decide (h.key = k))
def put (L : List Hold) (x : Hold) : List Hold := ins x (del L x.key)

theorem mapD_has (L : List Hold) (k : ByteArray) : Maps.has (mapD L) (litK k) = has L k := by
  simp only [mapD, Maps.has_eq, has, List.any_map]
  congr 1
  funext h
  simp [ent, litK_same]
theorem mapD_at (L : List Hold) (k : ByteArray) : (mapD L).atKey (litK k) (holdD 0 0) = holdD (qty L k) (val L k) := by
  simp only [mapD, DataW.atKey, qty, val, find]
  rw [List.find?_map]
  have e : ((fun p : Lit × DataW Unit => p.1.sameKey (litK k)) ∘ ent) = fun h : Hold => decide (h.key = k) := by
    funext h; simp [ent, litK_same]
  rw [e]
  cases L.find? (fun h => decide (h.key = k)) <;> rfl
theorem mapD_size (L : List Hold) : Maps.size (mapD L) = L.length := by simp [mapD, Maps.size]
theorem mapD_del (L : List Hold) (k : ByteArray) : (mapD L).del (litK k) = mapD (del L k) := by
  simp only [mapD, DataW.del, del, List.filter_map]
  congr 3
  funext h
  simp [ent, litK_same]
theorem ins_map (x : Hold) : ∀ L : List Hold, DataW.insert (ent x) (L.map ent) = (ins x L).map ent
  | [] => rfl
  | y :: r => by
    simp only [List.map_cons, DataW.insert, ins]
    have e : (ent x).1.before (ent y).1 = kbefore x.key y.key := rfl
    rw [e]
    split
    · rfl
    · rw [List.map_cons, ins_map x r]
theorem mapD_put (L : List Hold) (k : ByteArray) (q v : Int) : (mapD L).put (litK k) (holdD q v) = mapD (put L ⟨k, q, v⟩) := by
  have e := mapD_del L k
  simp only [mapD, DataW.del, DataW.map.injEq] at e
  simp only [mapD, DataW.put, put]
  rw [e]
  exact congrArg _ (ins_map ⟨k, q, v⟩ _)

theorem klaw : Keyed Tryd.prog 9 := string_keyed Tryd.underlying9
theorem zeroHold (w : World) : (zeroValue 55).run Tryd.prog w = .ok (holdV 0 0) w := by kernel_rfl
theorem keyK {k : ByteArray} (h : k.size ≤ maxLen) : keyOf Tryd.prog 9 (.string k) = some (litK k) := WideMaps.keyOf_string_mk Tryd.underlying9 h

/-- Block m is a map that holds just L. -/
def MapIs (w : World) (m : Nat) (L : List Hold) : Prop := w.ownsMap Tryd.prog 9 holdR m L.length (mapD L)

theorem MapIs.lt {w : World} {m : Nat} {L : List Hold} (h : MapIs w m L) : m < w.heap.size := World.ownsMap.lt h
theorem MapIs.kept {w w' : World} {m : Nat} {L : List Hold} (h : MapIs w m L) (he : w'.heap[m]? = w.heap[m]?) : MapIs w' m L := by
  obtain ⟨es, clock, hb, r⟩ := h
  exact ⟨es, clock, he.trans hb, r⟩
theorem MapIs.shrink {w : World} {m n : Nat} {L : List Hold} (h : w.ownsMap Tryd.prog 9 holdR m n (mapD L)) : MapIs w m L := by
  obtain ⟨es, clock, hb, F, hs, hD⟩ := h
  refine ⟨es, clock, hb, F, ?_, hD⟩
  have e := congrArg Maps.size hD
  rw [mapD_size] at e
  simp only [Maps.size, length_sorted] at e
  rw [e]; simp

theorem MapIs.look {w : World} {m : Nat} {L : List Hold} (h : MapIs w m L) {k : ByteArray} (hk : k.size ≤ maxLen) :
    (Instr.lookup 59 (.map (some m)) (.string k) true).run Tryd.prog w = .ok (.tuple #[.agg #[.int .i64 (qty L k), .int .i64 (val L k)], .bool (has L k)]) w := by
  obtain ⟨v, ps, hrun, hv⟩ := World.ownsMap.look_ok h klaw Tryd.underlying59 (zeroHold w) (holdR_mk 0 0) (keyK hk)
  rw [mapD_at] at hv
  rw [holdR_inv hv, mapD_has] at hrun
  exact hrun
theorem MapIs.look1 {w : World} {m : Nat} {L : List Hold} (h : MapIs w m L) {k : ByteArray} (hk : k.size ≤ maxLen) :
    (Instr.lookup 59 (.map (some m)) (.string k) false).run Tryd.prog w = .ok (.agg #[.int .i64 (qty L k), .int .i64 (val L k)]) w := by
  obtain ⟨es, clock, hb, F, _, hD⟩ := h
  have hat' := mapD_at L k
  rw [hD] at hat'
  rcases Maps.fit_look false klaw Tryd.underlying59 (zeroHold w) hb F (keyK hk) with ⟨hrun, _, hat⟩ | ⟨e0, y, _, _, hrun, hRv, hat, _⟩
  · rw [hat] at hat'
    have e : holdR (holdV 0 0) = some (holdD (qty L k) (val L k), []) := by rw [← hat', holdR_mk]
    rw [holdR_inv e] at hrun
    exact hrun
  · rw [hat] at hat'
    have e : holdR e0.val = some (holdD (qty L k) (val L k), y.2) := by rw [hRv, ← hat']
    rw [holdR_inv e] at hrun
    exact hrun
theorem MapIs.len {w : World} {m : Nat} {L : List Hold} (h : MapIs w m L) (ty : TypeId) :
    (Builtin.len_ #[59] ty #[.map (some m)]).run Tryd.prog w = .ok (.int .i64 L.length) w := by
  have := World.ownsMap.len h Tryd.underlying59 ty
  rw [mapD_size] at this
  exact this
theorem MapIs.drop {w : World} {m : Nat} {L : List Hold} (h : MapIs w m L) {k : ByteArray} (hk : k.size ≤ maxLen) (ty : TypeId) :
    ∃ w', (Builtin.delete_ #[59, 9] ty #[.map (some m), .string k]).run Tryd.prog w = .ok (.tuple #[]) w' ∧ MapIs w' m (del L k) ∧ w.mapTurned w' m := by
  obtain ⟨w', hrun, ho, ht⟩ := World.ownsMap.drop h klaw Tryd.underlying59 (keyK hk) ty
  rw [mapD_del] at ho
  exact ⟨w', hrun, MapIs.shrink ho, ht⟩
theorem MapIs.store {w : World} {m : Nat} {L : List Hold} (h : MapIs w m L) (hn : L.length < maxLen) {k : ByteArray} (hk : k.size ≤ maxLen) (q v : Int) :
    ∃ w', (Instr.mapUpdate 59 (.map (some m)) (.string k) (.agg #[.int .i64 q, .int .i64 v])).run Tryd.prog w = .ok () w' ∧ MapIs w' m (put L ⟨k, q, v⟩) ∧ w.mapTurned w' m := by
  obtain ⟨w', hrun, ho, ht⟩ := World.ownsMap.store h klaw Tryd.underlying59 hn (keyK hk) (holdR_mk q v)
  rw [mapD_put] at ho
  exact ⟨w', hrun, MapIs.shrink ho, ht⟩
theorem MapIs.made (w : World) : MapIs (w.alloc (.map #[] 0)) w.heap.size [] := World.ownsMap_made _ _ _ _

theorem MapIs.alloc {w : World} {m : Nat} {L : List Hold} (h : MapIs w m L) (o : Obj) : MapIs (w.alloc o) m L := h.kept (Below.heap_alloc w o m h.lt)
theorem MapIs.drewN {w : World} {m : Nat} {L : List Hold} (h : MapIs w m L) (n : Nat) : MapIs (w.drewN n) m L := h.kept rfl
theorem MapIs.drew {w : World} {m : Nat} {L : List Hold} (h : MapIs w m L) : MapIs w.drew m L := h.kept rfl
theorem MapIs.setCell {w : World} {m : Nat} {L : List Hold} (h : MapIs w m L) {a : Addr} (ha : m ≠ a.block) (v : Value) : MapIs (w.setCell a v) m L := h.kept (Below.heap_setCell w a v m ha)
/-- 'delete(m, k)' at the operation. -/
theorem wpList_drop (w0 : World) {w : World} {ops : Array Oper} {rest : List Oper} {o : Oper} {a : Act} {Q : Exit → Act → World → Prop}
    (hg : o.guard = none) (x y : Operand) (hop : o.op = Op.call { callee := Callee.builtin Builtin.delete, args := #[x, y], argTypes := #[59, 9] }) (m : Nat) (L : List Hold) (k : ByteArray)
    (hm : a.eval x = .map (some m)) (hy : a.eval y = .string k) (h : MapIs w0 m L) (hk : k.size ≤ maxLen) (h0 : w.heap = w0.heap)
    (hK : ∀ w', MapIs w' m (del L k) → w.mapTurned w' m → wpList Tryd.prog ops Q rest (a.put o.dst (.tuple #[])) w') : wpList Tryd.prog ops Q (o :: rest) a w := by
  have h' : MapIs w m L := h.kept (by rw [h0])
  refine wpList_delete_own (H := Unit) w hg x y 59 9 hop 55 klaw Tryd.underlying59 holdR m _ _ hm h' _ _ hy (keyK hk) fun w' r1 r2 => ?_
  rw [mapD_del] at r1
  exact hK w' (MapIs.shrink r1) r2
/-- 'm[k] = holding' at the operation. -/
theorem wpList_store (w0 : World) {w : World} {ops : Array Oper} {rest : List Oper} {o : Oper} {a : Act} {Q : Exit → Act → World → Prop}
    (hg : o.guard = none) (x y z : Operand) (hop : o.op = Op.mapUpdate 59 x y z) (m : Nat) (L : List Hold) (k : ByteArray) (q v : Int)
    (hm : a.eval x = .map (some m)) (hy : a.eval y = .string k) (hz : a.eval z = .agg #[.int .i64 q, .int .i64 v]) (h : MapIs w0 m L) (hk : k.size ≤ maxLen) (hn : L.length < maxLen) (h0 : w.heap = w0.heap)
    (hK : ∀ w', MapIs w' m (put L ⟨k, q, v⟩) → w.mapTurned w' m → wpList Tryd.prog ops Q rest (a.put o.dst undef) w') : wpList Tryd.prog ops Q (o :: rest) a w := by
  have h' : MapIs w m L := h.kept (by rw [h0])
  refine wpList_mapUpdate_in (H := Unit) w hg x y z 59 hop 9 55 klaw Tryd.underlying59 holdR m _ _ hm h' hn _ _ _ hy hz (keyK hk) _ _ (holdR_mk q v) fun w' r1 r2 => ?_
  rw [mapD_put] at r1
  exact hK w' (MapIs.shrink r1) r2
/-- A pool's state. -/
structure PS where
  owner : ByteArray
  vl : Value
  L : List Hold
  req : Int
  value : Int
def PS.row (S : PS) (m : Nat) : Array Value := #[.string S.owner, S.vl, .map (some m), .int .i64 S.req, .int .i64 S.value]
/-- Block p is a pool in state S, its map lies in block m. -/
def PoolAt (w : World) (p m : Nat) (S : PS) : Prop := w.heap[p]? = some (.cells (S.row m) 61 (0, 0)) ∧ MapIs w m S.L

theorem field0 (a b : Value) (w : World) : (Instr.field 55 (.agg #[a, b]) 0).run Tryd.prog w = .ok a w := by kernel_rfl
theorem field1 (a b : Value) (w : World) : (Instr.field 55 (.agg #[a, b]) 1).run Tryd.prog w = .ok b w := by kernel_rfl
theorem ret_int {k : IntKind} {a b : Int} (h : a = b) : Ending.returned (.int k a) = .returned (.int k b) := by rw [h]
theorem cell_alloc {w : World} {a : Addr} {v : Value} (h : w.cell? a = some v) (o : Obj) : (w.alloc o).cell? a = some v := (World.cell?_alloc_lt _ _ _ (World.block_lt_of_cell? w a h)).trans h
theorem cell_drew {w : World} {a : Addr} {v : Value} (h : w.cell? a = some v) : w.drew.cell? a = some v := h
theorem cell_keep {B : Nat} {w w' : World} {a : Addr} {v : Value} (hb : Below B w w') (h : w.cell? a = some v) (hB : w.heap.size ≤ B) : w'.cell? a = some v := (hb.cell (Nat.lt_of_lt_of_le (World.block_lt_of_cell? w a h) hB)).trans h
theorem blk_cell {w : World} {b : Nat} {cs : Array Value} {t : TypeId} {z : Nat × Nat} (h : w.heap[b]? = some (.cells cs t z)) (i : Nat) : w.cell? ⟨b, i, none⟩ = cs[i]? := by simp [World.cell?, h]
theorem blk_frozen {w : World} {b : Nat} {cs : Array Value} {t : TypeId} (h : w.heap[b]? = some (.cells cs t (0, 0))) (i : Nat) : w.frozen? ⟨b, i, none⟩ = false := by simp [World.frozen?, h]
theorem blk_lt {w : World} {b : Nat} {o : Obj} (h : w.heap[b]? = some o) : b < w.heap.size := by
  rcases Nat.lt_or_ge b w.heap.size with h' | h'
  · exact h'
  · rw [Array.getElem?_eq_none h'] at h; cases h
theorem blk_new (w : World) (o : Obj) : (w.alloc o).heap[w.heap.size]? = some o := by
  show (w.heap.push o)[w.heap.size]? = _
  simp
theorem blk_alloc {w : World} {b : Nat} {o : Obj} (h : w.heap[b]? = some o) (o' : Obj) : (w.alloc o').heap[b]? = some o := (Below.heap_alloc w o' b (blk_lt h)).trans h
theorem blk_drew {w : World} {b : Nat} {o : Obj} (h : w.heap[b]? = some o) : w.drew.heap[b]? = some o := h
theorem blk_keep {B : Nat} {w w' : World} {b : Nat} {o : Obj} (hb : Below B w w') (h : w.heap[b]? = some o) (hB : w.heap.size ≤ B) : w'.heap[b]? = some o := (hb.block b (Nat.lt_of_lt_of_le (blk_lt h) hB)).trans h
theorem blk_set {w : World} {b : Nat} {cs : Array Value} {t : TypeId} {z : Nat × Nat} (h : w.heap[b]? = some (.cells cs t z)) (i : Nat) (v : Value) : (w.setCell ⟨b, i, none⟩ v).heap[b]? = some (.cells (cs.setIfInBounds i v) t z) := by
  simp [World.setCell, Array.getElem?_modify, h]
theorem blk_other {w : World} {b : Nat} {o : Obj} (h : w.heap[b]? = some o) {a : Addr} (hne : b ≠ a.block) (v : Value) : (w.setCell a v).heap[b]? = some o := (Below.heap_setCell w a v b hne).trans h
theorem turned_keep {w w' : World} {m b : Nat} {o : Obj} (ht : w.drew.mapTurned w' m) (h : w.heap[b]? = some o) (hne : b ≠ m) : w'.heap[b]? = some o :=
  (ht.grown.block b (blk_lt h) (by simp; omega)).trans h
theorem bstep {B : Nat} {a w w1 : World} (h : Below B a w) (h' : Below w.heap.size w w1) (hB : B ≤ w.heap.size) : Below B a w1 := h.trans (h'.mono hB)
theorem bcell {W w1 : World} {B : Nat} (hb : Below B W w1) : (∀ b o, b < B → w1.cell? ⟨b, o, none⟩ = W.cell? ⟨b, o, none⟩) ∧ (∀ b o, b < B → w1.frozen? ⟨b, o, none⟩ = W.frozen? ⟨b, o, none⟩) :=
  ⟨fun b o h => hb.cell (p := ⟨b, o, none⟩) h, fun b o h => hb.frozen (p := ⟨b, o, none⟩) h⟩
end Go.Proofs.YtjjnljfphaimgaaDoor.C
