/- Small laws of my own on blocks that are known whole: a whole array or struct stored into one, loaded from one; an element of an array by value. -/
import Derived.Below
import Derived.Deep.MidRow
import Derived.RowKit3
import Derived.WalkKit
import Derived.Deep.Draws
import Derived.OwnWalk
namespace Go.Proofs.Ytnodnpenlplleaa.Own
open Go.RowKit

/-- Values written one behind another into an array, from a place on. -/
def splice (C : Array Value) (o : Nat) : List Value → Array Value
  | [] => C
  | v :: r => splice (C.setIfInBounds o v) (o + 1) r
theorem splice_size (l : List Value) : ∀ (C : Array Value) (o : Nat), (splice C o l).size = C.size := by
  induction l with
  | nil => intro C o; rfl
  | cons v r ih => intro C o; rw [splice, ih]; simp

theorem splice_toList (l : List Value) : ∀ (C : Array Value) (o : Nat), o + l.length ≤ C.size → (splice C o l).toList = C.toList.take o ++ l ++ C.toList.drop (o + l.length) := by
  induction l with
  | nil => intro C o _; simp [splice]
  | cons v r ih =>
    intro C o h
    simp only [List.length_cons] at h
    rw [splice, ih _ _ (by simp; omega)]
    simp only [Array.toList_setIfInBounds, List.length_cons]
    rw [List.drop_set_of_lt (by omega), List.take_set, List.take_succ_eq_append_getElem (by simp; omega), List.set_append_right _ _ (by simp; omega)]
    simp [show o - min o C.size = 0 from by omega, Nat.add_assoc, Nat.add_comm 1]
theorem splice_whole {C cells : Array Value} (h : cells.size = C.size) : splice C 0 cells.toList = cells := by
  apply Array.ext'
  rw [splice_toList _ _ _ (by simp; omega)]
  simp [h]

theorem heap_setCell_same {w : World} {g o : Nat} {C : Array Value} {t : TypeId} (h : w.heap[g]? = some (.cells C t (0, 0))) (v : Value) :
    (w.setCell ⟨g, o, none⟩ v).heap[g]? = some (.cells (C.setIfInBounds o v) t (0, 0)) := by
  simp [World.setCell, Array.getElem?_modify, h]

theorem heap_setCells {g : Nat} {t : TypeId} (l : List Value) : ∀ (w : World) (o : Nat) (C : Array Value), w.heap[g]? = some (.cells C t (0, 0)) →
    (w.setCells g o l).heap[g]? = some (.cells (splice C o l) t (0, 0)) ∧ (∀ j, j ≠ g → (w.setCells g o l).heap[j]? = w.heap[j]?) ∧ (w.setCells g o l).heap.size = w.heap.size ∧
      (w.setCells g o l).os = w.os ∧ (w.setCells g o l).tape = w.tape ∧ (w.setCells g o l).output = w.output ∧ (w.setCells g o l).drawn = w.drawn := by
  induction l with
  | nil => intro w o C h; exact ⟨h, fun _ _ => rfl, rfl, rfl, rfl, rfl, rfl⟩
  | cons v r ih =>
    intro w o C h
    obtain ⟨h1, h2, h3, h4, h5, h6, h7⟩ := ih (w.setCell ⟨g, o, none⟩ v) (o + 1) _ (heap_setCell_same h v)
    refine ⟨h1, fun j hj => (h2 j hj).trans (Below.heap_setCell w _ v j hj), h3.trans (by simp [World.setCell]), h4, h5, h6, h7⟩

/-- Only block g has turned. -/
structure OnlyBlk (g : Nat) (w w1 : World) : Prop where
  os : w1.os = w.os
  tape : w1.tape = w.tape
  output : w1.output = w.output
  size : w1.heap.size = w.heap.size
  other : ∀ j, j ≠ g → w1.heap[j]? = w.heap[j]?
theorem OnlyBlk.below {g B : Nat} {w w1 : World} (h : OnlyBlk g w w1) (hB : B ≤ g) : Below B w w1 := ⟨h.os, h.tape, h.output, by rw [h.size]; exact Nat.le_refl _, fun k hk => h.other k (by omega)⟩
theorem OnlyBlk.grown {g : Nat} {w w1 : World} (h : OnlyBlk g w w1) : w.grownBy w1 (some g) := ⟨h.os, h.tape, h.output, by rw [h.size]; exact Nat.le_refl _, fun i _ hi => h.other i (fun e => hi (by rw [e]))⟩

section
variable {P : Program}

theorem there_of_blk {w : World} {g : Nat} {C : Array Value} {t : TypeId} (hb : w.heap[g]? = some (.cells C t (0, 0))) {o n : Nat} (h : o + n ≤ C.size) : w.there g o n := fun j hj => by
  refine ⟨?_, by simp [World.frozen?, hb]⟩
  rw [cell_of_row w g (o + j) C t (0, 0) hb, Array.getElem?_eq_getElem (by omega)]
  rfl

theorem wp_store_blk {op : Oper} {a : Act} {w : World} {K : Act → World → Prop} {Q : Exit → Act → World → Prop} (ty : TypeId) (x y : Operand) (ho : op.op = .store ty x y)
    (g o : Nat) (C : Array Value) (t : TypeId) (cells : Array Value) (hx : a.eval x = .pointer (some ⟨g, o, none⟩)) (hy : a.eval y = .agg cells)
    (hb : w.heap[g]? = some (.cells C t (0, 0))) (hfit : o + cells.size ≤ C.size) (hi : (P.info? ty).map (·.size) = some cells.size) (h1 : cells.all (·.oneCell') = true)
    (h : ∀ w1, w1.heap[g]? = some (.cells (splice C o cells.toList) t (0, 0)) → OnlyBlk g w w1 → K (a.put op.dst undef) w1) : op.wp P a w K Q := by
  obtain ⟨e1, e2, e3, e4, e5, e6, _⟩ := heap_setCells (g := g) (t := t) cells.toList w o C hb
  exact wp_store_mid ty x y ho g o cells hx hy (there_of_blk hb hfit) hi h1 (h _ e1 ⟨e4, e5, e6, e3, e2⟩)

theorem wpList_store_blk {ops : Array Oper} {rest : List Oper} {op : Oper} {a : Act} {w : World} {Q : Exit → Act → World → Prop} (hgd : op.guard = none) (ty : TypeId) (x y : Operand) (ho : op.op = .store ty x y)
    (g o : Nat) (C : Array Value) (t : TypeId) (cells : Array Value) (hx : a.eval x = .pointer (some ⟨g, o, none⟩)) (hy : a.eval y = .agg cells)
    (hb : w.heap[g]? = some (.cells C t (0, 0))) (hfit : o + cells.size ≤ C.size) (hi : (P.info? ty).map (·.size) = some cells.size) (h1 : cells.all (·.oneCell') = true)
    (h : ∀ w1, w1.heap[g]? = some (.cells (splice C o cells.toList) t (0, 0)) → OnlyBlk g w w1 → wpList P ops Q rest (a.put op.dst undef) w1) : wpList P ops Q (op :: rest) a w :=
  wpList_plain hgd fun _ hK => wp_store_blk ty x y ho g o C t cells hx hy hb hfit hi h1 (fun w1 h1 h2 => hK _ _ (h w1 h1 h2))

/-- Guards: the next operation is a store of type ty; a load of type ty. -/
theorem gstore {ops : Array Oper} {rest : List Oper} {op : Oper} {a : Act} {w : World} {Q : Exit → Act → World → Prop} (ty : TypeId) {x y : Operand} (_ : op.op = .store ty x y) (h : wpList P ops Q (op :: rest) a w) : wpList P ops Q (op :: rest) a w := h
theorem gload {ops : Array Oper} {rest : List Oper} {op : Oper} {a : Act} {w : World} {Q : Exit → Act → World → Prop} (ty : TypeId) {x : Operand} (_ : op.op = .load ty x) (h : wpList P ops Q (op :: rest) a w) : wpList P ops Q (op :: rest) a w := h
theorem wpList_load_blk {ops : Array Oper} {rest : List Oper} {op : Oper} {a : Act} {w : World} {Q : Exit → Act → World → Prop} (hgd : op.guard = none) (ty : TypeId) (x : Operand) (ho : op.op = .load ty x)
    (g : Nat) (C : Array Value) (t : TypeId) (fr : Nat × Nat) (hx : a.eval x = .pointer (some ⟨g, 0, none⟩)) (hb : w.heap[g]? = some (.cells C t fr)) (d : TypeDesc)
    (hu : P.underlying ty = some d) (hd : d.isRow = true) (hi : (P.info? ty).map (·.size) = some C.size)
    (h : wpList P ops Q rest (a.put op.dst (.agg C)) w) : wpList P ops Q (op :: rest) a w := by
  have hr := World.rangeAt_of_block hb 0 C.size
  rw [Nat.zero_add, Array.extract_size] at hr
  refine wpList_load_mid hgd ty x ho g 0 hx C.toList d hr hu hd (by simpa using hi) ?_
  simpa using h

/-- An element of an array by value, its place a letter. -/
theorem run_index_arr {t e : TypeId} {n size : Nat} (ht : P.underlying t = some (.array n e)) (he : (P.info? e).map (·.size) = some size) (d : TypeDesc) (hu : P.underlying e = some d) (hd : d.isRow = true) (cs : Array Value) (i : Nat) (hi : i < n) (w : World) :
    (Instr.index t (.agg cs) (.int .i64 (i : Int))).run P w = .ok (.agg (cs.extract (i * size) (i * size + size))) w := by
  cases hq : P.info? e with
  | none => simp [hq] at he
  | some q =>
    have hs : q.size = size := by simpa [hq] using he
    have hagg : (isAgg e).run P w = .ok true w := by
      unfold isAgg
      rw [Sem.run_bind, run_underlying hu w]
      cases d <;> simp_all
    have h0 : (0 : Int) ≤ (i : Int) ∧ (i : Int) < (n : Int) := by omega
    simp [Instr.index, asIntOf, run_underlying ht, part, hagg, sizeOf, typeInfo, hq, hs, hi]
end
end Go.Proofs.Ytnodnpenlplleaa.Own
