/- Layer 9: a ledger in memory: the struct's block, the map's block, and the rows that they stand for. -/
import Derived.Test.YtnodnpenlplleaaDebtM
import Derived.Test.YtnodnpenlplleaaShelfL
import Derived.Test.YtnodnpenlplleaaIter
import Derived.Maps.Own
import Derived.Maps.OwnSet
import Derived.Maps.OwnIn
import Derived.Maps.Ext
import Derived.Maps.RangeWalk
namespace Go.Proofs.Ytnodnpenlplleaa.Own
open Go.RowKit Go.Proofs.YtnodnpenlplleaaW.PrintWords Go.Proofs.YtnodnpenlplleaaW.PrintLast Go.Proofs.YtnodnpenlplleaaW.PrintMore
open Go.Maps (Keyed)
set_option linter.unusedVariables false
set_option linter.unusedSimpArgs false

/-- Go's order of strings. -/
def klt (a b : ByteArray) : Prop := a.data.toList < b.data.toList
instance (a b : ByteArray) : Decidable (klt a b) := inferInstanceAs (Decidable (a.data.toList < b.data.toList))
theorem klt_irrefl (a : ByteArray) : ¬ klt a a := List.lt_irrefl _
theorem klt_trans {a b c : ByteArray} (h : klt a b) (h' : klt b c) : klt a c := List.lt_trans h h'
theorem bytes_ext {a b : ByteArray} (h : a.data.toList = b.data.toList) : a = b := by cases a; cases b; simpa using h
theorem klt_total {a b : ByteArray} (h : a ≠ b) (h' : ¬ klt a b) : klt b a := by
  have h1 : b.data.toList ≤ a.data.toList := List.not_lt.1 h'
  rcases List.le_iff_lt_or_eq.1 h1 with h2 | h2
  · exact h2
  · exact absurd (bytes_ext h2).symm h
theorem sorted_unique : ∀ {a b : List ByteArray}, a.Pairwise klt → b.Pairwise klt → (∀ x, x ∈ a ↔ x ∈ b) → a = b
  | [], [], _, _, _ => rfl
  | [], y :: b, _, _, h => absurd ((h y).2 (by simp)) (by simp)
  | x :: a, [], _, _, h => absurd ((h x).1 (by simp)) (by simp)
  | x :: a, y :: b, ha, hb, h => by
    obtain ⟨h1, h2⟩ := List.pairwise_cons.1 ha
    obtain ⟨g1, g2⟩ := List.pairwise_cons.1 hb
    have hxy : x = y := by
      rcases List.mem_cons.1 ((h x).1 (by simp)) with e | hx
      · exact e
      · rcases List.mem_cons.1 ((h y).2 (by simp)) with e | hy
        · exact e.symm
        · exact absurd (klt_trans (h1 y hy) (g1 x hx)) (klt_irrefl x)
    subst hxy
    rw [sorted_unique h2 g2 (fun z => ?_)]
    constructor
    · intro hz
      rcases List.mem_cons.1 ((h z).1 (by simp [hz])) with e | hz'
      · subst e; exact absurd (h1 z hz) (klt_irrefl z)
      · exact hz'
    · intro hz
      rcases List.mem_cons.1 ((h z).2 (by simp [hz])) with e | hz'
      · subst e; exact absurd (g1 z hz) (klt_irrefl z)
      · exact hz'

/-- Who owes what, in the order of keys. -/
abbrev Rws := List (ByteArray × Debt)
def keysR (rows : Rws) : List ByteArray := rows.map (·.1)
def sortedR (rows : Rws) : Prop := (keysR rows).Pairwise klt
def lookR : Rws → ByteArray → Option Debt
  | [], _ => none
  | r :: rs, key => if r.1 = key then some r.2 else lookR rs key
def insertR (key : ByteArray) (d : Debt) : Rws → Rws
  | [] => [(key, d)]
  | r :: rs => if r.1 = key then (key, d) :: rs else if klt key r.1 then (key, d) :: r :: rs else r :: insertR key d rs
theorem lookR_none {key : ByteArray} : ∀ {rows : Rws}, lookR rows key = none ↔ key ∉ keysR rows
  | [] => by simp [lookR, keysR]
  | r :: rs => by
    have ih := lookR_none (key := key) (rows := rs)
    simp only [lookR, keysR, List.map_cons, List.mem_cons, not_or] at *
    by_cases h : r.1 = key
    · simp [h]
    · rw [if_neg h, ih]
      exact ⟨fun h2 => ⟨fun e => h e.symm, h2⟩, fun h2 => h2.2⟩
theorem lookR_mem {key : ByteArray} {d : Debt} : ∀ {rows : Rws}, lookR rows key = some d → (key, d) ∈ rows
  | [], h => by simp [lookR] at h
  | r :: rs, h => by
    unfold lookR at h
    by_cases e : r.1 = key
    · rw [if_pos e] at h
      injection h with h
      subst e; subst h
      simp
    · rw [if_neg e] at h
      exact List.mem_cons_of_mem _ (lookR_mem h)
theorem lookR_of_mem {key : ByteArray} {d : Debt} : ∀ {rows : Rws}, sortedR rows → (key, d) ∈ rows → lookR rows key = some d
  | [], _, h => by simp at h
  | r :: rs, hs, h => by
    unfold sortedR keysR at hs
    rw [List.map_cons, List.pairwise_cons] at hs
    unfold lookR
    rcases List.mem_cons.1 h with e | h'
    · rw [← e, if_pos rfl]
    · have := hs.1 key (List.mem_map.2 ⟨_, h', rfl⟩)
      rw [if_neg (fun e => by rw [e] at this; exact klt_irrefl _ this)]
      exact lookR_of_mem hs.2 h'
theorem lookR_insert (key k : ByteArray) (d : Debt) : ∀ (rows : Rws), sortedR rows → lookR (insertR key d rows) k = if key = k then some d else lookR rows k
  | [], _ => by simp [insertR, lookR]
  | r :: rs, hs => by
    unfold sortedR keysR at hs
    rw [List.map_cons, List.pairwise_cons] at hs
    have ih := lookR_insert key k d rs hs.2
    unfold insertR
    by_cases h1 : r.1 = key
    · rw [if_pos h1]
      by_cases h2 : key = k
      · simp [lookR, h2]
      · have : r.1 ≠ k := fun e => h2 (h1.symm.trans e)
        simp [lookR, h2, this]
    · rw [if_neg h1]
      by_cases h3 : klt key r.1
      · rw [if_pos h3]
        by_cases h2 : key = k
        · simp [lookR, h2]
        · simp [lookR, h2]
      · rw [if_neg h3]
        by_cases h2 : key = k
        · subst h2
          simp only [lookR, if_neg h1, ih, if_pos]
        · simp only [lookR, ih, if_neg h2]
theorem keys_insert (key k : ByteArray) (d : Debt) : ∀ (rows : Rws), k ∈ keysR (insertR key d rows) ↔ k = key ∨ k ∈ keysR rows
  | [] => by simp [insertR, keysR]
  | r :: rs => by
    have ih := keys_insert key k d rs
    simp only [keysR, List.map_cons, List.mem_cons] at *
    unfold insertR
    split
    · rename_i h
      simp [h]
    · split
      · simp
      · simp only [List.map_cons, List.mem_cons, ih]
        constructor
        · rintro (h | h | h)
          · exact .inr (.inl h)
          · exact .inl h
          · exact .inr (.inr h)
        · rintro (h | h | h)
          · exact .inr (.inl h)
          · exact .inl h
          · exact .inr (.inr h)
theorem sorted_insert (key : ByteArray) (d : Debt) : ∀ (rows : Rws), sortedR rows → sortedR (insertR key d rows)
  | [], _ => by simp [insertR, sortedR, keysR]
  | r :: rs, hs => by
    have hs0 := hs
    unfold sortedR keysR at hs
    rw [List.map_cons, List.pairwise_cons] at hs
    have ih := sorted_insert key d rs hs.2
    unfold insertR
    by_cases h1 : r.1 = key
    · rw [if_pos h1]
      unfold sortedR keysR
      rw [List.map_cons, List.pairwise_cons, ← h1]
      exact hs
    · rw [if_neg h1]
      by_cases h3 : klt key r.1
      · rw [if_pos h3]
        unfold sortedR keysR
        rw [List.map_cons, List.pairwise_cons]
        refine ⟨fun x hx => ?_, by rw [List.map_cons, List.pairwise_cons]; exact hs⟩
        rw [List.map_cons] at hx
        rcases List.mem_cons.1 hx with rfl | hx
        · exact h3
        · exact klt_trans h3 (hs.1 x hx)
      · rw [if_neg h3]
        unfold sortedR keysR
        rw [List.map_cons, List.pairwise_cons]
        refine ⟨fun x hx => ?_, ih⟩
        rcases (keys_insert key x d rs).1 hx with rfl | hx
        · exact klt_total (fun e => h1 e.symm) h3
        · exact hs.1 x hx

abbrev lk (key : ByteArray) : Lit := .string key.data.toList
theorem lk_inj {a b : ByteArray} (h : lk a = lk b) : a = b := bytes_ext (by simpa [lk] using h)
abbrev rawR : Value → Option (DataW Value × List MemPlace) := fun v => some (.held v, [])
theorem kStr : Keyed Try.prog 9 := Maps.string_keyed Try.underlying9

theorem Nums.move {w w' : World} {v : Value} {l : List Int} (h : Nums w v l) (hm : ∀ (k : Nat) (cur : Array Value), w.heap[k]? = some (.cells cur 3 (0, 0)) → w'.heap[k]? = w.heap[k]?) : Nums w' v l := by
  obtain ⟨A, c, e, h1, h2, h3⟩ := h
  refine ⟨A, c, e, h1, ⟨h2.1, h2.2.1, fun hp => ?_⟩, fun ad eA => ?_⟩
  · obtain ⟨ad, eA, hc⟩ := h2.2.2 hp
    obtain ⟨cur, hcur⟩ := h3 ad eA
    refine ⟨ad, eA, fun j p hj => ?_⟩
    obtain ⟨cs, k1, k2, k3⟩ := hc j p hj
    exact ⟨cs, k1, k2, fun i u hu => (World.cell?_of_block (w := w) (w' := w') (a := ad.add (j * (Kd.int .i64).sz + i)) (by rw [show (ad.add (j * (Kd.int .i64).sz + i)).block = ad.block from add_block _ _]; exact hm ad.block cur hcur)).trans (k3 i u hu)⟩
  · obtain ⟨cur, hcur⟩ := h3 ad eA
    exact ⟨cur, (hm _ cur hcur).trans hcur⟩
theorem DebtV.move {w w' : World} {v : Value} {d : Debt} (h : DebtV w v d) (hm : ∀ (k : Nat) (cur : Array Value), w.heap[k]? = some (.cells cur 3 (0, 0)) → w'.heap[k]? = w.heap[k]?) : DebtV w' v d := by
  cases d with
  | lev n => exact h
  | win g l =>
    obtain ⟨s, e, hn⟩ := h
    exact ⟨s, e, hn.move hm⟩

/-- The map's reading is what the rows say. -/
def LedD (w : World) (D : DataW Value) (rows : Rws) : Prop :=
  ∀ key, Maps.has D (lk key) = (lookR rows key).isSome ∧ ∃ v, D.atKey (lk key) (.held .nilIface) = .held v ∧ (match lookR rows key with | some d => DebtV w v d | none => v = .nilIface)
theorem LedD.move {w w' : World} {D : DataW Value} {rows : Rws} (h : LedD w D rows) (hm : ∀ (k : Nat) (cur : Array Value), w.heap[k]? = some (.cells cur 3 (0, 0)) → w'.heap[k]? = w.heap[k]?) : LedD w' D rows := fun key => by
  obtain ⟨h1, v, h2, h3⟩ := h key
  refine ⟨h1, v, h2, ?_⟩
  cases e : lookR rows key with
  | none => simp only [e] at h3 ⊢; exact h3
  | some d => simp only [e] at h3 ⊢; exact DebtV.move h3 hm

def ledC (p : Pol) (tick : Int) (mb : Nat) : Array Value := #[.int .i64 p.kind, .int .i64 p.cap, .int .i64 p.num, .int .i64 p.den, .int .i64 p.width, .int .i64 p.count, .int .i64 p.keys, .int .i64 p.slots, .int .i64 p.every, .int .i64 p.seg, .int .i64 tick, .map (some mb)]
/-- Blocks sb, mb of w are a ledger with these rows. -/
structure Led (w : World) (sb mb : Nat) (p : Pol) (tick : Int) (rows : Rws) : Prop where
  blk : w.heap[sb]? = some (.cells (ledC p tick mb) 80 (0, 0))
  map : ∃ D, w.ownsMap Try.prog 9 rawR mb rows.length D ∧ LedD w D rows
theorem range_pre {w : World} {g : Nat} {C : Array Value} {t : TypeId} {fr : Nat × Nat} (hb : w.heap[g]? = some (.cells C t fr)) (C' : Array Value) (hC : C.extract 0 C'.size = C') : w.rangeAt g 0 C'.toList := by
  have := World.rangeAt_of_block hb 0 C'.size
  rw [Nat.zero_add, hC] at this
  exact this
/-- The first cells of a block, read as a whole. -/
theorem yields_pre {P : Program} {ops : Array Oper} {S : World → Prop} {op : Oper} {a : Act} (hw : Region.wanted op (yielded ops a.tmps) = true) (ty : TypeId) (x : Operand) (ho : op.op = .load ty x)
    (g : Nat) {C : Array Value} {t : TypeId} {fr : Nat × Nat} (C' : Array Value) (hx : a.eval x = .pointer (some ⟨g, 0, none⟩)) (hS : ∀ w, S w → w.heap[g]? = some (.cells C t fr)) (hC : C.extract 0 C'.size = C') {d : TypeDesc}
    (hu : P.underlying ty = some d) (hd : d.isRow = true) (hi : (P.info? ty).map (·.size) = some C'.size) : YieldsIf P ops S op (.agg C') a := by
  have := yieldsIf_load_mid (P := P) (ops := ops) (S := S) hw ty x ho g 0 hx C'.toList d (fun w hw' => range_pre (hS w hw') C' hC) hu hd (by simpa using hi)
  simpa using this
theorem wpList_load_pre {P : Program} {ops : Array Oper} {rest : List Oper} {op : Oper} {a : Act} {w : World} {Q : Exit → Act → World → Prop} (hgd : op.guard = none) (ty : TypeId) (x : Operand) (ho : op.op = .load ty x)
    (g : Nat) {C : Array Value} {t : TypeId} {fr : Nat × Nat} (C' : Array Value) (hx : a.eval x = .pointer (some ⟨g, 0, none⟩)) (hb : w.heap[g]? = some (.cells C t fr)) (hC : C.extract 0 C'.size = C') {d : TypeDesc}
    (hu : P.underlying ty = some d) (hd : d.isRow = true) (hi : (P.info? ty).map (·.size) = some C'.size)
    (h : wpList P ops Q rest (a.put op.dst (.agg C')) w) : wpList P ops Q (op :: rest) a w := by
  refine wpList_load_mid hgd ty x ho g 0 hx C'.toList d (range_pre hb C' hC) hu hd (by simpa using hi) ?_
  simpa using h
/-- What rows may be. -/
structure OkR (p : Pol) (tick : Int) (rows : Rws) : Prop where
  pol : p.ok
  tick0 : 0 ≤ tick
  tick1 : tick ≤ 1099511627776
  sorted : sortedR rows
  debts : ∀ r ∈ rows, r.2.ok p ∧ r.2.owes = true
  keys : ∀ r ∈ rows, 1 ≤ r.1.size ∧ r.1.size ≤ 64
theorem Led.lt_sb {w : World} {sb mb : Nat} {p : Pol} {tick : Int} {rows : Rws} (h : Led w sb mb p tick rows) : sb < w.heap.size := (Array.getElem?_eq_some_iff.1 h.blk).1
theorem Led.lt_mb {w : World} {sb mb : Nat} {p : Pol} {tick : Int} {rows : Rws} (h : Led w sb mb p tick rows) : mb < w.heap.size := by
  obtain ⟨D, h1, _⟩ := h.map
  exact h1.lt
theorem owns_block {w : World} {b n : Nat} {D : DataW Value} (h : w.ownsMap Try.prog 9 rawR b n D) : ∃ es clock, w.heap[b]? = some (.map es clock) := by
  obtain ⟨es, clock, h, _⟩ := h
  exact ⟨es, clock, h⟩
theorem Led.map_blk {w : World} {sb mb : Nat} {p : Pol} {tick : Int} {rows : Rws} (h : Led w sb mb p tick rows) : ∃ es clock, w.heap[mb]? = some (.map es clock) := by
  obtain ⟨D, h1, _⟩ := h.map
  exact owns_block h1
theorem Led.ne {w : World} {sb mb : Nat} {p : Pol} {tick : Int} {rows : Rws} (h : Led w sb mb p tick rows) : sb ≠ mb := by
  intro e
  obtain ⟨es, clock, hm⟩ := h.map_blk
  rw [← e, h.blk] at hm
  cases hm
/-- Nothing of a ledger has turned. -/
theorem Led.keeps {w w' : World} {sb mb : Nat} {p : Pol} {tick : Int} {rows : Rws} (h : Led w sb mb p tick rows) {ex : Nat → Prop} (hk : Keeps ex w w') (h1 : ¬ ex sb) (h2 : ¬ ex mb) (h3 : ∀ (k : Nat) (cur : Array Value), w.heap[k]? = some (.cells cur 3 (0, 0)) → ¬ ex k) : Led w' sb mb p tick rows := by
  refine ⟨(hk.block sb h.lt_sb h1).trans h.blk, ?_⟩
  obtain ⟨D, k1, k2⟩ := h.map
  refine ⟨D, ?_, k2.move fun k cur hc => hk.block k (Array.getElem?_eq_some_iff.1 hc).1 (h3 k cur hc)⟩
  obtain ⟨es, clock, hb, rest⟩ := k1
  exact ⟨es, clock, (hk.block mb h.lt_mb h2).trans hb, rest⟩
theorem Led.below {w w' : World} {sb mb : Nat} {p : Pol} {tick : Int} {rows : Rws} (h : Led w sb mb p tick rows) (hb : Below w.heap.size w w') : Led w' sb mb p tick rows :=
  h.keeps (Keeps.of_below hb (fun _ => False)) (fun e => e) (fun e => e) (fun _ _ _ e => e)
/-- Another ledger has turned. -/
theorem Led.beside {w w' : World} {sb mb sb' mb' : Nat} {p : Pol} {tick : Int} {rows : Rws} (h : Led w sb mb p tick rows) {p' : Pol} {tick' : Int} {rows' : Rws} (h' : Led w sb' mb' p' tick' rows') (hs : sb ≠ sb') (hm : mb ≠ mb')
    (hk : Keeps (fun k => k = sb' ∨ k = mb') w w') : Led w' sb mb p tick rows := by
  obtain ⟨es, clock, hme⟩ := h.map_blk
  obtain ⟨es', clock', hme'⟩ := h'.map_blk
  refine h.keeps hk ?_ ?_ ?_
  · rintro (e | e)
    · exact hs e
    · subst e; have h2 := h.blk; rw [hme'] at h2; cases h2
  · rintro (e | e)
    · subst e; have h2 := h'.blk; rw [hme] at h2; cases h2
    · exact hm e
  · rintro k cur hc (e | e)
    · subst e; have h2 := h'.blk; rw [hc] at h2; injection h2 with h2; injection h2 with _ h2; exact absurd h2 (by decide)
    · subst e; rw [hme'] at hc; cases hc
end Go.Proofs.Ytnodnpenlplleaa.Own
