/- Layer 9: a ledger at a later tick. -/
import Derived.Test.YtnodnpenlplleaaLedH
namespace Go.Proofs.Ytnodnpenlplleaa.Own
open Go.RowKit Go.Proofs.YtnodnpenlplleaaW.PrintWords Go.Proofs.YtnodnpenlplleaaW.PrintLast Go.Proofs.YtnodnpenlplleaaW.PrintMore
open Go.Maps (Keyed)
set_option linter.unusedVariables false
set_option linter.unusedSimpArgs false
attribute [local go_sem] Oper.semAt_some
theorem gate_mapup {P : Program} {ops : Array Oper} {rest : List Oper} {o : Oper} {a : Act} {w : World} {Q : Exit → Act → World → Prop} (t : TypeId) {m k v : Operand} (_ : o.op = .mapUpdate t m k v) (h : wpList P ops Q (o :: rest) a w) : wpList P ops Q (o :: rest) a w := h
theorem str_key {key : Value} {kl : Lit} (h : keyOf Try.prog 9 key = some kl) : ∃ s : ByteArray, key = .string s ∧ kl = lk s ∧ s.size ≤ maxLen := by
  obtain ⟨x, rfl, rfl, hl⟩ := Maps.keyOf_str Try.underlying9 h
  exact ⟨⟨x.toArray⟩, rfl, by simp [lk], by simpa [ByteArray.size] using hl⟩
def move__T6 : Bool × List (List Nat × List Nat) := (true, [([], []), ([], []), ([1], [1]), ([2], [2]), ([3], [3]), ([], []), ([5], [5]), ([6], [6]), ([7], [7]), ([], []), ([0], [0]), ([10], [10]), ([0, 10, 11], [0]), ([12, 4, 8, 9], [4, 8, 9, 12]), ([13, 13, 0, 1, 2, 3, 4, 5, 6, 7, 8, 9, 10, 11, 12, 13], [0, 13])])
def move__B6 : List Nat := [0, 0, 2, 6, 14, 0, 32, 96, 224, 0, 1, 1025, 3073, 8191, 16383]
theorem move__tab6 : rtab .any (opsOf Try.f18 6) = move__T6 := by kernel_rfl
theorem move__bits6 : waitsOk move__T6.2 move__B6 = true := by kernel_rfl

/-- While the ledger is moved: what a key owes, as long as it is still to come; behind that what is left of it. -/
def midR (p : Pol) (a b : Int) (rows : Rws) (left : Lit → Bool) (key : ByteArray) : Option Debt := if left (lk key) = true then lookR rows key else (lookR rows key).bind (lateD p a b)
def LedM (w : World) (D : DataW Value) (M : ByteArray → Option Debt) : Prop :=
  ∀ key, Maps.has D (lk key) = (M key).isSome ∧ ∃ v, D.atKey (lk key) (.held .nilIface) = .held v ∧ (match M key with | some d => DebtV w v d | none => v = .nilIface)
theorem LedM.move {w w' : World} {D : DataW Value} {M : ByteArray → Option Debt} (h : LedM w D M) (hm : ∀ (k : Nat) (cur : Array Value), w.heap[k]? = some (.cells cur 3 (0, 0)) → w'.heap[k]? = w.heap[k]?) : LedM w' D M := fun key => by
  obtain ⟨h1, v, h2, h3⟩ := h key
  refine ⟨h1, v, h2, ?_⟩
  cases e : M key with
  | none => simp only [e] at h3 ⊢; exact h3
  | some d => simp only [e] at h3 ⊢; exact DebtV.move h3 hm
def strike (left : Lit → Bool) (x : ByteArray) : Lit → Bool := fun z => left z && !z.sameKey (lk x)
theorem strike_same (left : Lit → Bool) (x : ByteArray) : strike left x (lk x) = false := by simp [strike, Lit.sameKey]
theorem strike_other (left : Lit → Bool) {x key : ByteArray} (h : x ≠ key) : strike left x (lk key) = left (lk key) := by
  unfold strike
  have : (lk key).sameKey (lk x) = false := by
    cases e : (lk key).sameKey (lk x) with
    | false => rfl
    | true => exact absurd (lk_inj (WideAt.sameKey_eq e)).symm h
  rw [this]; simp
/-- The ledger on its way. -/
structure Mid (w wr : World) (sb mb : Nat) (p : Pol) (tick t2 : Int) (rows : Rws) (left : Lit → Bool) (D : DataW Value) : Prop where
  led : LedM wr D (midR p tick t2 rows left)
  sub : ∀ key, left (lk key) = true → (lookR rows key).isSome
  blk : wr.heap[sb]? = some (.cells (ledC p tick mb) 80 (0, 0))
  keeps : Keeps (fun k => k = sb ∨ k = mb) w wr
section
variable {w wr w' : World} {sb mb : Nat} {p : Pol} {tick t2 : Int} {rows : Rws} {left : Lit → Bool} {D : DataW Value}
theorem Mid.next (h : Mid w wr sb mb p tick t2 rows left D) {rb : Nat} {mm : Option Nat} {s0 c0 : Nat} {seen : Array Nat} (hi : wr.heap[rb]? = some (.mapIter mm s0 seen c0)) (hg : wr.grownBy w' (some rb)) (hrb : w.heap.size ≤ rb) : Mid w w' sb mb p tick t2 rows left D where
  led := h.led.move fun k cur hc => hg.block k (Array.getElem?_eq_some_iff.1 hc).1 (fun e => by injection e with e; subst e; rw [hi] at hc; cases hc)
  sub := h.sub
  blk := (hg.block sb (Array.getElem?_eq_some_iff.1 h.blk).1 (fun e => by injection e with e; subst e; have h2 := h.blk; rw [hi] at h2; cases h2)).trans h.blk
  keeps := h.keeps.trans' (ex' := fun k => k = rb) ⟨hg.os, hg.tape, hg.output, hg.size, fun k hk hn => hg.block k hk (fun e => hn (by injection e))⟩ (fun i hi => .inr (by rw [hi]; exact hrb))
theorem Mid.below (h : Mid w wr sb mb p tick t2 rows left D) (hb : Below wr.heap.size wr w') : Mid w w' sb mb p tick t2 rows left D where
  led := h.led.move fun k cur hc => hb.block k (Array.getElem?_eq_some_iff.1 hc).1
  sub := h.sub
  blk := (hb.block sb (Array.getElem?_eq_some_iff.1 h.blk).1).trans h.blk
  keeps := h.keeps.trans (Keeps.of_below hb _)
theorem Mid.turned {n : Nat} {left' : Lit → Bool} {D' : DataW Value} (h : Mid w wr sb mb p tick t2 rows left D) (hown : wr.ownsMap Try.prog 9 rawR mb n D) (ht : wr.mapTurned w' mb) (hs : ∀ key, left' (lk key) = true → left (lk key) = true)
    (hl : LedM w' D' (midR p tick t2 rows left')) : Mid w w' sb mb p tick t2 rows left' D' where
  led := hl
  sub := fun key hk => h.sub key (hs key hk)
  blk := by
    obtain ⟨es, clock, hm⟩ := owns_block hown
    exact (ht.grown.block sb (Array.getElem?_eq_some_iff.1 h.blk).1 (fun e => by injection e with e; subst e; have h2 := h.blk; rw [hm] at h2; cases h2)).trans h.blk
  keeps := h.keeps.trans ⟨ht.grown.os, ht.grown.tape, ht.grown.output, ht.grown.size, fun k hk hn => ht.grown.block k hk (fun e => hn (.inr (by injection e)))⟩
theorem strike_sub {x : ByteArray} (key : ByteArray) (h : strike left x (lk key) = true) : left (lk key) = true := by
  unfold strike at h
  simp only [Bool.and_eq_true] at h
  exact h.1
theorem Mid.store {n : Nat} {x : ByteArray} {d : Debt} {v : Value} (h : Mid w wr sb mb p tick t2 rows left D) (hown : wr.ownsMap Try.prog 9 rawR mb n D) (ht : wr.mapTurned w' mb) (hd : lookR rows x = some d) (ho : (d.later p tick t2).owes = true)
    (hv : DebtV wr v (d.later p tick t2)) : Mid w w' sb mb p tick t2 rows (strike left x) (D.put (lk x) (.held v)) := by
  have hI := hown.isMap
  have hkl : WideAt.IsKeyLit (lk x) := trivial
  refine h.turned hown ht strike_sub (fun key => ?_)
  by_cases hk : x = key
  · subst hk
    have e : midR p tick t2 rows (strike left x) x = some (d.later p tick t2) := by
      unfold midR
      rw [strike_same, if_neg (by decide), hd, Option.bind_some, lateD, if_pos ho]
    rw [e]
    exact ⟨by rw [Maps.has_put_same hI hkl]; rfl, v, Maps.atKey_put_same hI hkl _ _, hv.turned hown ht.grown⟩
  · have e : midR p tick t2 rows (strike left x) key = midR p tick t2 rows left key := by
      unfold midR
      rw [strike_other left hk]
    have hne : lk key ≠ lk x := fun e => hk (lk_inj e).symm
    rw [e]
    obtain ⟨h1, u, h2, h3⟩ := h.led key
    refine ⟨by rw [Maps.has_put_other hne]; exact h1, u, by rw [Maps.atKey_put_other hne]; exact h2, ?_⟩
    cases e : midR p tick t2 rows left key with
    | none => simp only [e] at h3 ⊢; exact h3
    | some d' => simp only [e] at h3 ⊢; exact DebtV.turned h3 hown ht.grown
theorem Mid.drop {n : Nat} {x : ByteArray} {d : Debt} (h : Mid w wr sb mb p tick t2 rows left D) (hown : wr.ownsMap Try.prog 9 rawR mb n D) (ht : wr.mapTurned w' mb) (hd : lookR rows x = some d) (ho : (d.later p tick t2).owes = false) : Mid w w' sb mb p tick t2 rows (strike left x) (D.del (lk x)) := by
  have hI := hown.isMap
  have htd := hown.tidy kStr
  have hkl : WideAt.IsKeyLit (lk x) := trivial
  refine h.turned hown ht strike_sub (fun key => ?_)
  by_cases hk : x = key
  · subst hk
    have e : midR p tick t2 rows (strike left x) x = none := by
      unfold midR
      rw [strike_same, if_neg (by decide), hd, Option.bind_some, lateD, ho, if_neg (by decide)]
    rw [e]
    exact ⟨by rw [Maps.has_del_same]; rfl, .nilIface, Maps.atKey_del_same _, rfl⟩
  · have e : midR p tick t2 rows (strike left x) key = midR p tick t2 rows left key := by
      unfold midR
      rw [strike_other left hk]
    have hne : lk key ≠ lk x := fun e => hk (lk_inj e).symm
    rw [e]
    obtain ⟨h1, u, h2, h3⟩ := h.led key
    refine ⟨by rw [Maps.has_del_other hne]; exact h1, u, by rw [Maps.atKey_del_other hne]; exact h2, ?_⟩
    cases e : midR p tick t2 rows left key with
    | none => simp only [e] at h3 ⊢; exact h3
    | some d' => simp only [e] at h3 ⊢; exact DebtV.turned h3 hown ht.grown
/-- The entry that has come out is what the key owes. -/
theorem Mid.entry (h : Mid w wr sb mb p tick t2 rows left D) {x : ByteArray} {c : Value} (hx : left (lk x) = true) (hat : ∀ zd, D.atKey (lk x) zd = .held c) : ∃ d, lookR rows x = some d ∧ DebtV wr c d ∧ Maps.has D (lk x) = true := by
  obtain ⟨h1, u, h2, h3⟩ := h.led x
  have e : midR p tick t2 rows left x = lookR rows x := by unfold midR; rw [if_pos hx]
  rw [e] at h1 h3
  rw [hat] at h2
  injection h2 with h2
  subst h2
  have h4 := h.sub x hx
  cases e2 : lookR rows x with
  | none => rw [e2] at h4; cases h4
  | some d =>
    simp only [e2] at h3
    exact ⟨d, rfl, h3, by rw [h1, e2]; rfl⟩
theorem Mid.done (h : Mid w wr sb mb p tick t2 rows left D) (hl : ∀ kl, left kl = false) (hs : sortedR rows) : LedD wr D (moveR p tick t2 rows) := fun key => by
  have e : midR p tick t2 rows left key = lookR (moveR p tick t2 rows) key := by
    unfold midR
    rw [hl, if_neg (by decide), look_move key hs]
  rw [← e]
  exact h.led key
theorem Mid.start {n : Nat} (hown : wr.ownsMap Try.prog 9 rawR mb n D) (hD : LedD wr D rows) (hb : wr.heap[sb]? = some (.cells (ledC p tick mb) 80 (0, 0))) (hk : Keeps (fun k => k = sb ∨ k = mb) w wr) : Mid w wr sb mb p tick t2 rows (Maps.has D) D where
  led := fun key => by
    obtain ⟨h1, u, h2, h3⟩ := hD key
    have e : midR p tick t2 rows (Maps.has D) key = lookR rows key := by
      unfold midR
      rw [h1]
      cases e : lookR rows key with
      | none => simp
      | some d => simp
    rw [e]
    exact ⟨h1, u, h2, h3⟩
  sub := fun key hk => by rw [← (hD key).1]; exact hk
  blk := hb
  keeps := hk
end
end Go.Proofs.Ytnodnpenlplleaa.Own
