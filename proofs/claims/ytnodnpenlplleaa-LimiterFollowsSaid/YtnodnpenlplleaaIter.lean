/- A range over a function whose iterator itself ranges over a function: a contract for iterators that speaks of blocks ahead of the call, and the law of the statement from it. -/
import Derived.RangeFuncNested
import Derived.RangeFuncBound
import Derived.RangeFuncCalls
import Derived.RangeFuncLeaves
import Derived.RangeFuncBox
import Derived.Below
import Derived.WalkKit
import Derived.OwnWalkIn
import Derived.TacticsInMore
import Derived.LoopNIn
import Derived.LoopIn
import Derived.Test.YtnodnpenlplleaaBlk
namespace Go.Proofs.Ytnodnpenlplleaa.Own
open Go.RowKit

/-- From W to W' no block of W has turned but those of ex; new ones may be there. -/
structure Keeps (ex : Nat → Prop) (W W' : World) : Prop where
  os : W'.os = W.os
  tape : W'.tape = W.tape
  output : W'.output = W.output
  size : W.heap.size ≤ W'.heap.size
  block : ∀ k, k < W.heap.size → ¬ ex k → W'.heap[k]? = W.heap[k]?

section
variable {ex ex' : Nat → Prop} {A B C : World}
theorem Keeps.refl (ex : Nat → Prop) (W : World) : Keeps ex W W := ⟨rfl, rfl, rfl, Nat.le_refl _, fun _ _ _ => rfl⟩
theorem Keeps.trans (h : Keeps ex A B) (k : Keeps ex B C) : Keeps ex A C :=
  ⟨k.os.trans h.os, k.tape.trans h.tape, k.output.trans h.output, Nat.le_trans h.size k.size, fun i hi hn => (k.block i (Nat.lt_of_lt_of_le hi h.size) hn).trans (h.block i hi hn)⟩
/-- The second step may turn new blocks besides. -/
theorem Keeps.trans' (h : Keeps ex A B) (k : Keeps ex' B C) (he : ∀ i, ex' i → ex i ∨ A.heap.size ≤ i) : Keeps ex A C :=
  ⟨k.os.trans h.os, k.tape.trans h.tape, k.output.trans h.output, Nat.le_trans h.size k.size, fun i hi hn => (k.block i (Nat.lt_of_lt_of_le hi h.size) (fun e => by
    rcases he i e with h1 | h1
    · exact hn h1
    · omega)).trans (h.block i hi hn)⟩
theorem Keeps.mono (h : Keeps ex A B) (he : ∀ i, ex i → ex' i) : Keeps ex' A B := ⟨h.os, h.tape, h.output, h.size, fun i hi hn => h.block i hi (fun e => hn (he i e))⟩
theorem Keeps.of_below (h : Below A.heap.size A B) (ex : Nat → Prop) : Keeps ex A B := ⟨h.os, h.tape, h.output, h.size, fun i hi _ => h.block i hi⟩
theorem Keeps.below {n : Nat} (h : Keeps ex A B) (hn : n ≤ A.heap.size) (he : ∀ i, ex i → n ≤ i) : Below n A B := ⟨h.os, h.tape, h.output, h.size, fun i hi => h.block i (by omega) (fun e => by have := he i e; omega)⟩
theorem Keeps.alloc (h : Keeps ex A B) (o : Obj) : Keeps ex A (B.alloc o) :=
  ⟨h.os, h.tape, h.output, Nat.le_trans h.size (by simp), fun i hi hn => (Below.heap_alloc B o i (Nat.lt_of_lt_of_le hi h.size)).trans (h.block i hi hn)⟩
theorem Keeps.drewN (h : Keeps ex A B) (n : Nat) : Keeps ex A (B.drewN n) := ⟨h.os, h.tape, h.output, h.size, h.block⟩
theorem Keeps.drew (h : Keeps ex A B) : Keeps ex A B.drew := ⟨h.os, h.tape, h.output, h.size, h.block⟩
theorem Keeps.setCell (h : Keeps ex A B) {p : Addr} (hp : ex p.block ∨ A.heap.size ≤ p.block) (v : Value) : Keeps ex A (B.setCell p v) :=
  ⟨h.os, h.tape, h.output, Nat.le_trans h.size (by simp [World.setCell]), fun i hi hn => (Below.heap_setCell B p v i (fun e => by
    rcases hp with hp | hp
    · exact hn (e ▸ hp)
    · omega)).trans (h.block i hi hn)⟩
theorem Keeps.putObj (h : Keeps ex A B) {l : Nat} (hl : ex l ∨ A.heap.size ≤ l) (o : Obj) : Keeps ex A (B.putObj l o) :=
  ⟨h.os, h.tape, h.output, Nat.le_trans h.size (by simp), fun i hi hn => (World.putObj_heap_other (fun e => by
    rcases hl with hp | hp
    · exact hn (e ▸ hp)
    · omega)).trans (h.block i hi hn)⟩
theorem Keeps.cell (h : Keeps ex A B) {p : Addr} (hp : p.block < A.heap.size) (hn : ¬ ex p.block) : B.cell? p = A.cell? p := World.cell?_of_block (w := A) (h.block p.block hp hn)
end

theorem below_putObj (W : World) {l B : Nat} (h : B ≤ l) (o : Obj) : Below B W (W.putObj l o) := ⟨rfl, rfl, rfl, by simp, fun _ hk => World.putObj_heap_other (by omega)⟩

/-- Several new blocks, one behind another. -/
def allocAll : World → List Obj → World
  | w, [] => w
  | w, o :: r => allocAll (w.alloc o) r
theorem allocAll_size (os : List Obj) : ∀ w : World, (allocAll w os).heap.size = w.heap.size + os.length := by
  induction os with
  | nil => intro w; rfl
  | cons o r ih => intro w; rw [allocAll, ih]; simp; omega
theorem allocAll_below (os : List Obj) : ∀ w : World, Below w.heap.size w (allocAll w os) := by
  induction os with
  | nil => intro w; exact Below.refl _ _
  | cons o r ih => intro w; exact ((Below.refl _ w).alloc (Nat.le_refl _) o).trans ((ih _).mono (by simp))
theorem allocAll_get (os : List Obj) : ∀ (w : World) (i : Nat) (o : Obj), os[i]? = some o → (allocAll w os).heap[w.heap.size + i]? = some o := by
  induction os with
  | nil => intro w i o h; simp at h
  | cons o' r ih =>
    intro w i o h
    cases i with
    | zero =>
      simp at h; subst h
      exact ((allocAll_below r (w.alloc o')).block _ (by simp)).trans (heap_alloc_new w o')
    | succ i =>
      have := ih (w.alloc o') i o (by simpa using h)
      rw [World.size_alloc] at this
      rw [allocAll, show w.heap.size + (i + 1) = w.heap.size + 1 + i from by omega]
      exact this

/-- WHAT AN ITERATOR PROMISES, called with yield (record l) in whatever world in which what lay in w lies: the elements of xs come one behind another, as far as yield says that it goes on.
J: what the caller knows between two rounds: it speaks of blocks ahead of the call alone. ex: the blocks that a round may turn; care: those on which the iterator leans. -/
def Iter {α : Type} (P : Program) (m g : Nat) (lb : Array Value) (encs : α → Array Value) (xs : List α) (care : Nat → Prop) (w : World) : Prop :=
  ∀ (l : Nat) (ex : Nat → Prop) (J Jx : List α → World → Prop) (W : World), Below w.heap.size w W → (∀ k, ex k → k < W.heap.size) → (∀ k, care k → ¬ ex k) →
    (∀ pre W1 W2, J pre W1 → Below W.heap.size W1 W2 → J pre W2) → (∀ pre W1 W2, Jx pre W1 → Below W.heap.size W1 W2 → Jx pre W2) →
    (∀ pre x W1, J pre W1 → pre ++ [x] <+: xs → YieldAt Fence.wide m P l (encs x) W1 fun e W' => Keeps ex W1 W' ∧ ((e = .returned (.bool true) ∧ J (pre ++ [x]) W') ∨ (e = .returned (.bool false) ∧ Jx (pre ++ [x]) W'))) →
    J [] W →
    CallsIn Fence.wide m P g (#[.func (.yield l) #[] #[]] ++ lb) W fun e W' => (∃ v, e = .returned v) ∧ Keeps ex W W' ∧ (J xs W' ∨ ∃ pre, pre <+: xs ∧ Jx pre W')

/-- Where no depth is asked the room's figure says nothing. -/
theorem round_any {m m' : Nat} {P : Program} {l : Nat} {f : FuncId} {tmps : Array Value} {assign body : Code} {w : World} {R : Ending → World → Prop} (h : RoundIn Fence.wide m P l f tmps assign body w R) : RoundIn Fence.wide m' P l f tmps assign body w R :=
  ⟨h.1, fun c cs _ => h.2 c cs (fun d hd => by cases hd)⟩

/-- How a round's body may be left. -/
def roundEnd {α : Type} (own : Nat → Prop) (I : List α → World → Prop) (Ix : Code → List α → World → Prop) (xs : List α) (W : World) : Exit → Act → World → Prop
  | .normal, _, W' => Keeps own W W' ∧ I xs W'
  | .ret, _, W' => Keeps own W W' ∧ Ix .ret xs W'
  | .exit id, _, W' => Keeps own W W' ∧ Ix (.exit id) xs W'
  | .goto t, _, W' => Keeps own W W' ∧ Ix (.goto t) xs W'
  | .panic _, _, _ => False
  | .outgrown, _, _ => False

/-- How the round's end, as the machine has it, follows from how the body was left. -/
theorem roundEnd_post {α : Type} {P : Program} {own : Nat → Prop} {I : List α → World → Prop} {Ix : Code → List α → World → Prop} {pre : List α} {W : World} {l B : Nat} {rec : Loop} {R : Ending → World → Prop}
    (hB : ∀ k, own k → k < B) (hl : B ≤ l) (hrec : W.heap[l]? = some (.loop rec))
    (hgo : ∀ W', Keeps own W W' → I pre W' → R (.returned (.bool true)) (W'.putObj l (.loop { rec with state := .ready, pending := none })))
    (hno : ∀ c W', Keeps own W W' → Ix c pre W' → R (.returned (.bool false)) (W'.putObj l (.loop { rec with state := .done, pending := some c }))) (e : Exit) (a : Act) (W' : World)
    (h : roundEnd own I Ix pre W e a W') : roundPost P l R e a W' := by
  have hlt : l < W.heap.size := (Array.getElem?_eq_some_iff.1 hrec).1
  have hnl : ¬ own l := fun e => by have := hB l e; omega
  cases e with
  | normal => exact ⟨_, _, run_endRound none ((h.1.block l hlt hnl).trans hrec), hgo W' h.1 h.2⟩
  | ret => exact ⟨_, _, run_endRound (some .ret) ((h.1.block l hlt hnl).trans hrec), hno _ W' h.1 h.2⟩
  | exit id => exact ⟨_, _, run_endRound (some (.exit id)) ((h.1.block l hlt hnl).trans hrec), hno _ W' h.1 h.2⟩
  | goto t => exact ⟨_, _, run_endRound (some (.goto t)) ((h.1.block l hlt hnl).trans hrec), hno _ W' h.1 h.2⟩
  | panic c => exact h.elim
  | outgrown => exact h.elim

/-- THE STATEMENT 'for .. := range g { .. }' at the head of no other such loop. -/
theorem wpIn_range_iter {α : Type} {P : Program} {n m : Nat} {g : Operand} {ps : Array Tmp} {assign body : Code} {Q : Exit → Act → World → Prop} {a : Act} {w w0 : World}
    {gf : Nat} {lb : Array Value} (hg : a.eval g = .func (.func gf) #[] lb) (eg : ∀ args w, (callFunc gf args).run P w = .ok (.enter gf args) w)
    {encs : α → Array Value} {xs : List α} {care : Nat → Prop} (hit : Iter P m gf lb encs xs care w0) (hb0 : Below w0.heap.size w0 w) (hps : ∀ x, (encs x).size = ps.size)
    (own : Nat → Prop) (hown : ∀ k, own k → k < w.heap.size) (hcare : ∀ k, care k → ¬ own k ∧ k < w.heap.size)
    (I : List α → World → Prop) (Ix : Code → List α → World → Prop) (hI : ∀ pre W1 W2, I pre W1 → Below w.heap.size W1 W2 → I pre W2) (hIx : ∀ c pre W1 W2, Ix c pre W1 → Below w.heap.size W1 W2 → Ix c pre W2)
    (h0 : I [] w)
    (hround : ∀ (l : Nat) (pre : List α) (x : α) (W : World), w.heap.size ≤ l → l < W.heap.size → I pre W → Keeps own w W → pre ++ [x] <+: xs →
      assign.wpIn (Fence.wide.inRound l) m P (Exit.then (fun a1 W1 => Keeps own W W1 ∧ I pre W1 ∧ ∀ W2, OnlyBlk l W1 W2 → body.wpIn (Fence.wide.inRound l) m P (roundEnd own I Ix (pre ++ [x]) W2) a1 W2) (fun _ _ _ => False))
        { tmps := (ps.zip (encs x)).foldl (fun t (p, v) => t.setIfInBounds p v) a.tmps, defers := [] } W)
    (hdone : ∀ (D : Nat) (W : World), w.heap.size ≤ D → I xs W → Keeps own w W → W.heap[D]? = some (.deferred (some [])) → Q .normal { a with defers := { target := .collected D, args := #[] } :: a.defers } W)
    (hstop : ∀ (D : Nat) (c : Code) (pre : List α) (W : World), w.heap.size ≤ D → pre <+: xs → Ix c pre W → Keeps own w W → W.heap[D]? = some (.deferred (some [])) →
      c.wpIn Fence.wide n P Q { a with defers := { target := .collected D, args := #[] } :: a.defers } W) :
    (Code.rangeFunc g ps assign body).wpIn Fence.wide n P Q a w := by
  refine wpIn_rangeFunc ?_
  intro fn _
  obtain ⟨rec, hrec⟩ : ∃ rec : LoopState → Option Code → Loop, rec = fun st pe => { state := st, pending := pe, fn, tmps := a.tmps, params := ps, assign, body, defers := w.heap.size } := ⟨_, rfl⟩
  obtain ⟨W1, hW1⟩ : ∃ W1, (w.alloc (.deferred (some []))).alloc (.loop (rec .ready none)) = W1 := ⟨_, rfl⟩
  have hs1 : W1.heap.size = w.heap.size + 2 := by rw [← hW1]; simp
  have hL1 : W1.heap[w.heap.size + 1]? = some (.loop (rec .ready none)) := by
    rw [← hW1]; have := World.alloc_heap_new (w.alloc (.deferred (some []))) (.loop (rec .ready none)); rwa [World.size_alloc] at this
  have hK1 : W1.heap[w.heap.size]? = some (.deferred (some [])) := by
    rw [← hW1]; exact (Below.heap_alloc _ _ _ (by simp)).trans (World.alloc_heap_new w _)
  have hb1 : Below w.heap.size w W1 := by rw [← hW1]; exact ((Below.refl _ w).alloc (Nat.le_refl _) _).alloc (by simp) _
  refine ⟨w.heap.size + 1, [{ target := .collected w.heap.size, args := #[] }], W1, { target := .fn (.func gf) lb, args := #[.func (.yield (w.heap.size + 1)) #[] #[]] }, W1, gf,
    #[.func (.yield (w.heap.size + 1)) #[] #[]] ++ lb, W1, ?_, ?_, ?_, ?_, (fun h => by cases h), ?_⟩
  · rw [← hW1, hrec]; exact run_enterLoop_outer _ _ _ _ _
  · simp only [resolve, hg]
    simp [go_sem]
  · intro f' hf'; simp [Target.leads] at hf'; subst hf'; trivial
  · simp [invoke, go_sem, eg]
  · have key := hit (w.heap.size + 1) (fun k => own k ∨ k = w.heap.size + 1)
      (fun pre W => I pre W ∧ Keeps own w W ∧ W.heap[w.heap.size + 1]? = some (.loop (rec .ready none)) ∧ W.heap[w.heap.size]? = some (.deferred (some [])))
      (fun pre W => ∃ c, Ix c pre W ∧ Keeps own w W ∧ W.heap[w.heap.size + 1]? = some (.loop (rec .done (some c))) ∧ W.heap[w.heap.size]? = some (.deferred (some [])))
      W1 (hb0.trans (hb1.mono hb0.size))
      (fun k hk => by
        rcases hk with hk | rfl
        · have := hown k hk; omega
        · omega)
      (fun k hk he => by
        rcases he with he | rfl
        · exact (hcare k hk).1 he
        · have := (hcare _ hk).2; omega)
      (fun pre A B hJ hAB => by
        obtain ⟨i1, i2, i3, i4⟩ := hJ
        exact ⟨hI _ _ _ i1 (hAB.mono (by omega)), i2.trans' (Keeps.mk (ex := fun k => w.heap.size ≤ k) hAB.os hAB.tape hAB.output hAB.size (fun k hk hn => hAB.block k (by omega))) (fun i hi => .inr hi),
          (hAB.block _ (by omega)).trans i3, (hAB.block _ (by omega)).trans i4⟩)
      (fun pre A B hJ hAB => by
        obtain ⟨c, i1, i2, i3, i4⟩ := hJ
        exact ⟨c, hIx _ _ _ _ i1 (hAB.mono (by omega)), i2.trans' (Keeps.mk (ex := fun k => w.heap.size ≤ k) hAB.os hAB.tape hAB.output hAB.size (fun k hk hn => hAB.block k (by omega))) (fun i hi => .inr hi),
          (hAB.block _ (by omega)).trans i3, (hAB.block _ (by omega)).trans i4⟩)
      ?_ ⟨hI _ _ _ h0 hb1, Keeps.of_below hb1 _, hL1, hK1⟩
    · refine callsIn_wide.2 ((callsIn_wide.1 key).mono ?_)
      rintro e W2 ⟨⟨v, rfl⟩, _, (⟨i1, i2, i3, i4⟩ | ⟨pre, hpre, c, i1, i2, i3, i4⟩)⟩
      · refine ⟨none, _, by have := run_endLoop (P := P) i3 (by rw [hrec]; simp); rw [hrec] at this; exact this, ?_⟩
        exact hdone _ _ (Nat.le_refl _) (hI _ _ _ i1 (below_putObj _ (by omega) _)) (i2.putObj (.inr (by omega)) _) ((World.putObj_heap_other (by omega)).trans i4)
      · refine ⟨some c, _, by have := run_endLoop (P := P) i3 (by rw [hrec]; simp); rw [hrec] at this; exact this, ?_⟩
        exact hstop _ c pre _ (Nat.le_refl _) hpre (hIx _ _ _ _ i1 (below_putObj _ (by omega) _)) (i2.putObj (.inr (by omega)) _) ((World.putObj_heap_other (by omega)).trans i4)
    · rintro pre x W ⟨i1, i2, i3, i4⟩ hx
      have hlt : w.heap.size + 1 < W.heap.size := (Array.getElem?_eq_some_iff.1 i3).1
      have hy := run_yield (P := P) (args := encs x) i3 (by rw [hrec]; exact hps x)
      rw [hrec] at hy
      refine ⟨fn, _, assign, body, hy, roundIn_of_wpIn trivial ?_⟩
      refine wpIn_mono (hround (w.heap.size + 1) pre x W (by omega) hlt i1 i2 hx) ?_
      intro e a1 Wa hp
      cases e with
      | normal =>
        obtain ⟨hk1, hi1, hbody⟩ := hp
        have hnl : ¬ own (w.heap.size + 1) := fun e => by have := hown _ e; omega
        have hnd : ¬ own w.heap.size := fun e => by have := hown _ e; omega
        have hla := (hk1.block _ hlt hnl).trans i3
        have hda := (hk1.block w.heap.size (by omega) hnd).trans i4
        refine ⟨_, run_beginRound hla (by rw [hrec]), ?_⟩
        have hlta : w.heap.size + 1 < Wa.heap.size := (Array.getElem?_eq_some_iff.1 hla).1
        have hl2 : (Wa.putObj (w.heap.size + 1) (.loop { rec .ready none with state := .busy })).heap[w.heap.size + 1]? = some (.loop { rec .ready none with state := .busy }) := World.putObj_heap_same hlta
        refine wpIn_mono (hbody _ ⟨rfl, rfl, rfl, by simp, fun j hj => World.putObj_heap_other hj⟩) (roundEnd_post (B := w.heap.size) hown (by omega) hl2 ?_ ?_)
        · intro W' hk' hi'
          have q4 := ((((hk1.mono (ex' := fun k => own k ∨ k = w.heap.size + 1) (fun _ => .inl)).putObj (.inl (.inr rfl)) _).trans (hk'.mono (fun _ => .inl))).putObj (l := w.heap.size + 1) (.inl (.inr rfl)) (.loop { rec .ready none with state := .ready, pending := none }))
          have hl' : w.heap.size + 1 < W'.heap.size := Nat.lt_of_lt_of_le hlta (by have := hk'.size; simpa using this)
          refine ⟨q4, .inl ⟨rfl, hI _ _ _ hi' (below_putObj _ (by omega) _), i2.trans' q4 (fun i hi => hi.elim .inl (fun e => .inr (by omega))), (World.putObj_heap_same hl').trans (by rw [hrec]), ?_⟩⟩
          exact (World.putObj_heap_other (by omega)).trans ((hk'.block w.heap.size (by simp; omega) hnd).trans ((World.putObj_heap_other (by omega)).trans hda))
        · intro c W' hk' hi'
          have q4 := ((((hk1.mono (ex' := fun k => own k ∨ k = w.heap.size + 1) (fun _ => .inl)).putObj (.inl (.inr rfl)) _).trans (hk'.mono (fun _ => .inl))).putObj (l := w.heap.size + 1) (.inl (.inr rfl)) (.loop { rec .ready none with state := .done, pending := some c }))
          have hl' : w.heap.size + 1 < W'.heap.size := Nat.lt_of_lt_of_le hlta (by have := hk'.size; simpa using this)
          refine ⟨q4, .inr ⟨rfl, c, hIx _ _ _ _ hi' (below_putObj _ (by omega) _), i2.trans' q4 (fun i hi => hi.elim .inl (fun e => .inr (by omega))), (World.putObj_heap_same hl').trans (by rw [hrec]), ?_⟩⟩
          exact (World.putObj_heap_other (by omega)).trans ((hk'.block w.heap.size (by simp; omega) hnd).trans ((World.putObj_heap_other (by omega)).trans hda))
      | ret => exact hp.elim
      | exit id => exact hp.elim
      | goto t => exact hp.elim
      | panic c => exact hp.elim
      | outgrown => exact hp.elim
end Go.Proofs.Ytnodnpenlplleaa.Own
