/- Layer 9: the keys of the ledger's map, in order; how many there are. -/
import Derived.Test.YtnodnpenlplleaaLedB
namespace Go.Proofs.Ytnodnpenlplleaa.Own
open Go.RowKit Go.Proofs.YtnodnpenlplleaaW.PrintWords Go.Proofs.YtnodnpenlplleaaW.PrintLast Go.Proofs.YtnodnpenlplleaaW.PrintMore
open Go.Maps (Keyed)
set_option linter.unusedVariables false
set_option linter.unusedSimpArgs false

theorem keys_of_map {w : World} {b n : Nat} {D : DataW Value} {ks : List ByteArray} (hown : w.ownsMap Try.prog 9 rawR b n D) (hD : ∀ key, Maps.has D (lk key) = true ↔ key ∈ ks) (hs : ks.Pairwise klt) {ss : List (List UInt8)} (hp : ss.Perm (Go.strKeys D)) :
    (ss.mergeSort (fun x y => decide (x ≤ y))).map (fun l => (⟨l.toArray⟩ : ByteArray)) = ks := by
  obtain ⟨es, rfl, hpw, hkl⟩ := hown.entries kStr
  obtain ⟨es', e', hks⟩ := hown.keysOf
  injection e' with e'
  subst e'
  have hstr : ∀ p ∈ es, ∃ x : List UInt8, p.1 = .string x := fun p hp => by
    obtain ⟨v, hv⟩ := hks p hp
    obtain ⟨x, _, hx, _⟩ := Maps.keyOf_str Try.underlying9 hv
    exact ⟨x, hx⟩
  have hmem : ∀ x : List UInt8, x ∈ Go.strKeys (.map es) ↔ Maps.has (.map es) (.string x) = true := fun x => by
    rw [Maps.has_eq, List.any_eq_true]
    show x ∈ es.map (fun p => Go.strOf p.1) ↔ _
    rw [List.mem_map]
    constructor
    · rintro ⟨p, hp, rfl⟩
      obtain ⟨y, hy⟩ := hstr p hp
      exact ⟨p, hp, by rw [hy]; simp [Go.strOf, Lit.sameKey]⟩
    · rintro ⟨p, hp, h⟩
      have := WideAt.sameKey_eq h
      exact ⟨p, hp, by rw [this]; rfl⟩
  have hnd : (Go.strKeys (.map es)).Nodup := by
    show (es.map fun p => Go.strOf p.1).Nodup
    refine List.pairwise_map.2 (hpw.imp_of_mem fun {p q} hp' hq' hne e => hne ?_)
    obtain ⟨a, ha⟩ := hstr p hp'
    obtain ⟨b, hb⟩ := hstr q hq'
    rw [ha, hb] at e ⊢
    exact congrArg _ e
  have tr : ∀ a b c : List UInt8, (decide (a ≤ b)) = true → (decide (b ≤ c)) = true → (decide (a ≤ c)) = true := fun a b c h1 h2 => by simp only [decide_eq_true_eq] at *; exact List.le_trans h1 h2
  have tot : ∀ a b : List UInt8, ((decide (a ≤ b)) || (decide (b ≤ a))) = true := fun a b => by simp only [Bool.or_eq_true, decide_eq_true_eq]; exact List.le_total a b
  have hsp := List.pairwise_mergeSort tr tot ss
  have hperm := (List.mergeSort_perm ss (fun x y => decide (x ≤ y))).trans hp
  have hnd' := hperm.symm.nodup hnd
  refine sorted_unique ?_ hs (fun key => ?_)
  · rw [List.pairwise_map]
    have hboth := hsp.and hnd'
    refine hboth.imp fun {a b} h => ?_
    have h1 : a ≤ b := of_decide_eq_true h.1
    show a.toArray.toList < b.toArray.toList
    simp only [List.toList_toArray]
    rcases List.le_iff_lt_or_eq.1 h1 with h2 | h2
    · exact h2
    · exact absurd h2 h.2
  · rw [List.mem_map]
    have h1 := hD key
    constructor
    · rintro ⟨l, hl, rfl⟩
      have h2 := (hmem l).1 (hperm.mem_iff.1 hl)
      have h3 : Maps.has (.map es) (lk ⟨l.toArray⟩) = true := by simpa [lk] using h2
      exact (hD _).1 h3
    · intro h
      exact ⟨key.data.toList, hperm.mem_iff.2 ((hmem _).2 (h1.2 h)), by simp⟩
theorem size_of_map {w : World} {b n : Nat} {D : DataW Value} {ks : List ByteArray} (hown : w.ownsMap Try.prog 9 rawR b n D) (hD : ∀ key, Maps.has D (lk key) = true ↔ key ∈ ks) (hs : ks.Pairwise klt) : Maps.size D = ks.length := by
  have h := congrArg List.length (keys_of_map hown hD hs (List.Perm.refl _))
  rw [List.length_map, List.length_mergeSort] at h
  obtain ⟨es, rfl, _, _⟩ := hown.entries kStr
  rw [← h]
  simp [Maps.size, Go.strKeys]
theorem owns_tight {w : World} {b n : Nat} {D : DataW Value} (hown : w.ownsMap Try.prog 9 rawR b n D) : w.ownsMap Try.prog 9 rawR b (Maps.size D) D := by
  obtain ⟨es, clock, hb, F, hs, rfl⟩ := hown
  refine ⟨es, clock, hb, F, ?_, rfl⟩
  simp [Maps.size, Go.length_sorted]
theorem look_keys {rows : Rws} {D : DataW Value} {w : World} (h : LedD w D rows) (key : ByteArray) : Maps.has D (lk key) = true ↔ key ∈ keysR rows := by
  rw [(h key).1]
  cases e : lookR rows key with
  | none => simp [lookR_none.1 e]
  | some d =>
    have : ¬ lookR rows key = none := by rw [e]; simp
    rw [lookR_none] at this
    simpa using this
/-- The map's block read as those rows, whatever bound is known. -/
theorem led_of {w : World} {sb mb n : Nat} {p : Pol} {tick : Int} {rows : Rws} {D : DataW Value} (hb : w.heap[sb]? = some (.cells (ledC p tick mb) 80 (0, 0))) (hown : w.ownsMap Try.prog 9 rawR mb n D) (hD : LedD w D rows) (hs : sortedR rows) : Led w sb mb p tick rows := by
  refine ⟨hb, D, ?_, hD⟩
  have h1 := size_of_map hown (look_keys hD) hs
  have h2 := owns_tight hown
  rw [h1] at h2
  simpa [keysR] using h2
theorem Led.size {w : World} {sb mb : Nat} {p : Pol} {tick : Int} {rows : Rws} (h : Led w sb mb p tick rows) (hs : sortedR rows) : ∃ D, w.ownsMap Try.prog 9 rawR mb rows.length D ∧ LedD w D rows ∧ Maps.size D = rows.length := by
  obtain ⟨D, h1, h2⟩ := h.map
  exact ⟨D, h1, h2, by rw [size_of_map h1 (look_keys h2) hs]; simp [keysR]⟩
end Go.Proofs.Ytnodnpenlplleaa.Own
