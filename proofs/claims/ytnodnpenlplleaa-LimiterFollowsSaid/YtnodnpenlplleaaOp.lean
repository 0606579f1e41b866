/- Calls (reevelaw09.Op) as they lie in a list that was handed in. -/
import Derived.Test.YtnodnpenlplleaaRec
namespace Go.Proofs.Ytnodnpenlplleaa.Own
open Go.ChangeShapes Go.WideShapes Go.ChangeAt Go.RowKit Go.Deep Go.Proofs.YtnodnpenlplleaaW.PrintWords
set_option linter.unusedVariables false
set_option linter.unusedSimpArgs false

/-- A call. -/
structure Po where
  d : Int
  a : Int
  key : ByteArray
def zPo : Po := ⟨(0 : Int), (0 : Int), (⟨#[]⟩ : ByteArray)⟩
def kPo : Kd Po := Kd.iso (Kd.pair (Kd.int .i64) (Kd.pair (Kd.int .i64) Kd.string)) (fun x : Po => (x.d, x.a, x.key))
theorem kPo_open {w : World} {x : Po} {cs : List Value} (h : kPo.K w x cs) : cs = [.int .i64 x.d, .int .i64 x.a, .string x.key] := by
  obtain ⟨_, _, rfl, rfl, ⟨_, _, rfl, rfl, rfl⟩⟩ := h
  exact rfl
theorem kPo_mk (w : World) (x : Po) : kPo.K w x [.int .i64 x.d, .int .i64 x.a, .string x.key] := ⟨[.int .i64 x.d], [.int .i64 x.a, .string x.key], rfl, rfl, ⟨[.int .i64 x.a], [.string x.key], rfl, rfl, rfl⟩⟩
def rdPo (xs : List Po) (i : Int) : Po := xs.getD i.toNat zPo
theorem atPo {w : World} {A : Option Addr} {n : Nat} {xs : List Po} (h : Kd.C kPo w A n xs) (i : Int) (h0 : 0 ≤ i) (h1 : i < n) : ∃ ad , A = some ad ∧ w.cell? (ad.add (i.toNat * 3)) = some (.int .i64 (rdPo xs i).d) ∧ w.cell? ⟨(ad.add (i.toNat * 3)).block, (ad.add (i.toNat * 3)).off + 1, none⟩ = some (.int .i64 (rdPo xs i).a) ∧ w.cell? ⟨(ad.add (i.toNat * 3)).block, (ad.add (i.toNat * 3)).off + 2, none⟩ = some (.string (rdPo xs i).key) := by
  obtain ⟨ad, c, e, _, hK, hc0⟩ := Kd.C_get h zPo i h0 h1
  have hc : ∀ j u, c[j]? = some u → w.cell? (ad.add (i.toNat * 3 + j)) = some u := hc0
  obtain rfl := kPo_open hK
  exact ⟨ad, e, hc 0 _ rfl, by rw [← add_field _ _ 1 (by omega)]; exact hc 1 _ rfl, by rw [← add_field _ _ 2 (by omega)]; exact hc 2 _ rfl⟩
/-- A call as it may be handed in. -/
def inP (r : Po) : Prop := wf64 r.d ∧ wf64 r.a ∧ r.key.size ≤ maxLen
theorem takeP_rd (l : List Po) (j : Nat) (h : j < l.length) : l.take (j + 1) = l.take j ++ [rdPo l (j : Int)] := by
  rw [List.take_add_one]
  congr 1
  unfold rdPo
  rw [Int.toNat_natCast, List.getD_eq_getElem?_getD, List.getElem?_eq_getElem h]
  rfl
theorem memP_rd (l : List Po) (j : Nat) (h : j < l.length) : rdPo l (j : Int) ∈ l := by
  unfold rdPo
  rw [Int.toNat_natCast, List.getD_eq_getElem?_getD, List.getElem?_eq_getElem h]
  exact List.getElem_mem h

section
variable {H : Type} {enc : TypeId × Value → H} {w : World} {base : Nat} {sp : Nat → Bool} {held : Bool}
theorem cellsPo : Try.prog.cellsOf 43 = 3 := by kernel_rfl
theorem bytesPo : Try.prog.bytesOf 43 = 32 := by kernel_rfl
set_option maxRecDepth 100000 in
theorem open_op {n : Nat} {cs : List Value} {x : DataW H × List MemPlace} (h : DataW.trod enc Try.prog w base sp held n 43 cs = some x) :
    ∃ r : Po, cs = [.int .i64 r.d, .int .i64 r.a, .string r.key] ∧ inP r := by
  obtain ⟨xs, m, _, _, hcl, hlen, hg⟩ := DataW.trod_struct Try.underlying43 h
  rw [cellsPo] at hcl
  match cs, hcl with
  | [c0, c1, c2], _ =>
    match xs, hlen with
    | [y0, y1, y2], _ =>
      have o := cells1.1
      have o9 := cells1.2.1
      obtain ⟨a0, rfl, w0⟩ := int_of (c := c0) (by simpa [Value.cells, o] using hg 0 _ rfl) rfl
      obtain ⟨a1, rfl, w1⟩ := int_of (c := c1) (by simpa [Value.cells, o] using hg 1 _ rfl) rfl
      obtain ⟨a2, rfl, w2⟩ := string_of (c := c2) (by simpa [Value.cells, o9] using hg 2 _ rfl) rfl
      exact ⟨⟨a0, a1, a2⟩, rfl, w0, w1, w2⟩

set_option maxRecDepth 100000 in
/-- A LIST OF CALLS. -/
theorem open_ops {r : Reach} {b0 : Nat} {v : Value} {d : DataW H} {p : List MemPlace} (hv : Value.okWide Try.prog w r b0 24 v) (h : DataW.Trod enc Try.prog w base sp held 24 v d p) :
    ∃ (A : Option Addr) (c : Nat) (l : List Po), v = .slice A l.length c ∧ l.length ≤ c ∧ c ≤ maxLen ∧ Kd.C kPo w A l.length l ∧ (∀ r ∈ l, inP r) ∧
      (d = .nil ∧ l = [] ∨ ∃ el rest, d = .slice el rest ∧ el.length = l.length) := by
  obtain ⟨A, len, cap, rfl⟩ := okWide_slice Try.underlying24 hv
  obtain ⟨fuel, hf⟩ := h
  rcases open_slice Try.underlying24 hf with ⟨hcs, hx⟩ | ⟨a, len', cap', m, n, D, Pl, hcs, _, hl, hm, hmm, hx, hi⟩
  · simp only [Value.cells, List.cons.injEq, Value.slice.injEq, and_true] at hcs
    obtain ⟨rfl, rfl, rfl⟩ := hcs
    simp only [Prod.mk.injEq] at hx
    exact ⟨none, 0, [], rfl, Nat.le_refl _, Nat.zero_le _, ⟨rfl, Nat.zero_le _, fun h => by simp at h⟩, by simp, .inl ⟨hx.1, rfl⟩⟩
  · simp only [Value.cells, List.cons.injEq, Value.slice.injEq, and_true] at hcs
    obtain ⟨rfl, rfl, rfl⟩ := hcs
    simp only [Prod.mk.injEq] at hx
    have hlm : len ≤ m := by rw [hmm]; split <;> omega
    have key : ∀ i, i < len → ∃ r : Po, (∀ j u, [.int .i64 r.d, .int .i64 r.a, .string r.key][j]? = some u → w.cell? (a.add (i * 3 + j)) = some u) ∧ inP r := by
      intro i hil
      obtain ⟨cs', hc, ht⟩ := hi i (by omega)
      obtain ⟨r, rfl, hin⟩ := open_op ht
      refine ⟨r, fun j u hj => ?_, hin⟩
      obtain ⟨_, _, hat⟩ := World.cells?_some hc
      rw [cellsPo] at hat
      have hjl : j < 3 := by
        have := (List.getElem?_eq_some_iff.1 hj).1
        simpa using this
      rw [← Go.Deep.add_add, hat j hjl]
      exact hj
    obtain ⟨f, hf⟩ : ∃ f : Nat → Po, ∀ i, i < len → (∀ j u, [.int .i64 (f i).d, .int .i64 (f i).a, .string (f i).key][j]? = some u → w.cell? (a.add (i * 3 + j)) = some u) ∧ inP (f i) :=
      ⟨fun i => if h : i < len then Classical.choose (key i h) else zPo, fun i hil => by simp only [hil, dif_pos]; exact Classical.choose_spec (key i hil)⟩
    refine ⟨some a, cap, (List.range len).map f, by simp, by simpa using hl, hm, ⟨by simp, by simp only [List.length_map, List.length_range]; simp only [maxLen] at hm; omega, fun _ => ⟨a, rfl, fun j q hq => ?_⟩⟩, ?_, .inr ⟨_, _, hx.1, by simp⟩⟩
    · simp only [List.getElem?_map, Option.map_eq_some_iff] at hq
      obtain ⟨j', hj', rfl⟩ := hq
      obtain ⟨hlt, hjj⟩ := List.getElem?_eq_some_iff.1 hj'
      simp only [List.length_range] at hlt
      rw [List.getElem_range] at hjj
      subst hjj
      exact ⟨_, rfl, kPo_mk w (f j), (hf j hlt).1⟩
    · intro r hr
      obtain ⟨i, hi', rfl⟩ := List.mem_map.1 hr
      exact (hf i (by simpa using hi')).2
end
end Go.Proofs.Ytnodnpenlplleaa.Own
