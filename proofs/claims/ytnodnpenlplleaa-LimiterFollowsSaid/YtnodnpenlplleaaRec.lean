/- Records as they lie in a list; a policy and a list of records that were handed in, opened to their cells. -/
import Derived.Test.YtnodnpenlplleaaLaw
import Derived.Test.YtnodnpenlplleaaSt
import Derived.Deep.Slices
import Derived.Deep.Fields
namespace Go.Proofs.Ytnodnpenlplleaa.Own
open Go.ChangeShapes Go.WideShapes Go.ChangeAt Go.RowKit Go.Deep Go.Proofs.YtnodnpenlplleaaW.PrintWords 
set_option linter.unusedVariables false
set_option linter.unusedSimpArgs false

/-- A record. -/
structure Rc where
  t : Int
  key : ByteArray
  c : Int
  v : Int
def zRc : Rc := ⟨(0 : Int), (⟨#[]⟩ : ByteArray), (0 : Int), (0 : Int)⟩
def kRc : Kd Rc := Kd.iso (Kd.pair (Kd.int .i64) (Kd.pair Kd.string (Kd.pair (Kd.int .i64) (Kd.int .i64)))) (fun x : Rc => (x.t, x.key, x.c, x.v))
theorem kRc_open {w : World} {x : Rc} {cs : List Value} (h : kRc.K w x cs) : cs = [.int .i64 x.t, .string x.key, .int .i64 x.c, .int .i64 x.v] := by
  obtain ⟨_, _, rfl, rfl, ⟨_, _, rfl, rfl, ⟨_, _, rfl, rfl, rfl⟩⟩⟩ := h
  exact rfl
theorem kRc_openM {w : World} {base : Nat} {ok : Nat → Prop} {x : Rc} {cs : List Value} (h : kRc.M w base ok x cs) : cs = [.int .i64 x.t, .string x.key, .int .i64 x.c, .int .i64 x.v] := by
  obtain ⟨_, _, rfl, rfl, ⟨_, _, rfl, rfl, ⟨_, _, rfl, rfl, rfl⟩⟩⟩ := h
  exact rfl
theorem kRc_mk (w : World) (x : Rc)  : kRc.K w x [.int .i64 x.t, .string x.key, .int .i64 x.c, .int .i64 x.v] := ⟨[.int .i64 x.t], [.string x.key, .int .i64 x.c, .int .i64 x.v], rfl, rfl, ⟨[.string x.key], [.int .i64 x.c, .int .i64 x.v], rfl, rfl, ⟨[.int .i64 x.c], [.int .i64 x.v], rfl, rfl, rfl⟩⟩⟩
theorem kRc_mkM (w : World) (base : Nat) (ok : Nat → Prop) (x : Rc)  : kRc.M w base ok x [.int .i64 x.t, .string x.key, .int .i64 x.c, .int .i64 x.v] := ⟨[.int .i64 x.t], [.string x.key, .int .i64 x.c, .int .i64 x.v], rfl, rfl, ⟨[.string x.key], [.int .i64 x.c, .int .i64 x.v], rfl, rfl, ⟨[.int .i64 x.c], [.int .i64 x.v], rfl, rfl, rfl⟩⟩⟩
def rdRc (xs : List Rc) (i : Int) : Rc := xs.getD i.toNat zRc
theorem atRc {w : World} {A : Option Addr} {n : Nat} {xs : List Rc} (h : Kd.C kRc w A n xs) (i : Int) (h0 : 0 ≤ i) (h1 : i < n) : ∃ ad , A = some ad ∧ w.cell? (ad.add (i.toNat * 4)) = some (.int .i64 (rdRc xs i).t) ∧ w.cell? ⟨(ad.add (i.toNat * 4)).block, (ad.add (i.toNat * 4)).off + 1, none⟩ = some (.string (rdRc xs i).key) ∧ w.cell? ⟨(ad.add (i.toNat * 4)).block, (ad.add (i.toNat * 4)).off + 2, none⟩ = some (.int .i64 (rdRc xs i).c) ∧ w.cell? ⟨(ad.add (i.toNat * 4)).block, (ad.add (i.toNat * 4)).off + 3, none⟩ = some (.int .i64 (rdRc xs i).v) := by
  obtain ⟨ad, c, e, _, hK, hc0⟩ := Kd.C_get h zRc i h0 h1
  have hc : ∀ j u, c[j]? = some u → w.cell? (ad.add (i.toNat * 4 + j)) = some u := hc0
  obtain rfl := kRc_open hK
  exact ⟨ad, e, hc 0 _ rfl, by rw [← add_field _ _ 1 (by omega)]; exact hc 1 _ rfl, by rw [← add_field _ _ 2 (by omega)]; exact hc 2 _ rfl, by rw [← add_field _ _ 3 (by omega)]; exact hc 3 _ rfl⟩


abbrev wf64 (x : Int) : Prop := (Lit.int .i64 x).wf = true
/-- A record as it may be handed in. -/
def inR (r : Rc) : Prop := wf64 r.t ∧ r.key.size ≤ maxLen ∧ wf64 r.c ∧ wf64 r.v

section
variable {H : Type} {enc : TypeId × Value → H} {w : World} {base : Nat} {sp : Nat → Bool} {held : Bool}

theorem int_of {n : Nat} {c : Value} {x : Option (DataW H × List MemPlace)} {y : DataW H × List MemPlace} (h : DataW.trod enc Try.prog w base sp held n 3 [c] = x) (hx : x = some y) : ∃ a : Int, c = .int .i64 a ∧ wf64 a := by
  subst hx
  obtain ⟨a, e, _, hw⟩ := DataW.trod_int Try.underlying3 h
  simp only [List.cons.injEq, and_true] at e
  exact ⟨a, e, hw⟩
theorem string_of {n : Nat} {c : Value} {x : Option (DataW H × List MemPlace)} {y : DataW H × List MemPlace} (h : DataW.trod enc Try.prog w base sp held n 9 [c] = x) (hx : x = some y) : ∃ s : ByteArray, c = .string s ∧ s.size ≤ maxLen := by
  subst hx
  obtain ⟨a, e, _, hw⟩ := DataW.trod_string Try.underlying9 h
  simp only [List.cons.injEq, and_true] at e
  exact ⟨a, e, hw⟩
theorem cells1 : Try.prog.cellsOf 3 = 1 ∧ Try.prog.cellsOf 9 = 1 ∧ Try.prog.cellsOf 49 = 4 ∧ Try.prog.cellsOf 23 = 10 := ⟨by kernel_rfl, by kernel_rfl, by kernel_rfl, by kernel_rfl⟩

theorem bytesRc : Try.prog.bytesOf 49 = 40 := by kernel_rfl

set_option maxRecDepth 100000 in
/-- A POLICY BY VALUE. -/
theorem open_pol {r : Reach} {b0 : Nat} {v : Value} {d : DataW H} {p : List MemPlace} (hv : Value.okWide Try.prog w r b0 23 v) (h : DataW.Trod enc Try.prog w base sp held 23 v d p) :
    ∃ a0 a1 a2 a3 a4 a5 a6 a7 a8 a9 : Int, v = .agg #[.int .i64 a0, .int .i64 a1, .int .i64 a2, .int .i64 a3, .int .i64 a4, .int .i64 a5, .int .i64 a6, .int .i64 a7, .int .i64 a8, .int .i64 a9] ∧
      wf64 a0 ∧ wf64 a1 ∧ wf64 a2 ∧ wf64 a3 ∧ wf64 a4 ∧ wf64 a5 ∧ wf64 a6 ∧ wf64 a7 ∧ wf64 a8 ∧ wf64 a9 := by
  obtain ⟨cs, rfl, hsz⟩ := okWide_struct Try.underlying23 hv
  obtain ⟨cl⟩ := cs
  rw [cells1.2.2.2] at hsz
  match cl, hsz with
  | [c0, c1, c2, c3, c4, c5, c6, c7, c8, c9], _ =>
    obtain ⟨fuel, hf⟩ := h
    obtain ⟨xs, n, _, _, _, hlen, hg⟩ := DataW.trod_struct Try.underlying23 hf
    match xs, hlen with
    | [y0, y1, y2, y3, y4, y5, y6, y7, y8, y9], _ =>
      have o := cells1.1
      obtain ⟨a0, rfl, w0⟩ := int_of (c := c0) (by simpa [Value.cells, o] using hg 0 _ rfl) rfl
      obtain ⟨a1, rfl, w1⟩ := int_of (c := c1) (by simpa [Value.cells, o] using hg 1 _ rfl) rfl
      obtain ⟨a2, rfl, w2⟩ := int_of (c := c2) (by simpa [Value.cells, o] using hg 2 _ rfl) rfl
      obtain ⟨a3, rfl, w3⟩ := int_of (c := c3) (by simpa [Value.cells, o] using hg 3 _ rfl) rfl
      obtain ⟨a4, rfl, w4⟩ := int_of (c := c4) (by simpa [Value.cells, o] using hg 4 _ rfl) rfl
      obtain ⟨a5, rfl, w5⟩ := int_of (c := c5) (by simpa [Value.cells, o] using hg 5 _ rfl) rfl
      obtain ⟨a6, rfl, w6⟩ := int_of (c := c6) (by simpa [Value.cells, o] using hg 6 _ rfl) rfl
      obtain ⟨a7, rfl, w7⟩ := int_of (c := c7) (by simpa [Value.cells, o] using hg 7 _ rfl) rfl
      obtain ⟨a8, rfl, w8⟩ := int_of (c := c8) (by simpa [Value.cells, o] using hg 8 _ rfl) rfl
      obtain ⟨a9, rfl, w9⟩ := int_of (c := c9) (by simpa [Value.cells, o] using hg 9 _ rfl) rfl
      exact ⟨a0, a1, a2, a3, a4, a5, a6, a7, a8, a9, rfl, w0, w1, w2, w3, w4, w5, w6, w7, w8, w9⟩

set_option maxRecDepth 100000 in
/-- One record's cells. -/
theorem open_rec {n : Nat} {cs : List Value} {x : DataW H × List MemPlace} (h : DataW.trod enc Try.prog w base sp held n 49 cs = some x) :
    ∃ r : Rc, cs = [.int .i64 r.t, .string r.key, .int .i64 r.c, .int .i64 r.v] ∧ inR r := by
  obtain ⟨xs, m, _, _, hcl, hlen, hg⟩ := DataW.trod_struct Try.underlying49 h
  rw [cells1.2.2.1] at hcl
  match cs, hcl with
  | [c0, c1, c2, c3], _ =>
    match xs, hlen with
    | [y0, y1, y2, y3], _ =>
      have o := cells1.1
      have o9 := cells1.2.1
      obtain ⟨a0, rfl, w0⟩ := int_of (c := c0) (by simpa [Value.cells, o] using hg 0 _ rfl) rfl
      obtain ⟨a1, rfl, w1⟩ := string_of (c := c1) (by simpa [Value.cells, o9] using hg 1 _ rfl) rfl
      obtain ⟨a2, rfl, w2⟩ := int_of (c := c2) (by simpa [Value.cells, o] using hg 2 _ rfl) rfl
      obtain ⟨a3, rfl, w3⟩ := int_of (c := c3) (by simpa [Value.cells, o] using hg 3 _ rfl) rfl
      exact ⟨⟨a0, a1, a2, a3⟩, rfl, w0, w1, w2, w3⟩

set_option maxRecDepth 100000 in
/-- A LIST OF RECORDS. -/
theorem open_recs {r : Reach} {b0 : Nat} {v : Value} {d : DataW H} {p : List MemPlace} (hv : Value.okWide Try.prog w r b0 47 v) (h : DataW.Trod enc Try.prog w base sp held 47 v d p) :
    ∃ (A : Option Addr) (c : Nat) (l : List Rc), v = .slice A l.length c ∧ l.length ≤ c ∧ c ≤ maxLen ∧ Kd.C kRc w A l.length l ∧ (∀ r ∈ l, inR r) ∧
      (d = .nil ∧ l = [] ∨ ∃ el rest, d = .slice el rest ∧ el.length = l.length) := by
  obtain ⟨A, len, cap, rfl⟩ := okWide_slice Try.underlying47 hv
  obtain ⟨fuel, hf⟩ := h
  rcases open_slice Try.underlying47 hf with ⟨hcs, hx⟩ | ⟨a, len', cap', m, n, D, Pl, hcs, _, hl, hm, hmm, hx, hi⟩
  · simp only [Value.cells, List.cons.injEq, Value.slice.injEq, and_true] at hcs
    obtain ⟨rfl, rfl, rfl⟩ := hcs
    simp only [Prod.mk.injEq] at hx
    exact ⟨none, 0, [], rfl, Nat.le_refl _, Nat.zero_le _, ⟨rfl, Nat.zero_le _, fun h => by simp at h⟩, by simp, .inl ⟨hx.1, rfl⟩⟩
  · simp only [Value.cells, List.cons.injEq, Value.slice.injEq, and_true] at hcs
    obtain ⟨rfl, rfl, rfl⟩ := hcs
    simp only [Prod.mk.injEq] at hx
    have hlm : len ≤ m := by rw [hmm]; split <;> omega
    have key : ∀ i, i < len → ∃ r : Rc, (∀ j u, [.int .i64 r.t, .string r.key, .int .i64 r.c, .int .i64 r.v][j]? = some u → w.cell? (a.add (i * 4 + j)) = some u) ∧ inR r := by
      intro i hil
      obtain ⟨cs', hc, ht⟩ := hi i (by omega)
      obtain ⟨r, rfl, hin⟩ := open_rec ht
      refine ⟨r, fun j u hj => ?_, hin⟩
      obtain ⟨_, _, hat⟩ := World.cells?_some hc
      rw [cells1.2.2.1] at hat
      have hjl : j < 4 := by
        have := (List.getElem?_eq_some_iff.1 hj).1
        simpa using this
      rw [← Go.Deep.add_add, hat j hjl]
      exact hj
    obtain ⟨f, hf⟩ : ∃ f : Nat → Rc, ∀ i, i < len → (∀ j u, [.int .i64 (f i).t, .string (f i).key, .int .i64 (f i).c, .int .i64 (f i).v][j]? = some u → w.cell? (a.add (i * 4 + j)) = some u) ∧ inR (f i) :=
      ⟨fun i => if h : i < len then Classical.choose (key i h) else zRc, fun i hil => by simp only [hil, dif_pos]; exact Classical.choose_spec (key i hil)⟩
    refine ⟨some a, cap, (List.range len).map f, by simp, by simpa using hl, hm, ⟨by simp, by simp only [List.length_map, List.length_range]; simp only [maxLen] at hm; omega, fun _ => ⟨a, rfl, fun j q hq => ?_⟩⟩, ?_, .inr ⟨_, _, hx.1, by simp⟩⟩
    · simp only [List.getElem?_map, Option.map_eq_some_iff] at hq
      obtain ⟨j', hj', rfl⟩ := hq
      obtain ⟨hlt, hjj⟩ := List.getElem?_eq_some_iff.1 hj'
      simp only [List.length_range] at hlt
      rw [List.getElem_range] at hjj
      subst hjj
      exact ⟨_, rfl, kRc_mk w (f j), (hf j hlt).1⟩
    · intro r hr
      obtain ⟨i, hi', rfl⟩ := List.mem_map.1 hr
      exact (hf i (by simpa using hi')).2
end
end Go.Proofs.Ytnodnpenlplleaa.Own
