/- Lemmas for a claim of this seat: texts of this session and of the kit's print, without what this claim does not use. -/
import Derived.Test.YtmlpahjmebfgbaaURgt
import Derived.Test.YtmlpahjmebfgbaaUOwedW
import Derived.Maps.Own
import Derived.Maps.OwnSet
import Derived.Maps.OwnIn
import Derived.Maps.Ext
import Derived.Maps.AppendAt
namespace Go.Proofs.Ytmlpahjmebfgbaa.Own
open Go.RowKit Go.Proofs.YtmlpahjmebfgbaaW.PrintWords Go.Proofs.YtmlpahjmebfgbaaW.PrintLast Go.Proofs.YtmlpahjmebfgbaaW.PrintMore Go.Proofs.Ytmlpahjmebfgbaa.PEx
open Go.Maps (Keyed)
set_option linter.unusedVariables false
set_option linter.unusedSimpArgs false

abbrev rawR : Value → Option (DataW Value × List MemPlace) := fun v => some (.held v, [])
/-- What a key took, in a list. -/
def own (key : ByteArray) (xs : List S42) : List S42 := xs.filter (fun r => decide (r.f1 = key) && decide (r.f3 = 1))
theorem own_snoc (key : ByteArray) (xs : List S42) (r : S42) : own key (xs ++ [r]) = if r.f1 = key ∧ r.f3 = 1 then own key xs ++ [r] else own key xs := by
  unfold own
  rw [List.filter_append]
  by_cases h1 : r.f1 = key <;> by_cases h2 : r.f3 = 1 <;> simp [h1, h2]
theorem own_length (key : ByteArray) (xs : List S42) : (own key xs).length ≤ xs.length := List.length_filter_le _ _
theorem own_mem {key : ByteArray} {xs : List S42} {r : S42} (h : r ∈ own key xs) : r ∈ xs ∧ r.f1 = key ∧ r.f3 = 1 := by
  simpa [own] using h

abbrev lk (key : ByteArray) : Lit := .string key.data.toList
theorem lk_inj {a b : ByteArray} (h : lk a = lk b) : a = b := by
  have : a.data.toList = b.data.toList := by simpa [lk] using h
  cases a; cases b; simp at this; simp [this]

/-- A key's row, as the map holds it. -/
def Row (w : World) (v : Value) (l : List S42) : Prop := ∃ A c, v = .slice A l.length c ∧ l.length ≤ c ∧ (l = [] → A = none ∧ c = 0) ∧ Kd.C k42 w A l.length l ∧ ∀ ad, A = some ad → ∃ cur, w.heap[ad.block]? = some (.cells cur 42 (0, 0))

def BookD (w : World) (D : DataW Value) (xs : List S42) : Prop :=
  ∀ key, Maps.has D (lk key) = decide (own key xs ≠ []) ∧ ∃ v, D.atKey (lk key) (.held (.slice none 0 0)) = .held v ∧ Row w v (own key xs)

/-- Block b of w is the book of a list. -/
def Book (w : World) (b : Nat) (xs : List S42) : Prop := ∃ D n, w.ownsMap Try.prog 9 rawR b n D ∧ n ≤ xs.length ∧ BookD w D xs

theorem k42_any {W W' : World} {x : S42} {cs : List Value} (h : k42.K W x cs) : k42.K W' x cs := by rw [k42_open h]; exact k42_mk _ _
theorem Book.lt {w : World} {b : Nat} {xs : List S42} (h : Book w b xs) : b < w.heap.size := by
  obtain ⟨D, n, h, _⟩ := h
  exact h.lt
theorem Row.below {w w' : World} {v : Value} {l : List S42} (h : Row w v l) (hb : Below w.heap.size w w') : Row w' v l := by
  obtain ⟨A, c, e, h1, h2, h3, h4⟩ := h
  refine ⟨A, c, e, h1, h2, Kd.C_below h3 hb, fun ad eA => ?_⟩
  obtain ⟨cur, hcur⟩ := h4 ad eA
  exact ⟨cur, (hb.block _ (Array.getElem?_eq_some_iff.1 hcur).1).trans hcur⟩
theorem below_grown {w w' : World} (hb : Below w.heap.size w w') (row : Option Nat) : w.grownBy w' row := ⟨hb.os, hb.tape, hb.output, hb.size, fun i hi _ => hb.block i hi⟩
theorem Book.below {w w' : World} {b : Nat} {xs : List S42} (h : Book w b xs) (hb : Below w.heap.size w w') : Book w' b xs := by
  obtain ⟨D, n, h1, h2, h3⟩ := h
  refine ⟨D, n, h1.kept (below_grown hb none) (by simp), h2, fun key => ⟨(h3 key).1, ?_⟩⟩
  obtain ⟨v, e, hr⟩ := (h3 key).2
  exact ⟨v, e, hr.below hb⟩
theorem book_map {w : World} {b : Nat} {n : Nat} {D : DataW Value} (h : w.ownsMap Try.prog 9 rawR b n D) : ∃ es clock, w.heap[b]? = some (.map es clock) := by
  obtain ⟨es, clock, h, _⟩ := h
  exact ⟨es, clock, h⟩
/-- A block that is no row of records has turned. -/
theorem Row.grown {w w' : World} {g : Nat} {v : Value} {l : List S42} (h : Row w v l) (hg : w.grownBy w' (some g)) (hne : ∀ k cur, w.heap[k]? = some (.cells cur 42 (0, 0)) → k ≠ g) : Row w' v l := by
  obtain ⟨A, c, e, h1, h2, h3, h4⟩ := h
  refine ⟨A, c, e, h1, h2, ?_, fun ad eA => ?_⟩
  · refine Kd.C_foot_ne (g := g) (fun hK => k42_any hK) h3 (fun ad eA h0 => ?_) w' ⟨hg.size, fun i hi hib _ => hg.block i hi (by simpa using hib)⟩
    obtain ⟨cur, hcur⟩ := h4 ad eA
    exact hne _ cur hcur
  · obtain ⟨cur, hcur⟩ := h4 ad eA
    exact ⟨cur, (hg.block _ (Array.getElem?_eq_some_iff.1 hcur).1 (fun e => hne _ cur hcur (by injection e))).trans hcur⟩
theorem Row.turned {w w' : World} {b : Nat} {v : Value} {l : List S42} {es : Array MapEntry} {clock : Nat} (hm : w.heap[b]? = some (.map es clock)) (h : Row w v l) (hg : w.grownBy w' (some b)) : Row w' v l := by
  exact h.grown hg (fun k cur hk hkb => by
    subst hkb
    rw [hm] at hk
    cases hk)

theorem book_made (w : World) : Book (w.alloc (.map #[] 0)) w.heap.size [] := by
  refine ⟨_, 0, World.ownsMap_made w Try.prog 9 rawR, Nat.le_refl _, fun key => ⟨by simp [own, Maps.has], .slice none 0 0, rfl, none, 0, rfl, Nat.le_refl _, fun _ => ⟨rfl, rfl⟩, ?_⟩⟩
  exact ⟨⟨rfl, by simp [own], fun h => by simp [own] at h⟩, fun ad eA => by cases eA⟩

/-- A row of whole numbers has turned. -/
theorem Book.grown {w w' : World} {b g : Nat} {xs : List S42} (h : Book w b xs) (hg : w.grownBy w' (some g)) {cells : Array Value} {t : TypeId} (hb : w.heap[g]? = some (.cells cells t (0, 0))) (ht : t ≠ 42) : Book w' b xs := by
  obtain ⟨D, n, h1, h2, h3⟩ := h
  obtain ⟨es, clock, hm⟩ := book_map h1
  refine ⟨D, n, h1.kept hg (fun e => by injection e with e; subst e; rw [hm] at hb; cases hb), h2, fun key => ⟨(h3 key).1, ?_⟩⟩
  obtain ⟨v, e, hr⟩ := (h3 key).2
  exact ⟨v, e, hr.grown hg (fun k cur hk hkg => by
    subst hkg
    rw [hb] at hk
    injection hk with hk
    injection hk with h1 h2
    exact ht h2)⟩

/-- What 'append(old[:len(old):len(old)], r)' gives. -/
theorem append_row {w : World} {A : Option Addr} {l : List S42} {x : S42} (hC : Kd.C k42 w A l.length l) (hnil : l = [] → A = none) (hl : l.length ≤ 10000) (a : Addr)
    (hnews : ∀ j u, [.int .i64 x.f0, .string x.f1, .int .i64 x.f2, .int .i64 x.f3][j]? = some u → w.cell? (a.add j) = some u) :
    ∃ v' w', (Builtin.append_ #[63, 63] 63 #[.slice A l.length l.length, .slice (some a) 1 1]).run Try.prog w = .ok v' w' ∧ Row w' v' (l ++ [x]) ∧ Below w.heap.size w w' := by
  obtain ⟨i, hi, hz, hsz, hby⟩ : ∃ i, Try.prog.info? 42 = some i ∧ i.zero = some (.agg #[.int .i64 0, .string ⟨#[]⟩, .int .i64 0, .int .i64 0]) ∧ i.size = 4 ∧ i.bytes = 40 := by
    have h := info42
    cases e : Try.prog.info? 42 with
    | none => rw [e] at h; cases h
    | some i => rw [e] at h; simp only [Option.map_some, Option.some.injEq, Prod.mk.injEq] at h; exact ⟨i, rfl, h.1, h.2.1, h.2.2⟩
  have ht : Try.prog.underlying 63 = some (.slice 42) := Try.underlying63
  obtain ⟨inner, hR, hcells⟩ : ∃ inner, Reps (k42.K w) 4 l inner ∧ ∀ ad, A = some ad → ∀ j u, inner[j]? = some u → w.cell? (ad.add j) = some u := by
    cases A with
    | some ad =>
      obtain ⟨inner, h1, h2⟩ := ReadsRow.inner_ hC
      exact ⟨inner, h1, fun _ e => by cases e; exact h2⟩
    | none =>
      have : l = [] := by
        rcases Nat.eq_zero_or_pos l.length with h | h
        · exact List.eq_nil_of_length_eq_zero h
        · obtain ⟨ad, e, _⟩ := hC.2.2 h; cases e
      subst this
      exact ⟨[], Reps.none _ _, fun ad e => by cases e⟩
  have hil : inner.length = l.length * 4 := hR.1
  have hR2 := hR.snoc (p := x) (c := [.int .i64 x.f0, .string x.f1, .int .i64 x.f2, .int .i64 x.f3]) (k42_mk w x) rfl
  have key : ∀ cap, l.length + 1 ≤ cap → cap ≤ maxLen →
      Row (w.drew.alloc (.cells (inner.toArray ++ [Value.int .i64 x.f0, .string x.f1, .int .i64 x.f2, .int .i64 x.f3].toArray ++ Builtin.zeroCells (Value.agg #[.int .i64 0, .string ⟨#[]⟩, .int .i64 0, .int .i64 0]).cells (cap - (l.length + 1))) 42)) (.slice (some ⟨w.heap.size, 0, none⟩) (l.length + 1) cap) (l ++ [x]) := by
    intro cap h1 h2
    have hown : (w.drew.alloc (.cells (inner.toArray ++ [Value.int .i64 x.f0, .string x.f1, .int .i64 x.f2, .int .i64 x.f3].toArray ++ Builtin.zeroCells (Value.agg #[.int .i64 0, .string ⟨#[]⟩, .int .i64 0, .int .i64 0]).cells (cap - (l.length + 1))) 42)).ownsRow 0 42 4 (.slice (some ⟨w.heap.size, 0, none⟩) (l.length + 1) cap) (l.length + 1) (inner ++ [.int .i64 x.f0, .string x.f1, .int .i64 x.f2, .int .i64 x.f3]) := by
      refine ⟨by simp [hil]; omega, .inr ⟨w.heap.size, cap, _, rfl, Nat.zero_le _, heap_alloc_new w.drew _, h1, h2, ?_, ?_⟩⟩
      · simp only [Array.size_append, List.size_toArray, size_zeroCells, hil]
        simp [Value.cells]
        omega
      · simp only [Array.toList_append, List.append_assoc]
        rw [← List.append_assoc, show (l.length + 1) * 4 = (inner ++ [Value.int .i64 x.f0, .string x.f1, .int .i64 x.f2, .int .i64 x.f3]).length from by simp [hil]; omega]
        exact List.take_left
    obtain ⟨A', c', e, hrr⟩ := own_reads_row hown (hR2.imp_ (R' := k42.K (w.drew.alloc (.cells (inner.toArray ++ [Value.int .i64 x.f0, .string x.f1, .int .i64 x.f2, .int .i64 x.f3].toArray ++ Builtin.zeroCells (Value.agg #[.int .i64 0, .string ⟨#[]⟩, .int .i64 0, .int .i64 0]).cells (cap - (l.length + 1))) 42))) (fun _ _ h => k42_any h)) (by simp)
    cases e
    refine ⟨_, _, by rw [List.length_append]; rfl, by simpa using h1, fun h => by simp at h, ?_, fun ad eA => ?_⟩
    · rw [List.length_append]; exact hrr
    · cases eA
      exact ⟨_, heap_alloc_new w.drew _⟩
  have hb : ∀ o, Below w.heap.size w (w.drew.alloc o) := fun o => ((Below.refl _ w).drew).alloc (Nat.le_refl _) o
  cases A with
  | none =>
    have : l = [] := by
      rcases Nat.eq_zero_or_pos l.length with h | h
      · exact List.eq_nil_of_length_eq_zero h
      · obtain ⟨ad, e, _⟩ := hC.2.2 h; cases e
    subst this
    have hin : inner = [] := List.eq_nil_of_length_eq_zero (by simpa using hil)
    subst hin
    have hr := run_append_nil (P := Try.prog) w 63 63 42 i _ ht hi hz a 1 1 _ (by rw [hsz]; rfl) hnews (by omega) (by omega) (by rw [hby]; omega)
    refine ⟨_, _, hr, ?_, hb _⟩
    have := key (grownCap w 1 0 42) (grownCap_ge w 1 0 42) (grownCap_le_maxLen w 1 0 42 (by simp [maxLen]))
    simpa using this
  | some ad =>
    have hr := run_append_grow (P := Try.prog) w 63 63 42 i _ ht hi hz ad l.length l.length inner (by rw [hsz]; exact hil) (hcells ad rfl) a 1 1 _ (by rw [hsz]; rfl) hnews (by omega) (by omega) (growslice_fits (by omega) (by rw [hby]; omega))
    refine ⟨_, _, hr, ?_, hb _⟩
    exact key (grownCap w (l.length + 1) l.length 42) (grownCap_ge w (l.length + 1) l.length 42) (grownCap_le_maxLen w (l.length + 1) l.length 42 (by simp [maxLen]; omega))

/-- A record more in the book. -/
theorem Book.put {w w' : World} {b n : Nat} {xs : List S42} {D : DataW Value} {r : S42} {v' : Value} {es : Array MapEntry} {clock : Nat} (hm : w.heap[b]? = some (.map es clock)) (hD : BookD w D xs) (hf : r.f3 = 1)
    (hI : Maps.IsMap D) (hrow : Row w v' (own r.f1 xs ++ [r])) (hg : w.grownBy w' (some b)) : BookD w' (D.put (lk r.f1) (.held v')) (xs ++ [r]) := by
  intro key
  by_cases hk : r.f1 = key
  · subst hk
    rw [own_snoc, if_pos ⟨rfl, hf⟩]
    have hkl : WideAt.IsKeyLit (lk r.f1) := trivial
    exact ⟨by rw [Maps.has_put_same hI hkl]; simp, v', Maps.atKey_put_same hI hkl _ _, hrow.turned hm hg⟩
  · rw [own_snoc, if_neg (by simp [hk])]
    have hne : lk key ≠ lk r.f1 := fun e => hk (lk_inj e).symm
    obtain ⟨v, e, hr⟩ := (hD key).2
    exact ⟨by rw [Maps.has_put_other hne]; exact (hD key).1, v, by rw [Maps.atKey_put_other hne]; exact e, hr.turned hm hg⟩

end Go.Proofs.Ytmlpahjmebfgbaa.Own
