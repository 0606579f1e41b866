/- ExactTells: whatever policy and list are handed in: true; what was handed in reads as it did. No condition. -/
import Derived.Test.YtmlpahjmebfgbaaUOpen
import Derived.Test.YtmlpahjmebfgbaaULaw
import Derived.Test.YtmlpahjmebfgbaaURTells
namespace Go.Proofs.Ytmlpahjmebfgbaa.Own
open Go.ChangeShapes Go.WideShapes Go.ChangeAt Go.RowKit Go.Deep Go.Proofs.YtmlpahjmebfgbaaW.PrintWords Go.Proofs.Ytmlpahjmebfgbaa.PEx
set_option linter.unusedVariables false

theorem open_cap {H : Type} {enc : TypeId × Value → H} {w : World} {base : Nat} {sp : Nat → Bool} {held : Bool} {A : Option Addr} {n c : Nat} {d : DataW H} {p : List MemPlace} (h : DataW.Trod enc Try.prog w base sp held 24 (.slice A n c) d p) : A = none → c = 0 := by
  obtain ⟨fuel, hf⟩ := h
  rcases open_slice Try.underlying24 hf with ⟨hcs, hx⟩ | ⟨a, len', cap', m, n, D, Pl, hcs, _, hl, hm, hmm, hx, hi⟩
  · simp only [Value.cells, List.cons.injEq, Value.slice.injEq, and_true] at hcs
    exact fun _ => hcs.2.2
  · simp only [Value.cells, List.cons.injEq, Value.slice.injEq, and_true] at hcs
    intro e
    rw [hcs.1] at e
    cases e

set_option maxRecDepth 100000 in
theorem tells_lifted (os : Os) (started : os.Started) (H : Type) (enc : TypeId × Value → H) :
    ReturnsInHanded {} Try.checked os 4 .any (Rows.exactTellsSpec.pre6 enc Try.prog Try.f4 Rows.exactTellsRow.domain false) (Rows.exactTellsSpec.post enc Try.prog Try.f4 false true false false) := by
  refine lift_true started (by kernel_rfl) Try.func4 rfl (by kernel_rfl) Try.underlying4 (by kernel_rfl) ?_
    (ChangeSpec.witness6 (enc := enc) (C := Try.checked) false ⟨#[], #[.agg #[.int .i64 0, .int .i64 0, .int .i64 0, .int .i64 0, .int .i64 0, .int .i64 0, .int .i64 0, .int .i64 0, .int .i64 0, .int .i64 0], .slice none 0 0], []⟩ 8 (by kernel_rfl) (by kernel_rfl) (by kernel_rfl) (by kernel_rfl)) ?_
  · intro ds hds
    match ds, hds with
    | [d0, d1], _ => rfl
  · intro W base args ds p hval hA hwt
    rw [Try.params4] at hA hval hwt
    obtain ⟨v0, vs, d0, ds1, p0, q0, hargs, rfl, rfl, h0, hA⟩ := trodAll_cons hA
    obtain ⟨v1, vs, d1, ds1, p1, q1, rfl, rfl, rfl, h1, hA⟩ := trodAll_cons hA
    obtain ⟨rfl, rfl, rfl⟩ := trodAll_nil hA
    have hargs' : args = #[v0, v1] := by cases args; simpa using hargs
    subst hargs'
    obtain ⟨a0, a1, a2, a3, a4, a5, a6, a7, a8, a9, rfl, w0, w1, w2, w3, w4, w5, w6, w7, w8, w9⟩ := open_pol (hval 0 23 v0 rfl rfl) h0
    obtain ⟨A, c, l, rfl, hc, hcm, hC, hin, hd⟩ := open_recs (hval 1 24 v1 rfl rfl) h1
    have hcap := open_cap h1
    have hsz : l.length * 40 ≤ 140737488351232 := by
      rcases hd with ⟨_, rfl⟩ | ⟨el, rest, rfl, hel⟩
      · simp
      · have := sized_slice hwt (j := 1) rfl rfl Try.underlying24
        rw [bytes42, hel] at this
        simp only [reachBytes] at this
        omega
    exact Tells_fn a0 a1 a2 a3 a4 a5 a6 a7 a8 a9 A c l W hC hc hcap hsz

theorem exact_tells : Rows.ExactTellsSaid :=
  OpenClaim.holds_of_wide 4 Try.f4 rfl rfl rfl rfl rfl rfl rfl ⟨rfl, rfl, rfl, rfl, rfl⟩ rfl rfl rfl rfl rfl (by kernel_rfl) Try.func4 (by kernel_rfl)
    (of_decide_eq_true (by kernel_rfl)) (by unfold Func.isWrapper; first | (rw [if_pos (by decide +kernel)]; kernel_rfl) | (rw [if_neg (by decide +kernel)]; exact ⟨rfl, rfl⟩))
    (fun os started H enc _ => tells_lifted os started H enc)
end Go.Proofs.Ytmlpahjmebfgbaa.Own
namespace Go.Proofs.Ytmlpahjmebfgbaa
theorem exact_tells : Rows.ExactTellsSaid := Own.exact_tells
#print axioms exact_tells
end Go.Proofs.Ytmlpahjmebfgbaa
