/- ExactFalls: the row, from the walk's contract and the plain law. -/
import Derived.Test.YtmlpahjmebfgbaaOpen
import Derived.Test.YtmlpahjmebfgbaaExFalls
namespace Go.Proofs.Ytmlpahjmebfgbaa.Own
open Go.ChangeShapes Go.WideShapes Go.ChangeAt Go.RowKit Go.Deep Go.Proofs.YtmlpahjmebfgbaaW.PrintWords Go.Proofs.Ytmlpahjmebfgbaa.PEx
set_option linter.unusedVariables false

def FallsPure : Prop := ∀ (a0 a1 a2 a3 a4 a5 a6 a7 a8 a9 : Int) (l : List S42) (key : ByteArray) (a b : Int), wf64 a0 → wf64 a1 → wf64 a2 → wf64 a3 → wf64 a4 → wf64 a5 → wf64 a6 → wf64 a7 → wf64 a8 → wf64 a9 →
  (∀ r ∈ l, inR r) → key.size ≤ maxLen → wf64 a → wf64 b → ∃ k, reevelaw16_ExactFalls.f k a0 a1 a2 a3 a4 a5 a6 a7 a8 a9 l key a b = some true

set_option maxRecDepth 100000 in
theorem falls_lifted (P : FallsPure) (os : Os) (started : os.Started) (H : Type) (enc : TypeId × Value → H) :
    ReturnsInHanded {} Try.checked os 7 .any (Rows.exactFallsSpec.pre6 enc Try.prog Try.f7 Rows.exactFallsRow.domain false) (Rows.exactFallsSpec.post enc Try.prog Try.f7 false true false false) := by
  refine lift_true started (by kernel_rfl) Try.func7 rfl (by kernel_rfl) Try.underlying4 (by kernel_rfl) ?_
    (ChangeSpec.witness6 (enc := enc) (C := Try.checked) false ⟨#[], #[.agg #[.int .i64 0, .int .i64 0, .int .i64 0, .int .i64 0, .int .i64 0, .int .i64 0, .int .i64 0, .int .i64 0, .int .i64 0, .int .i64 0], .slice none 0 0, .string ⟨#[]⟩, .int .i64 0, .int .i64 0], []⟩ 8 (by kernel_rfl) (by kernel_rfl) (by kernel_rfl) (by kernel_rfl)) ?_
  · intro ds hds
    match ds, hds with
    | [d0, d1, d2, d3, d4], _ => rfl
  · intro W base args ds p hval hA hwt
    rw [Try.params7] at hA hval hwt
    obtain ⟨v0, vs, d0, ds1, p0, q0, hargs, rfl, rfl, h0, hA⟩ := trodAll_cons hA
    obtain ⟨v1, vs, d1, ds1, p1, q1, rfl, rfl, rfl, h1, hA⟩ := trodAll_cons hA
    obtain ⟨v2, vs, d2, ds1, p2, q2, rfl, rfl, rfl, h2, hA⟩ := trodAll_cons hA
    obtain ⟨v3, vs, d3, ds1, p3, q3, rfl, rfl, rfl, h3, hA⟩ := trodAll_cons hA
    obtain ⟨v4, vs, d4, ds1, p4, q4, rfl, rfl, rfl, h4, hA⟩ := trodAll_cons hA
    obtain ⟨rfl, rfl, rfl⟩ := trodAll_nil hA
    have hargs' : args = #[v0, v1, v2, v3, v4] := by cases args; simpa using hargs
    subst hargs'
    obtain ⟨a0, a1, a2, a3, a4, a5, a6, a7, a8, a9, rfl, w0, w1, w2, w3, w4, w5, w6, w7, w8, w9⟩ := open_pol (hval 0 23 v0 rfl rfl) h0
    obtain ⟨A, c, l, rfl, hc, hcm, hC, hin, hd⟩ := open_recs (hval 1 24 v1 rfl rfl) h1
    obtain ⟨s, rfl, _, _, hs⟩ := Go.ChangeMaps.open_string Try.underlying9 (hval 2 9 v2 rfl rfl) h2
    obtain ⟨x, rfl, _, _, wx⟩ := open_int Try.underlying3 (hval 3 3 v3 rfl rfl) h3
    obtain ⟨y, rfl, _, _, wy⟩ := open_int Try.underlying3 (hval 4 3 v4 rfl rfl) h4
    obtain ⟨k, h⟩ := P a0 a1 a2 a3 a4 a5 a6 a7 a8 a9 l s x y w0 w1 w2 w3 w4 w5 w6 w7 w8 w9 hin hs wx wy
    exact reevelaw16_ExactFalls.calls k a0 a1 a2 a3 a4 a5 a6 a7 a8 a9 A c l s x y true W hC hc h

theorem falls_holds (P : FallsPure) : Rows.ExactFallsSaid :=
  OpenClaim.holds_of_wide 7 Try.f7 rfl rfl rfl rfl rfl rfl rfl ⟨rfl, rfl, rfl, rfl, rfl⟩ rfl rfl rfl rfl rfl (by kernel_rfl) Try.func7 (by kernel_rfl)
    (of_decide_eq_true (by kernel_rfl)) (by unfold Func.isWrapper; first | (rw [if_pos (by decide +kernel)]; kernel_rfl) | (rw [if_neg (by decide +kernel)]; exact ⟨rfl, rfl⟩))
    (fun os started H enc _ => falls_lifted P os started H enc)
end Go.Proofs.Ytmlpahjmebfgbaa.Own
