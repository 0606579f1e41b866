/- LedgerRefused: whatever policy, calls, key and number are handed in: true; what was handed in reads as it did. No condition. -/
import Derived.Test.YtnodnpenlplleaaLedU
namespace Go.Proofs.Ytnodnpenlplleaa.Own
open Go.ChangeShapes Go.WideShapes Go.ChangeAt Go.RowKit Go.Proofs.YtnodnpenlplleaaW.PrintWords
set_option linter.unusedVariables false

set_option maxRecDepth 100000 in
theorem ledger_refused_lifted (os : Os) (started : os.Started) (H : Type) (enc : TypeId × Value → H) :
    ReturnsInHanded {} Try.checked os 3 .any (Rows.ledgerRefusedSpec.pre6 enc Try.prog Try.f3 Rows.ledgerRefusedRow.domain false) (Rows.ledgerRefusedSpec.post enc Try.prog Try.f3 false true false false) := by
  refine lift_true started (by kernel_rfl) Try.func3 rfl (by kernel_rfl) Try.underlying4 (by kernel_rfl) ?_
    (ChangeSpec.witness6 (enc := enc) (C := Try.checked) false ⟨#[], #[.agg #[.int .i64 0, .int .i64 0, .int .i64 0, .int .i64 0, .int .i64 0, .int .i64 0, .int .i64 0, .int .i64 0, .int .i64 0, .int .i64 0], .slice none 0 0, .string ⟨#[]⟩, .int .i64 0], []⟩ 8 (by kernel_rfl) (by kernel_rfl) (by kernel_rfl) (by kernel_rfl)) ?_
  · intro ds hds
    match ds, hds with
    | [d0, d1, d2, d3], _ => rfl
  · intro W base args ds p hval hA hwt
    rw [Try.params3] at hA hval hwt
    obtain ⟨v0, vs, d0, ds1, p0, q0, hargs, rfl, rfl, h0, hA⟩ := trodAll_cons hA
    obtain ⟨v1, vs, d1, ds1, p1, q1, rfl, rfl, rfl, h1, hA⟩ := trodAll_cons hA
    obtain ⟨v2, vs, d2, ds1, p2, q2, rfl, rfl, rfl, h2, hA⟩ := trodAll_cons hA
    obtain ⟨v3, vs, d3, ds1, p3, q3, rfl, rfl, rfl, h3, hA⟩ := trodAll_cons hA
    obtain ⟨rfl, rfl, rfl⟩ := trodAll_nil hA
    have hargs' : args = #[v0, v1, v2, v3] := by cases args; simpa using hargs
    subst hargs'
    obtain ⟨a0, a1, a2, a3, a4, a5, a6, a7, a8, a9, rfl, w0, w1, w2, w3, w4, w5, w6, w7, w8, w9⟩ := open_pol (hval 0 23 v0 rfl rfl) h0
    obtain ⟨A1, c1, l1, rfl, hc1, hcm1, hC1, hin1, hd1⟩ := open_ops (hval 1 24 v1 rfl rfl) h1
    obtain ⟨s2, rfl, _, _, hs2⟩ := Go.ChangeMaps.open_string Try.underlying9 (hval 2 9 v2 rfl rfl) h2
    obtain ⟨x3, rfl, _, _, wx3⟩ := open_int Try.underlying3 (hval 3 3 v3 rfl rfl) h3
    exact LedgerRefused_fn W ⟨a0, a1, a2, a3, a4, a5, a6, a7, a8, a9⟩ A1 c1 l1 s2 x3 hC1 (Nat.le_trans hc1 hcm1) (fun r hr => (hin1 r hr).2.2) hs2

theorem ledger_refused_row : Rows.LedgerRefusedSaid :=
  OpenClaim.holds_of_wide 3 Try.f3 rfl rfl rfl rfl rfl rfl rfl ⟨rfl, rfl, rfl, rfl, rfl⟩ rfl rfl rfl rfl rfl (by kernel_rfl) Try.func3 (by kernel_rfl)
    (of_decide_eq_true (by kernel_rfl)) (by unfold Func.isWrapper; first | (rw [if_pos (by decide +kernel)]; kernel_rfl) | (rw [if_neg (by decide +kernel)]; exact ⟨rfl, rfl⟩))
    (fun os started H enc _ => ledger_refused_lifted os started H enc)
end Go.Proofs.Ytnodnpenlplleaa.Own
namespace Go.Proofs.Ytnodnpenlplleaa
theorem ledger_refused : Rows.LedgerRefusedSaid := Own.ledger_refused_row
end Go.Proofs.Ytnodnpenlplleaa
