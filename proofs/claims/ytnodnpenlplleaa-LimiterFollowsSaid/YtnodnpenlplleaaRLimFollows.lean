/- LimiterFollows: whatever policy and records are handed in: true; what was handed in reads as it did. No condition. -/
import Derived.Test.YtnodnpenlplleaaLimW
namespace Go.Proofs.Ytnodnpenlplleaa.Own
open Go.ChangeShapes Go.WideShapes Go.ChangeAt Go.RowKit Go.Proofs.YtnodnpenlplleaaW.PrintWords
set_option linter.unusedVariables false

set_option maxRecDepth 100000 in
theorem limiter_follows_lifted (os : Os) (started : os.Started) (H : Type) (enc : TypeId × Value → H) :
    ReturnsInHanded {} Try.checked os 10 .any (Rows.limiterFollowsSpec.pre6 enc Try.prog Try.f10 Rows.limiterFollowsRow.domain false) (Rows.limiterFollowsSpec.post enc Try.prog Try.f10 false true false false) := by
  refine lift_true started (by kernel_rfl) Try.func10 rfl (by kernel_rfl) Try.underlying4 (by kernel_rfl) ?_
    (ChangeSpec.witness6 (enc := enc) (C := Try.checked) false ⟨#[], #[.agg #[.int .i64 0, .int .i64 0, .int .i64 0, .int .i64 0, .int .i64 0, .int .i64 0, .int .i64 0, .int .i64 0, .int .i64 0, .int .i64 0], .slice none 0 0], []⟩ 8 (by kernel_rfl) (by kernel_rfl) (by kernel_rfl) (by kernel_rfl)) ?_
  · intro ds hds
    match ds, hds with
    | [d0, d1], _ => rfl
  · intro W base args ds p hval hA hwt
    rw [Try.params10] at hA hval hwt
    obtain ⟨v0, vs, d0, ds1, p0, q0, hargs, rfl, rfl, h0, hA⟩ := trodAll_cons hA
    obtain ⟨v1, vs, d1, ds1, p1, q1, rfl, rfl, rfl, h1, hA⟩ := trodAll_cons hA
    obtain ⟨rfl, rfl, rfl⟩ := trodAll_nil hA
    have hargs' : args = #[v0, v1] := by cases args; simpa using hargs
    subst hargs'
    obtain ⟨a0, a1, a2, a3, a4, a5, a6, a7, a8, a9, rfl, w0, w1, w2, w3, w4, w5, w6, w7, w8, w9⟩ := open_pol (hval 0 23 v0 rfl rfl) h0
    obtain ⟨A1, c1, l1, rfl, hc1, hcm1, hC1, hin1, hd1⟩ := open_recs (hval 1 47 v1 rfl rfl) h1
    exact LimiterFollows_fn W ⟨a0, a1, a2, a3, a4, a5, a6, a7, a8, a9⟩ A1 c1 l1 hC1 (Nat.le_trans hc1 hcm1) (fun r hr => (hin1 r hr).2.1)

theorem limiter_follows_row : Rows.LimiterFollowsSaid :=
  OpenClaim.holds_of_wide 10 Try.f10 rfl rfl rfl rfl rfl rfl rfl ⟨rfl, rfl, rfl, rfl, rfl⟩ rfl rfl rfl rfl rfl (by kernel_rfl) Try.func10 (by kernel_rfl)
    (of_decide_eq_true (by kernel_rfl)) (by unfold Func.isWrapper; first | (rw [if_pos (by decide +kernel)]; kernel_rfl) | (rw [if_neg (by decide +kernel)]; exact ⟨rfl, rfl⟩))
    (fun os started H enc _ => limiter_follows_lifted os started H enc)
end Go.Proofs.Ytnodnpenlplleaa.Own
namespace Go.Proofs.Ytnodnpenlplleaa
theorem limiter_follows : Rows.LimiterFollowsSaid := Own.limiter_follows_row
end Go.Proofs.Ytnodnpenlplleaa
