/- ExactStarts: whatever policy, list and number are handed in: true; what was handed in reads as it did. No condition. -/
import Derived.Test.YtmlpahjmebfgbaaOpen
import Derived.Test.YtmlpahjmebfgbaaExStarts
import Derived.Test.YtmlpahjmebfgbaaPureB
namespace Go.Proofs.Ytmlpahjmebfgbaa.Own
open Go.ChangeShapes Go.WideShapes Go.ChangeAt Go.RowKit Go.Proofs.YtmlpahjmebfgbaaW.PrintWords Go.Proofs.Ytmlpahjmebfgbaa.PEx
set_option linter.unusedVariables false
set_option linter.unusedSimpArgs false

def starts_pure : Prop := ∀ (a0 a1 a2 a3 a4 a5 a6 a7 a8 a9 : Int) (l : List S42) (x2 : Int), wf64 a0 → wf64 a1 → wf64 a2 → wf64 a3 → wf64 a4 → wf64 a5 → wf64 a6 → wf64 a7 → wf64 a8 → wf64 a9 → l.length * 40 ≤ 140737488351232 → (∀ r ∈ l, inR r) → wf64 x2 → ∃ k, reevelaw16_ExactStarts.f k a0 a1 a2 a3 a4 a5 a6 a7 a8 a9 l x2 = some true

set_option maxRecDepth 100000 in
theorem starts_lifted (P : starts_pure) (os : Os) (started : os.Started) (H : Type) (enc : TypeId × Value → H) :
    ReturnsInHanded {} Try.checked os 8 .any (Rows.exactStartsSpec.pre6 enc Try.prog Try.f8 Rows.exactStartsRow.domain false) (Rows.exactStartsSpec.post enc Try.prog Try.f8 false true false false) := by
  refine lift_true started (by kernel_rfl) Try.func8 rfl (by kernel_rfl) Try.underlying4 (by kernel_rfl) ?_
    (ChangeSpec.witness6 (enc := enc) (C := Try.checked) false ⟨#[], #[.agg #[.int .i64 0, .int .i64 0, .int .i64 0, .int .i64 0, .int .i64 0, .int .i64 0, .int .i64 0, .int .i64 0, .int .i64 0, .int .i64 0], .slice none 0 0, .int .i64 0], []⟩ 8 (by kernel_rfl) (by kernel_rfl) (by kernel_rfl) (by kernel_rfl)) ?_
  · intro ds hds
    match ds, hds with
    | [d0, d1, d2], _ => rfl
  · intro W base args ds p hval hA hwt
    rw [Try.params8] at hA hval hwt
    obtain ⟨v0, vs, d0, ds1, p0, q0, hargs, rfl, rfl, h0, hA⟩ := trodAll_cons hA
    obtain ⟨v1, vs, d1, ds1, p1, q1, rfl, rfl, rfl, h1, hA⟩ := trodAll_cons hA
    obtain ⟨v2, vs, d2, ds1, p2, q2, rfl, rfl, rfl, h2, hA⟩ := trodAll_cons hA
    obtain ⟨rfl, rfl, rfl⟩ := trodAll_nil hA
    have hargs' : args = #[v0, v1, v2] := by cases args; simpa using hargs
    subst hargs'
    obtain ⟨a0, a1, a2, a3, a4, a5, a6, a7, a8, a9, rfl, w0, w1, w2, w3, w4, w5, w6, w7, w8, w9⟩ := open_pol (hval 0 23 v0 rfl rfl) h0
    obtain ⟨A, c, l, rfl, hc, hcm, hC, hin, hd⟩ := open_recs (hval 1 24 v1 rfl rfl) h1
    have hsz : l.length * 40 ≤ 140737488351232 := by
      rcases hd with ⟨_, rfl⟩ | ⟨el, rest, rfl, hel⟩
      · simp
      · have := sized_slice hwt (j := 1) rfl rfl Try.underlying24
        rw [bytes42, hel] at this
        simp only [reachBytes] at this
        omega
    obtain ⟨x2, rfl, _, _, wx2⟩ := open_int Try.underlying3 (hval 2 3 v2 rfl rfl) h2
    obtain ⟨k, h⟩ := P a0 a1 a2 a3 a4 a5 a6 a7 a8 a9 l x2 w0 w1 w2 w3 w4 w5 w6 w7 w8 w9 hsz hin wx2
    exact reevelaw16_ExactStarts.calls k a0 a1 a2 a3 a4 a5 a6 a7 a8 a9 A c l x2 true W hC hc h

theorem starts_holds (P : starts_pure) : Rows.ExactStartsSaid :=
  OpenClaim.holds_of_wide 8 Try.f8 rfl rfl rfl rfl rfl rfl rfl ⟨rfl, rfl, rfl, rfl, rfl⟩ rfl rfl rfl rfl rfl (by kernel_rfl) Try.func8 (by kernel_rfl)
    (of_decide_eq_true (by kernel_rfl)) (by unfold Func.isWrapper; first | (rw [if_pos (by decide +kernel)]; kernel_rfl) | (rw [if_neg (by decide +kernel)]; exact ⟨rfl, rfl⟩))
    (fun os started H enc _ => starts_lifted P os started H enc)

theorem starts_true : starts_pure := by
  intro a0 a1 a2 a3 a4 a5 a6 a7 a8 a9 l cut _ _ _ _ _ _ _ _ _ _ hsz hin wc
  refine ⟨l.length + 2, ?_⟩
  unfold reevelaw16_ExactStarts.f
  rw [awake_true]
  simp only [Option.bind_some, if_true]
  have htrue : reevelaw16_ExactStarts.j0 (l.length + 2) l cut true true a0 a1 a2 a3 a4 a5 a6 a7 a8 a9 = some true := by simp [reevelaw16_ExactStarts.j0]
  by_cases h1 : (l.length : Int) > 200
  · rw [if_pos h1]; exact htrue
  rw [if_neg h1]
  by_cases h2 : cut < 0
  · rw [decide_eq_true h2]; exact htrue
  rw [decide_eq_false h2]
  unfold reevelaw16_ExactStarts.j0
  simp only [exact_Verdicts.f, Option.bind_some, if_false, Bool.false_eq_true]
  by_cases hz : rightX a0 a1 a2 a3 a4 a5 a6 a7 a8 a9 l = 0
  · have hg := right_good.1 hz
    have hv : VerdictsX a0 a1 a2 a3 a4 a5 a6 a7 a8 a9 l = (verdL a0 a1 a2 a3 a4 a5 a6 l, 0) := by rw [VerdictsX, if_pos hz]
    have hw : wrap64 ((l.length : Int) + 1) = (l.length : Int) + 1 := wrap64_small (by omega) (by omega)
    have hm : Int.tmod cut ((l.length : Int) + 1) = cut % ((l.length : Int) + 1) := Int.tmod_eq_emod_of_nonneg (by omega)
    rw [hv, hw, hm]
    have m0 : 0 ≤ cut % ((l.length : Int) + 1) := Int.emod_nonneg _ (by omega)
    have m1 : cut % ((l.length : Int) + 1) < (l.length : Int) + 1 := Int.emod_lt_of_pos _ (by omega)
    obtain ⟨j, hj⟩ : ∃ j : Nat, cut % ((l.length : Int) + 1) = (j : Int) := ⟨_, (Int.toNat_of_nonneg m0).symm⟩
    rw [hj] at m1 ⊢
    have hg2 : Good a0 a1 a2 a3 a4 a5 a6 a7 a8 a9 (l.take j) := good_sub hg (List.take_sublist _ _)
    have hv2 : VerdictsX a0 a1 a2 a3 a4 a5 a6 a7 a8 a9 (l.take j) = (verdL a0 a1 a2 a3 a4 a5 a6 (l.take j), 0) := by rw [VerdictsX, if_pos (right_good.2 hg2)]
    simp only [Int.toNat_natCast, hv2, verdL_length, if_true]
    rw [if_neg (by omega), if_pos (by omega), if_pos (by omega), if_pos (by simp; omega), if_pos (by omega), verdL_take]
    have hs : reevelaw16_sameInts.f (l.length + 1) ((verdL a0 a1 a2 a3 a4 a5 a6 l).take j) ((verdL a0 a1 a2 a3 a4 a5 a6 l).take j) = some true := by
      unfold reevelaw16_sameInts.f
      rw [if_pos rfl]
      have hl : ((verdL a0 a1 a2 a3 a4 a5 a6 l).take j).length ≤ l.length := by rw [List.length_take, verdL_length]; omega
      have := sameInts_self ((verdL a0 a1 a2 a3 a4 a5 a6 l).take j) (by omega) (l.length + 1) 0 (by omega) (Nat.zero_le _)
      simpa using this
    rw [hs]
    rfl
  · have hv : VerdictsX a0 a1 a2 a3 a4 a5 a6 a7 a8 a9 l = ([], rightX a0 a1 a2 a3 a4 a5 a6 a7 a8 a9 l) := by rw [VerdictsX, if_neg hz]
    rw [hv]
    simp [hz]

end Go.Proofs.Ytmlpahjmebfgbaa.Own
namespace Go.Proofs.Ytmlpahjmebfgbaa
theorem exact_starts : Rows.ExactStartsSaid := Own.starts_holds Own.starts_true
end Go.Proofs.Ytmlpahjmebfgbaa
