/- ExactBounds: whatever policy and list are handed in: true; what was handed in reads as it did. No condition. -/
import Derived.Test.YtmlpahjmebfgbaaOpen
import Derived.Test.YtmlpahjmebfgbaaExBounds
import Derived.Test.YtmlpahjmebfgbaaPureC
namespace Go.Proofs.Ytmlpahjmebfgbaa.Own
open Go.ChangeShapes Go.WideShapes Go.ChangeAt Go.RowKit Go.Proofs.YtmlpahjmebfgbaaW.PrintWords Go.Proofs.Ytmlpahjmebfgbaa.PEx
set_option linter.unusedVariables false
set_option linter.unusedSimpArgs false

def bounds_pure : Prop := ∀ (a0 a1 a2 a3 a4 a5 a6 a7 a8 a9 : Int) (l : List S42), wf64 a0 → wf64 a1 → wf64 a2 → wf64 a3 → wf64 a4 → wf64 a5 → wf64 a6 → wf64 a7 → wf64 a8 → wf64 a9 → l.length * 40 ≤ 140737488351232 → (∀ r ∈ l, inR r) → ∃ k, reevelaw16_ExactBounds.f k a0 a1 a2 a3 a4 a5 a6 a7 a8 a9 l = some true

set_option maxRecDepth 100000 in
theorem bounds_lifted (P : bounds_pure) (os : Os) (started : os.Started) (H : Type) (enc : TypeId × Value → H) :
    ReturnsInHanded {} Try.checked os 5 .any (Rows.exactBoundsSpec.pre6 enc Try.prog Try.f5 Rows.exactBoundsRow.domain false) (Rows.exactBoundsSpec.post enc Try.prog Try.f5 false true false false) := by
  refine lift_true started (by kernel_rfl) Try.func5 rfl (by kernel_rfl) Try.underlying4 (by kernel_rfl) ?_
    (ChangeSpec.witness6 (enc := enc) (C := Try.checked) false ⟨#[], #[.agg #[.int .i64 0, .int .i64 0, .int .i64 0, .int .i64 0, .int .i64 0, .int .i64 0, .int .i64 0, .int .i64 0, .int .i64 0, .int .i64 0], .slice none 0 0], []⟩ 8 (by kernel_rfl) (by kernel_rfl) (by kernel_rfl) (by kernel_rfl)) ?_
  · intro ds hds
    match ds, hds with
    | [d0, d1], _ => rfl
  · intro W base args ds p hval hA hwt
    rw [Try.params5] at hA hval hwt
    obtain ⟨v0, vs, d0, ds1, p0, q0, hargs, rfl, rfl, h0, hA⟩ := trodAll_cons hA
    obtain ⟨v1, vs, d1, ds1, p1, q1, rfl, rfl, rfl, h1, hA⟩ := trodAll_cons hA
    obtain ⟨rfl, rfl, rfl⟩ := trodAll_nil hA
    have hargs' : args = #[v0, v1] := by cases args; simpa using hargs
    subst hargs'
    obtain ⟨a0, a1, a2, a3, a4, a5, a6, a7, a8, a9, rfl, w0, w1, w2, w3, w4, w5, w6, w7, w8, w9⟩ := open_pol (hval 0 23 v0 rfl rfl) h0
    obtain ⟨A, c, l, rfl, hc, hcm, hC, hin, hd⟩ := open_recs (hval 1 24 v1 rfl rfl) h1
    have hsz : l.length * 40 ≤ 140737488351232 := by
      rcases hd with ⟨_, rfl⟩ | ⟨el, rest, rfl, hel⟩
      · simp
      · have := sized_slice hwt (j := 1) rfl rfl Try.underlying24
        rw [bytes42, hel] at this
        simp only [reachBytes] at this
        omega
    obtain ⟨k, h⟩ := P a0 a1 a2 a3 a4 a5 a6 a7 a8 a9 l w0 w1 w2 w3 w4 w5 w6 w7 w8 w9 hsz hin
    exact reevelaw16_ExactBounds.calls k a0 a1 a2 a3 a4 a5 a6 a7 a8 a9 A c l true W hC hc h

theorem bounds_holds (P : bounds_pure) : Rows.ExactBoundsSaid :=
  OpenClaim.holds_of_wide 5 Try.f5 rfl rfl rfl rfl rfl rfl rfl ⟨rfl, rfl, rfl, rfl, rfl⟩ rfl rfl rfl rfl rfl (by kernel_rfl) Try.func5 (by kernel_rfl)
    (of_decide_eq_true (by kernel_rfl)) (by unfold Func.isWrapper; first | (rw [if_pos (by decide +kernel)]; kernel_rfl) | (rw [if_neg (by decide +kernel)]; exact ⟨rfl, rfl⟩))
    (fun os started H enc _ => bounds_lifted P os started H enc)

section
variable (a0 a1 a2 a3 a4 a5 a6 a7 a8 a9 : Int) (l : List S42)
abbrev bl0 (k : Nat) (i : Int) : Option Bool := reevelaw16_ExactBounds.l0 k l (verdL a0 a1 a2 a3 a4 a5 a6 l) i a0 a1 a2 a3 a4 a5 a6 a7 a8 a9
abbrev bl1 (k : Nat) (i s j : Int) : Option Bool := reevelaw16_ExactBounds.l1 k l (verdL a0 a1 a2 a3 a4 a5 a6 l) i s j a0 a1 a2 a3 a4 a5 a6 a7 a8 a9
abbrev segS (i j : Nat) : List S42 := own (rd_T42 l (i : Int)).f1 (((runV a0 a1 a2 a3 a4 a5 a6 l).take j).drop i)

theorem seg_bound (hg : Good a0 a1 a2 a3 a4 a5 a6 a7 a8 a9 l) (i j : Nat) : 0 ≤ sumW (segS a0 a1 a2 a3 a4 a5 a6 l i j) ∧ sumW (segS a0 a1 a2 a3 a4 a5 a6 l i j) ≤ 10485760000 := by
  have hok := runV_ok a0 a1 a2 a3 a4 a5 a6 l (good_recs hg)
  have h := sumW_bound (segS a0 a1 a2 a3 a4 a5 a6 l i j) (fun r hr => (hok r (List.mem_of_mem_take (List.mem_of_mem_drop (own_mem hr).1))).1)
  have h1 : (segS a0 a1 a2 a3 a4 a5 a6 l i j).length ≤ l.length := by
    refine Nat.le_trans (own_length _ _) ?_
    rw [List.length_drop, List.length_take, runV_length]
    omega
  have := hg.len
  omega

theorem bounds_l1 (hg : Good a0 a1 a2 a3 a4 a5 a6 a7 a8 a9 l) {i : Nat} (hi : i < l.length) (hnext : ∃ k, bl0 a0 a1 a2 a3 a4 a5 a6 a7 a8 a9 l k ((i + 1 : Nat) : Int) = some true) :
    ∀ (m j : Nat), l.length - j = m → i ≤ j → j ≤ l.length → ∃ k, bl1 a0 a1 a2 a3 a4 a5 a6 a7 a8 a9 l k (i : Int) (sumW (segS a0 a1 a2 a3 a4 a5 a6 l i j)) (j : Int) = some true := by
  have hll := hg.len
  have hp := (pol_ok hg.pol).1
  obtain ⟨hcap1, hcap2⟩ : 1 ≤ a1 ∧ a1 ≤ 1048576 := ⟨(pol_ok hg.pol).2.1, (pol_ok hg.pol).2.2.1⟩
  intro m
  induction m with
  | zero =>
    intro j hm hij hj
    obtain ⟨k, hk⟩ := hnext
    refine ⟨k + 1, ?_⟩
    unfold bl1 reevelaw16_ExactBounds.l1
    rw [if_neg (by omega), wrap_succ hi hll]
    exact hk
  | succ m ih =>
    intro j hm hij hj
    have hlt : j < l.length := by omega
    obtain ⟨k, hk⟩ := ih (j + 1) (by omega) (by omega) (by omega)
    have hRl := runV_length a0 a1 a2 a3 a4 a5 a6 l
    have hRj := runV_rd a0 a1 a2 a3 a4 a5 a6 l hlt
    have hstep := seg_step (key := (rd_T42 l (i : Int)).f1) (R := runV a0 a1 a2 a3 a4 a5 a6 l) hij (by omega)
    have f1j : (rd_T42 (runV a0 a1 a2 a3 a4 a5 a6 l) (j : Int)).f1 = (rd_T42 l (j : Int)).f1 := by rw [hRj]; rfl
    have f2j : (rd_T42 (runV a0 a1 a2 a3 a4 a5 a6 l) (j : Int)).f2 = (rd_T42 l (j : Int)).f2 := by rw [hRj]; rfl
    have hv := verdL_rd a0 a1 a2 a3 a4 a5 a6 l hlt
    rw [f1j] at hstep
    have hskip : ¬ ((rd_T42 l (j : Int)).f1 = (rd_T42 l (i : Int)).f1 ∧ (rd_T42 (runV a0 a1 a2 a3 a4 a5 a6 l) (j : Int)).f3 = 1) →
        ∃ k, reevelaw16_ExactBounds.j3 k l (verdL a0 a1 a2 a3 a4 a5 a6 l) (i : Int) (sumW (segS a0 a1 a2 a3 a4 a5 a6 l i j)) (j : Int) true a0 a1 a2 a3 a4 a5 a6 a7 a8 a9 = some true := fun hn => by
      rw [if_neg hn] at hstep
      refine ⟨k + 1, ?_⟩
      unfold reevelaw16_ExactBounds.j3
      rw [if_pos rfl, wrap_succ hlt hll]
      have : segS a0 a1 a2 a3 a4 a5 a6 l i (j + 1) = segS a0 a1 a2 a3 a4 a5 a6 l i j := hstep
      rw [bl1, this] at hk
      exact hk
    by_cases hkey : (rd_T42 l (j : Int)).f1 = (rd_T42 l (i : Int)).f1
    · by_cases hone : (rd_T42 (runV a0 a1 a2 a3 a4 a5 a6 l) (j : Int)).f3 = 1
      · rw [if_pos ⟨hkey, hone⟩] at hstep
        have hsum : sumW (segS a0 a1 a2 a3 a4 a5 a6 l i (j + 1)) = sumW (segS a0 a1 a2 a3 a4 a5 a6 l i j) + (rd_T42 l (j : Int)).f2 := by
          rw [show segS a0 a1 a2 a3 a4 a5 a6 l i (j + 1) = _ from hstep, sumW_snoc, f2j]
        have hb1 := seg_bound a0 a1 a2 a3 a4 a5 a6 a7 a8 a9 l hg i (j + 1)
        have hroom := allow_room hg hij hlt hkey hone
        have hrj := good_okR hg _ (rd_mem hlt)
        have hri := good_okR hg _ (rd_mem hi)
        have hbne : (rd (verdL a0 a1 a2 a3 a4 a5 a6 l) (j : Int) != 1) = false := by rw [hv, hone]; rfl
        have hgo : ∃ k, reevelaw16_ExactBounds.j3 k l (verdL a0 a1 a2 a3 a4 a5 a6 l) (i : Int) (sumW (segS a0 a1 a2 a3 a4 a5 a6 l i j)) (j : Int) false a0 a1 a2 a3 a4 a5 a6 a7 a8 a9 = some true := by
          have hws : wrap64 (sumW (segS a0 a1 a2 a3 a4 a5 a6 l i j) + (rd_T42 l (j : Int)).f2) = sumW (segS a0 a1 a2 a3 a4 a5 a6 l i (j + 1)) := by rw [hsum, wrap64_small (by omega) (by omega)]
          rcases hp with ⟨rfl, n1, n2, d1, d2⟩ | ⟨rfl, w1, w2, c1, c2⟩
          · refine ⟨k + 3, ?_⟩
            unfold reevelaw16_ExactBounds.j3
            simp only [Bool.false_eq_true, if_false, show ¬ ((1 : Int) = 2) from by decide]
            unfold reevelaw16_ExactBounds.j4
            simp only [Bool.false_eq_true, if_false, if_true]
            rw [if_pos (by omega), if_pos (by omega), if_pos (by omega), if_pos (by omega), hws]
            have m1 := mul_le_of (a := sumW (segS 1 a1 a2 a3 a4 a5 a6 l i (j + 1))) (b := a3) (A := 10485760000) (B := 65536) hb1.1 hb1.2 (by omega) d2
            have m2 := mul_le_of (a := a1) (b := a3) (A := 1048576) (B := 65536) (by omega) hcap2 (by omega) d2
            have hti : (rd_T42 l (i : Int)).f0 ≤ (rd_T42 l (j : Int)).f0 := by
              rcases Nat.lt_or_ge i j with h | h
              · have := before_le hg.sorted hlt (rd_T42 l (i : Int)) (by
                  have e : rd_T42 l (i : Int) = rd_T42 (l.take j) (i : Int) := by
                    unfold rd_T42
                    rw [Int.toNat_natCast, List.getD_eq_getElem?_getD, List.getD_eq_getElem?_getD, List.getElem?_take_of_lt h]
                  rw [e]; exact rd_mem (by simp; omega))
                exact this
              · have : i = j := by omega
                subst this; exact Int.le_refl _
            have m3 := mul_le_of (a := (rd_T42 l (j : Int)).f0 - (rd_T42 l (i : Int)).f0) (b := a2) (A := 1099511627776) (B := 65536) (by omega) (by have := hrj.2.1; have := hri.1; omega) (by omega) n2
            have hr : sumW (segS 1 a1 a2 a3 a4 a5 a6 l i (j + 1)) * a3 ≤ a1 * a3 + ((rd_T42 l (j : Int)).f0 - (rd_T42 l (i : Int)).f0) * a2 := hroom.1 rfl
            have hfalse : decide (wrap64 (sumW (segS 1 a1 a2 a3 a4 a5 a6 l i (j + 1)) * a3) > wrap64 (wrap64 (a1 * a3) + wrap64 (wrap64 ((rd_T42 l (j : Int)).f0 - (rd_T42 l (i : Int)).f0) * a2))) = false := by
              rw [wrap64_small (x := sumW (segS 1 a1 a2 a3 a4 a5 a6 l i (j + 1)) * a3) (by omega) (by omega), wrap64_small (x := a1 * a3) (by omega) (by omega), wrap64_small (x := (rd_T42 l (j : Int)).f0 - (rd_T42 l (i : Int)).f0) (by have := hrj.2.1; have := hri.1; omega) (by have := hrj.2.1; have := hri.1; omega), wrap64_small (x := ((rd_T42 l (j : Int)).f0 - (rd_T42 l (i : Int)).f0) * a2) (by omega) (by omega), wrap64_small (by omega) (by omega)]
              exact decide_eq_false (by omega)
            rw [hfalse]
            unfold reevelaw16_ExactBounds.j5
            simp only [Bool.false_eq_true, if_false, show ¬ ((1 : Int) = 2) from by decide]
            rw [wrap_succ hlt hll]
            exact hk
          · have hdiv : ∀ y : Int, 0 ≤ y → y ≤ 1099511627776 → 0 ≤ y / a4 ∧ y / a4 ≤ 1099511627776 ∧ Int.tdiv y a4 = y / a4 := fun y h0 h1 =>
              ⟨Int.ediv_nonneg h0 (by omega), Int.le_trans (Int.ediv_le_self _ h0) h1, Int.tdiv_eq_ediv_of_nonneg h0⟩
            obtain ⟨p1, p2, p3⟩ := hdiv _ hrj.1 hrj.2.1
            obtain ⟨q1, q2, q3⟩ := hdiv _ hri.1 hri.2.1
            have hcond : (wrap64 (Int.tdiv ((rd_T42 l (j : Int)).f0) a4) ≥ wrap64 (wrap64 (Int.tdiv ((rd_T42 l (i : Int)).f0) a4) + a5)) ↔ (rd_T42 l (j : Int)).f0 / a4 ≥ (rd_T42 l (i : Int)).f0 / a4 + a5 := by
              rw [p3, q3, wrap64_small (x := (rd_T42 l (j : Int)).f0 / a4) (by omega) (by omega), wrap64_small (x := (rd_T42 l (i : Int)).f0 / a4) (by omega) (by omega), wrap64_small (by omega) (by omega)]
            by_cases hout : (rd_T42 l (j : Int)).f0 / a4 ≥ (rd_T42 l (i : Int)).f0 / a4 + a5
            · obtain ⟨kn, hkn⟩ := hnext
              refine ⟨kn + 2, ?_⟩
              unfold reevelaw16_ExactBounds.j3
              simp only [Bool.false_eq_true, if_false, if_true]
              rw [if_pos (by omega), if_pos (by omega), if_neg (by omega), if_pos (by omega), if_pos (by omega), decide_eq_true (hcond.2 hout)]
              unfold reevelaw16_ExactBounds.j4
              rw [if_pos rfl, wrap_succ hi hll]
              exact hkn
            · refine ⟨k + 3, ?_⟩
              unfold reevelaw16_ExactBounds.j3
              simp only [Bool.false_eq_true, if_false, if_true]
              rw [if_pos (by omega), if_pos (by omega), if_neg (by omega), if_pos (by omega), if_pos (by omega), decide_eq_false (fun h => hout (hcond.1 h))]
              unfold reevelaw16_ExactBounds.j4
              simp only [Bool.false_eq_true, if_false, show ¬ ((2 : Int) = 1) from by decide]
              rw [if_pos (by omega), if_pos (by omega), hws]
              unfold reevelaw16_ExactBounds.j5
              simp only [Bool.false_eq_true, if_false, if_true]
              have hr : sumW (segS 2 a1 a2 a3 a4 a5 a6 l i (j + 1)) ≤ a1 := hroom.2 rfl (by omega)
              rw [if_neg (by omega), wrap_succ hlt hll]
              exact hk
        obtain ⟨k3, hk3⟩ := hgo
        refine ⟨k3 + 1, ?_⟩
        unfold bl1 reevelaw16_ExactBounds.l1
        rw [if_pos (by omega), if_pos (by omega), if_pos (by omega), if_pos (by omega), if_pos ((same_key _ _).2 hkey), if_pos (by rw [verdL_length]; omega), hbne]
        exact hk3
      · have hbne : (rd (verdL a0 a1 a2 a3 a4 a5 a6 l) (j : Int) != 1) = true := by rw [hv]; simpa using hone
        obtain ⟨k3, hk3⟩ := hskip (fun h => hone h.2)
        refine ⟨k3 + 1, ?_⟩
        unfold bl1 reevelaw16_ExactBounds.l1
        rw [if_pos (by omega), if_pos (by omega), if_pos (by omega), if_pos (by omega), if_pos ((same_key _ _).2 hkey), if_pos (by rw [verdL_length]; omega), hbne]
        exact hk3
    · obtain ⟨k3, hk3⟩ := hskip (fun h => hkey h.1)
      refine ⟨k3 + 1, ?_⟩
      unfold bl1 reevelaw16_ExactBounds.l1
      rw [if_pos (by omega), if_pos (by omega), if_pos (by omega), if_pos (by omega), if_neg (fun e => hkey ((same_key _ _).1 e))]
      exact hk3

theorem bounds_l0 (hg : Good a0 a1 a2 a3 a4 a5 a6 a7 a8 a9 l) : ∀ (m i : Nat), l.length - i = m → ∃ k, bl0 a0 a1 a2 a3 a4 a5 a6 a7 a8 a9 l k (i : Int) = some true := by
  intro m
  induction m with
  | zero =>
    intro i hm
    refine ⟨1, ?_⟩
    unfold bl0 reevelaw16_ExactBounds.l0
    rw [if_neg (by omega)]
  | succ m ih =>
    intro i hm
    obtain ⟨k, hk⟩ := bounds_l1 a0 a1 a2 a3 a4 a5 a6 a7 a8 a9 l hg (by omega) (ih (i + 1) (by omega)) (l.length - i) i rfl (Nat.le_refl _) (by omega)
    refine ⟨k + 1, ?_⟩
    unfold bl0 reevelaw16_ExactBounds.l0
    rw [if_pos (by omega)]
    have : segS a0 a1 a2 a3 a4 a5 a6 l i i = [] := by
      unfold segS
      rw [List.drop_of_length_le (by simp; omega)]
      rfl
    rw [bl1, this] at hk
    exact hk
end

theorem bounds_true : bounds_pure := by
  intro a0 a1 a2 a3 a4 a5 a6 a7 a8 a9 l _ _ _ _ _ _ _ _ _ _ hsz hin
  by_cases h1 : (l.length : Int) > 200
  · refine ⟨1, ?_⟩
    unfold reevelaw16_ExactBounds.f
    rw [awake_true]
    simp only [Option.bind_some, if_true]
    rw [decide_eq_true h1]; simp [reevelaw16_ExactBounds.j0]
  · by_cases hz : rightX a0 a1 a2 a3 a4 a5 a6 a7 a8 a9 l = 0
    · have hg := right_good.1 hz
      have hv : VerdictsX a0 a1 a2 a3 a4 a5 a6 a7 a8 a9 l = (verdL a0 a1 a2 a3 a4 a5 a6 l, 0) := by rw [VerdictsX, if_pos hz]
      obtain ⟨k, hk⟩ := bounds_l0 a0 a1 a2 a3 a4 a5 a6 a7 a8 a9 l hg l.length 0 rfl
      refine ⟨k + 1, ?_⟩
      unfold reevelaw16_ExactBounds.f
      rw [awake_true]
      simp only [Option.bind_some, if_true]
      rw [decide_eq_false h1]
      unfold reevelaw16_ExactBounds.j0
      simp only [exact_Verdicts.f, Option.bind_some, if_false, Bool.false_eq_true]
      rw [hv, if_pos rfl, if_pos (by simp [verdL_length])]
      exact hk
    · refine ⟨1, ?_⟩
      have hv : VerdictsX a0 a1 a2 a3 a4 a5 a6 a7 a8 a9 l = ([], rightX a0 a1 a2 a3 a4 a5 a6 a7 a8 a9 l) := by rw [VerdictsX, if_neg hz]
      unfold reevelaw16_ExactBounds.f
      rw [awake_true]
      simp only [Option.bind_some, if_true]
      rw [decide_eq_false h1]
      unfold reevelaw16_ExactBounds.j0
      simp only [exact_Verdicts.f, Option.bind_some, if_false, Bool.false_eq_true]
      rw [hv, if_neg hz]

end Go.Proofs.Ytmlpahjmebfgbaa.Own
namespace Go.Proofs.Ytmlpahjmebfgbaa
theorem exact_bounds : Rows.ExactBoundsSaid := Own.bounds_holds Own.bounds_true
end Go.Proofs.Ytmlpahjmebfgbaa
