/- Lemmas for a claim of this seat: texts of this session and of the kit's print, without what this claim does not use. -/
import Derived.Test.YtmlpahjmebfgbaaURefO
import Derived.Test.YtmlpahjmebfgbaaUExRefV
import Derived.Test.YtmlpahjmebfgbaaUPureN
import Derived.Test.YtmlpahjmebfgbaaUExSame
namespace Go.Proofs.Ytmlpahjmebfgbaa.Own
open Go.RowKit Go.Proofs.YtmlpahjmebfgbaaW.PrintWords Go.Proofs.Ytmlpahjmebfgbaa.PEx
set_option linter.unusedVariables false
set_option linter.unusedSimpArgs false

theorem dueX_three (kind cap num den width count keys : Int) (xs : List S42) (tick : Int) (key : ByteArray) (cost : Int) : 0 ≤ dueX kind cap num den width count keys xs tick key cost ∧ dueX kind cap num den width count keys xs tick key cost ≤ 2 := by
  unfold dueX
  split
  · omega
  · split <;> omega
theorem runV_recs (kind cap num den width count keys : Int) (l : List S42) (h : ∀ r ∈ l, recE r = 0) : ∀ r ∈ runV kind cap num den width count keys l, recE r = 0 := by
  revert h
  refine snocInd (P := fun l => (∀ r ∈ l, recE r = 0) → ∀ r ∈ runV kind cap num den width count keys l, recE r = 0) (fun _ r h => by simp [runV] at h) (fun l x ih h => ?_) l
  intro r hr
  rw [runV_snoc] at hr
  rcases List.mem_append.1 hr with hr | hr
  · exact ih (fun r hr => h r (by simp [hr])) r hr
  · simp only [List.mem_singleton] at hr
    subst hr
    have h0 := recE_zero (h x (by simp))
    have h3 := dueX_three kind cap num den width count keys (runV kind cap num den width count keys l) x.f0 x.f1 x.f2
    unfold recE dueR
    simp only
    rw [if_pos (by omega), if_pos (by omega), if_pos (by omega), if_pos h3]
theorem good_runV {kind cap num den width count keys slots every seg : Int} {l : List S42} (h : Good kind cap num den width count keys slots every seg l) : Good kind cap num den width count keys slots every seg (runV kind cap num den width count keys l) :=
  ⟨h.pol, by rw [runV_length]; exact h.len, runV_recs _ _ _ _ _ _ _ l h.recs, runV_sorted _ _ _ _ _ _ _ h.sorted⟩

theorem refV_l0 {kind cap num den width count keys slots every seg : Int} {l : List S42} (hg : Good kind cap num den width count keys slots every seg l) : ∀ (n j : Nat), l.length - j < n → j ≤ l.length → 
    reeveref16_Verdicts.l0 (n + (3 * l.length + 2)) l (verdL kind cap num den width count keys (l.take j)) (runV kind cap num den width count keys (l.take j)) (j : Int) kind cap num den width count keys slots every seg = some (verdL kind cap num den width count keys l, 0)
  | 0, j, h, _ => by omega
  | n + 1, j, h, hj => by
    have hl := hg.len
    rw [show n + 1 + (3 * l.length + 2) = (n + (3 * l.length + 2)) + 1 from by omega]
    unfold reeveref16_Verdicts.l0
    by_cases hlt : j < l.length
    · have hx := recE_zero (hg.recs _ (rd_mem hlt))
      have hgt := good_runV (good_sub hg (List.take_sublist j l))
      have h1 : (runV kind cap num den width count keys (l.take j)).length = j := by rw [runV_length]; simp; omega
      have h2 : (verdL kind cap num den width count keys (l.take j)).length = j := by rw [verdL_length]; simp; omega
      rw [if_pos (by omega), if_pos (by omega), due_eq hgt hx.1 hx.2.1 _ hx.2.2.2.2.1 hx.2.2.2.2.2.1 (by omega)]
      simp only [Option.bind_some]
      rw [if_pos (by omega), if_pos (by omega), wrap_succ hlt hl]
      have ih := refV_l0 hg n (j + 1) (by omega) (by omega)
      rw [take_rd l j hlt, runV_snoc] at ih
      have e : verdL kind cap num den width count keys (l.take j ++ [rd_T42 l (j : Int)]) = verdL kind cap num den width count keys (l.take j) ++ [dueX kind cap num den width count keys (runV kind cap num den width count keys (l.take j)) (rd_T42 l (j : Int)).f0 (rd_T42 l (j : Int)).f1 (rd_T42 l (j : Int)).f2] := by
        rw [verdL, verdL, runV_snoc, List.map_append]; rfl
      rw [e] at ih
      exact ih
    · obtain rfl : j = l.length := by omega
      rw [if_neg (by omega), List.take_length]

theorem refVerdicts_eq (kind cap num den width count keys slots every seg : Int) (l : List S42) {k : Nat} (hk : k = 4 * l.length + 4) :
    reeveref16_Verdicts.f k kind cap num den width count keys slots every seg l = some (VerdictsX kind cap num den width count keys slots every seg l) := by
  unfold reeveref16_Verdicts.f VerdictsX
  rw [may_eq _ _ _ _ _ _ _ _ _ _ l k (by omega)]
  simp only [Option.bind_some]
  by_cases hz : rightX kind cap num den width count keys slots every seg l = 0
  · rw [if_pos hz, if_pos hz]
    have hg := right_good.1 hz
    have := refV_l0 hg (l.length + 2) 0 (by omega) (Nat.zero_le _)
    rw [show k = l.length + 2 + (3 * l.length + 2) from by omega]
    simpa [verdL, runV] using this
  · rw [if_neg hz, if_neg hz]
theorem sameInts_l0 (l : List Int) (hl : l.length ≤ 10000) : ∀ (n j : Nat), l.length - j < n → j ≤ l.length → reevelaw16_sameInts.l0 n l l (j : Int) = some true
  | 0, j, h, _ => by omega
  | n + 1, j, h, hj => by
    unfold reevelaw16_sameInts.l0
    by_cases hlt : j < l.length
    · rw [if_pos (by omega), if_pos (by omega), if_pos (by omega), if_pos rfl, wrap_succ hlt hl]
      exact sameInts_l0 l hl n (j + 1) (by omega) (by omega)
    · rw [if_neg (by omega)]
theorem sameInts_true (l : List Int) (hl : l.length ≤ 10000) : reevelaw16_sameInts.f (l.length + 1) l l = some true := by
  unfold reevelaw16_sameInts.f
  rw [if_pos rfl]
  exact sameInts_l0 l hl (l.length + 1) 0 (by omega) (Nat.zero_le _)
theorem verdX_length (kind cap num den width count keys slots every seg : Int) (l : List S42) : (VerdictsX kind cap num den width count keys slots every seg l).1.length ≤ 10000 := by
  unfold VerdictsX
  split
  · rename_i hz
    rw [verdL_length]
    exact (right_good.1 hz).len
  · simp
end Go.Proofs.Ytmlpahjmebfgbaa.Own
