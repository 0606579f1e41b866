/- ExactFalls: whatever policy, list, key and two spans are handed in: true; what was handed in reads as it did. No condition. -/
import Derived.Test.YtmlpahjmebfgbaaRFalls
import Derived.Test.YtmlpahjmebfgbaaPureA
namespace Go.Proofs.Ytmlpahjmebfgbaa.Own
open Go.RowKit Go.Proofs.YtmlpahjmebfgbaaW.PrintWords Go.Proofs.Ytmlpahjmebfgbaa.PEx
set_option linter.unusedVariables false
set_option linter.unusedSimpArgs false

theorem falls_pure : FallsPure := by
  intro a0 a1 a2 a3 a4 a5 a6 a7 a8 a9 l key a b _ _ _ _ _ _ _ _ _ _ hin hks wa wb
  refine ⟨2, ?_⟩
  unfold reevelaw16_ExactFalls.f
  rw [awake_true]
  simp only [Option.bind_some, if_true]
  have htrue : reevelaw16_ExactFalls.j0 2 l key a b true true a0 a1 a2 a3 a4 a5 a6 a7 a8 a9 = some true := by simp [reevelaw16_ExactFalls.j0]
  by_cases h1 : (l.length : Int) = 0
  · rw [if_pos h1]; exact htrue
  rw [if_neg h1]
  by_cases h2 : (l.length : Int) > 200
  · rw [if_pos h2]; exact htrue
  rw [if_neg h2]
  by_cases h3 : a < 0
  · rw [if_pos h3]; exact htrue
  rw [if_neg h3]
  by_cases h4 : b < 0
  · rw [if_pos h4]; exact htrue
  rw [if_neg h4]
  by_cases h5 : a > 1073741824
  · rw [if_pos h5]; exact htrue
  rw [if_neg h5]
  by_cases h6 : b > 1073741824
  · rw [decide_eq_true h6]; exact htrue
  rw [decide_eq_false h6]
  have hw : wrap64 ((l.length : Int) - 1) = (l.length : Int) - 1 := wrap64_small (by omega) (by omega)
  have hlt : (rd_T42 l ((l.length : Int) - 1)).f0 = lastTick l := rfl
  unfold reevelaw16_ExactFalls.j0
  simp only [hw, hlt, if_false, Bool.false_eq_true]
  rw [if_pos (by omega), if_pos (by omega)]
  have hw2 : wrap64 (wrap64 (1099511627776 - a) - b) = 1099511627776 - a - b := by rw [wrap64_small (x := 1099511627776 - a) (by omega) (by omega), wrap64_small (by omega) (by omega)]
  rw [hw2]
  by_cases h7 : lastTick l < 0
  · rw [if_pos h7]; simp [reevelaw16_ExactFalls.j1]
  rw [if_neg h7]
  by_cases h8 : lastTick l > 1099511627776 - a - b
  · rw [decide_eq_true h8]; simp [reevelaw16_ExactFalls.j1]
  rw [decide_eq_false h8]
  unfold reevelaw16_ExactFalls.j1
  have hw3 : wrap64 (lastTick l + a) = lastTick l + a := wrap64_small (by omega) (by omega)
  have hw4 : wrap64 (lastTick l + a + b) = lastTick l + a + b := wrap64_small (by omega) (by omega)
  simp only [hw3, hw4, if_false, Bool.false_eq_true, exact_Owed.f, exact_Holders.f, if_pos hks, Option.bind_some]
  have t1 : tickB (lastTick l + a) = true := by simp [tickB]; omega
  have t2 : tickB (lastTick l + a + b) = true := by simp [tickB]; omega
  unfold OwedX HoldersX
  rw [t1, t2]
  by_cases hz : rightX a0 a1 a2 a3 a4 a5 a6 a7 a8 a9 l = 0
  · have hg := right_good.1 hz
    have hok := good_okR hg
    have hp := (pol_ok hg.pol).1
    have hmax : ∀ r ∈ l, r.f0 ≤ lastTick l + a := fun r hr => by have := last_max hg.sorted r hr; omega
    simp only [hz, if_true]
    rw [if_pos (owed_later hp (fun r hr => hok r (own_mem hr).1) (fun r hr => hmax r (own_mem hr).1) (by omega))]
    have := hold_later hp hok hmax (t2 := lastTick l + a + b) (by omega) (by omega)
    simp
    exact this
  · simp [hz]

end Go.Proofs.Ytmlpahjmebfgbaa.Own
namespace Go.Proofs.Ytmlpahjmebfgbaa
theorem exact_falls : Rows.ExactFallsSaid := Own.falls_holds Own.falls_pure
end Go.Proofs.Ytmlpahjmebfgbaa
