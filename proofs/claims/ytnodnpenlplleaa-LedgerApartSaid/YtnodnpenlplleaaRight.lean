/- policy.Right answers OK (0) or ErrPolicy (40), as the plain test polB says; nothing that was there has turned. -/
import Derived.Test.YtnodnpenlplleaaRightW
namespace Go.Proofs.Ytnodnpenlplleaa.Own
open Go.RowKit Go.Proofs.YtnodnpenlplleaaW.PrintWords Go.Proofs.YtnodnpenlplleaaW.PrintLast
set_option linter.unusedVariables false
set_option linter.unusedSimpArgs false

theorem right_any (kind cap num den width count keys slots every seg : Int) (w : World) :
    Calls Try.prog 38 #[.agg #[.int .i64 kind, .int .i64 cap, .int .i64 num, .int .i64 den, .int .i64 width, .int .i64 count, .int .i64 keys, .int .i64 slots, .int .i64 every, .int .i64 seg]] w fun e w' => e = .returned (.int .i64 (polE kind cap num den width count keys slots every seg)) ∧ Below w.heap.size w w' := by
  by_cases k1 : kind = 1
  · subst k1
    by_cases z1 : width = 0
    · by_cases z2 : count = 0
      · subst z1; subst z2
        exact right_bucket_c cap num den keys slots every seg w
      · refine (right_bucket_b cap num den width count keys slots every seg w (by simp [z1]) (by simp [z2])).mono fun e w' h => ⟨?_, h.2⟩
        rw [polE_bad (fun h => by unfold polB at h; rw [decide_eq_true_iff] at h; omega)]; exact h.1
    · refine (right_bucket_a cap num den width count keys slots every seg w (by simp [z1])).mono fun e w' h => ⟨?_, h.2⟩
      rw [polE_bad (fun h => by unfold polB at h; rw [decide_eq_true_iff] at h; omega)]; exact h.1
  · by_cases k2 : kind = 2
    · subst k2
      by_cases z1 : num = 0
      · by_cases z2 : den = 0
        · subst z1; subst z2
          exact right_window_c cap width count keys slots every seg w
        · refine (right_window_b cap num den width count keys slots every seg w (by simp [z1]) (by simp [z2])).mono fun e w' h => ⟨?_, h.2⟩
          rw [polE_bad (fun h => by unfold polB at h; rw [decide_eq_true_iff] at h; omega)]; exact h.1
      · refine (right_window_a cap num den width count keys slots every seg w (by simp [z1])).mono fun e w' h => ⟨?_, h.2⟩
        rw [polE_bad (fun h => by unfold polB at h; rw [decide_eq_true_iff] at h; omega)]; exact h.1
    · refine (right_other kind cap num den width count keys slots every seg w (by simp [k1]) (by simp [k2])).mono fun e w' h => ⟨?_, h.2⟩
      rw [polE_bad (fun h => by unfold polB at h; rw [decide_eq_true_iff] at h; omega)]; exact h.1
end Go.Proofs.Ytnodnpenlplleaa.Own
