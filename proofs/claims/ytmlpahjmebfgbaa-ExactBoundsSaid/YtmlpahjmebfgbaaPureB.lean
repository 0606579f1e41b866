/- Plain laws on the verdicts that are due: they hang on what stands ahead alone. -/
import Derived.Test.YtmlpahjmebfgbaaPureA
namespace Go.Proofs.Ytmlpahjmebfgbaa.Own
open Go.RowKit Go.Proofs.YtmlpahjmebfgbaaW.PrintWords Go.Proofs.Ytmlpahjmebfgbaa.PEx
set_option linter.unusedVariables false
set_option linter.unusedSimpArgs false

theorem same_key (a b : ByteArray) : a.toList = b.toList ↔ a = b := by
  rw [ByteArray.toList_eq, ByteArray.toList_eq]
  constructor
  · intro h; cases a; cases b; simpa using h
  · rintro rfl; rfl
theorem wrap_succ {j n : Nat} (h : j < n) (hn : n ≤ 10000) : wrap64 ((j : Int) + 1) = ((j + 1 : Nat) : Int) := by
  rw [wrap64_small (by omega) (by omega)]; omega
theorem rd_mem {l : List S42} {j : Nat} (h : j < l.length) : rd_T42 l (j : Int) ∈ l := by
  unfold rd_T42
  rw [Int.toNat_natCast, List.getD_eq_getElem?_getD, List.getElem?_eq_getElem h]
  exact List.getElem_mem h

section
variable (kind cap num den width count keys : Int)
theorem runV_append (a b : List S42) : ∃ c, runV kind cap num den width count keys (a ++ b) = runV kind cap num den width count keys a ++ c := by
  refine snocInd (P := fun b => ∃ c, runV kind cap num den width count keys (a ++ b) = runV kind cap num den width count keys a ++ c) ⟨[], by simp⟩ (fun l x ih => ?_) b
  obtain ⟨c, hc⟩ := ih
  rw [← List.append_assoc, runV_snoc, hc]
  exact ⟨c ++ [_], by rw [List.append_assoc]⟩
theorem runV_take (l : List S42) (j : Nat) : runV kind cap num den width count keys (l.take j) = (runV kind cap num den width count keys l).take j := by
  obtain ⟨c, hc⟩ := runV_append kind cap num den width count keys (l.take j) (l.drop j)
  rw [List.take_append_drop] at hc
  by_cases h : j ≤ l.length
  · have hlen : (runV kind cap num den width count keys (l.take j)).length = j := by rw [runV_length]; simp; omega
    rw [hc, List.take_append_of_le_length (by omega)]
    exact (List.take_of_length_le (by omega)).symm
  · have e : l.take j = l := List.take_of_length_le (by omega)
    rw [e]
    exact (List.take_of_length_le (by rw [runV_length]; omega)).symm
theorem runV_rd (l : List S42) {j : Nat} (h : j < l.length) : rd_T42 (runV kind cap num den width count keys l) (j : Int) = dueR kind cap num den width count keys ((runV kind cap num den width count keys l).take j) (rd_T42 l (j : Int)) := by
  have h1 := runV_take kind cap num den width count keys l (j + 1)
  rw [take_rd l j h, runV_snoc, runV_take, take_rd _ j (by rw [runV_length]; exact h)] at h1
  have := List.append_cancel_left h1
  simpa using this.symm
theorem verdL_length (l : List S42) : (verdL kind cap num den width count keys l).length = l.length := by rw [verdL, List.length_map, runV_length]
theorem verdL_take (l : List S42) (j : Nat) : verdL kind cap num den width count keys (l.take j) = (verdL kind cap num den width count keys l).take j := by
  rw [verdL, verdL, runV_take, List.map_take]
theorem verdL_rd (l : List S42) {j : Nat} (h : j < l.length) : rd (verdL kind cap num den width count keys l) (j : Int) = (rd_T42 (runV kind cap num den width count keys l) (j : Int)).f3 := by
  unfold rd rd_T42 verdL
  rw [Int.toNat_natCast, List.getD_eq_getElem?_getD, List.getD_eq_getElem?_getD, List.getElem?_map, List.getElem?_eq_getElem (by rw [runV_length]; exact h)]
  rfl
end

theorem good_sub {kind cap num den width count keys slots every seg : Int} {l l' : List S42} (h : Good kind cap num den width count keys slots every seg l) (hs : l'.Sublist l) : Good kind cap num den width count keys slots every seg l' :=
  ⟨h.pol, Nat.le_trans hs.length_le h.len, fun r hr => h.recs r (hs.subset hr), h.sorted.sublist hs⟩

end Go.Proofs.Ytmlpahjmebfgbaa.Own
