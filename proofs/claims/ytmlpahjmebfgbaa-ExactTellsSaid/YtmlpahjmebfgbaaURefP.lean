/- Lemmas for a claim of this seat: texts of this session and of the kit's print, without what this claim does not use. -/
import Derived.Test.YtmlpahjmebfgbaaUTopC
import Derived.Test.YtmlpahjmebfgbaaUExRefB
namespace Go.Proofs.Ytmlpahjmebfgbaa.Own
open Go.RowKit Go.Proofs.YtmlpahjmebfgbaaW.PrintWords Go.Proofs.Ytmlpahjmebfgbaa.PEx
set_option linter.unusedVariables false
set_option linter.unusedSimpArgs false

theorem in_eq (a b c : Int) : reeveref04_in.f a b c = some (decide (b ≤ a ∧ a ≤ c)) := by
  unfold reeveref04_in.f
  by_cases h : b ≤ a <;> simp [h]
theorem same_in (a b : ByteArray) : a.toList = b.toList ↔ a = b := by
  rw [ByteArray.toList_eq, ByteArray.toList_eq]
  constructor
  · intro h; cases a; cases b; simpa using h
  · rintro rfl; rfl
theorem wrap_next {j n : Nat} (h : j < n) (hn : n ≤ 10000) : wrap64 ((j : Int) + 1) = ((j + 1 : Nat) : Int) := by
  rw [wrap64_small (by omega) (by omega)]; omega

section
variable (a0 a1 a2 a3 a4 a5 a6 a7 a8 a9 : Int)
theorem ref04_j1 (k : Nat) (x y : Bool) : reeveref04_Right.j1 (k + 1) x y a0 a1 a2 a3 a4 a5 a6 a7 a8 a9 =
    some (if x = true ∧ (y = true ∨ (a0 = 2 ∧ (1 ≤ a4 ∧ a4 ≤ 1048576) ∧ (1 ≤ a5 ∧ a5 ≤ 32) ∧ a2 = 0 ∧ a3 = 0)) then 0 else 40) := by
  unfold reeveref04_Right.j1
  simp only [in_eq, Option.bind_some, decide_eq_true_eq]
  by_cases h0 : a0 = 2 <;> by_cases h1 : 1 ≤ a4 ∧ a4 ≤ 1048576 <;> by_cases h2 : 1 ≤ a5 ∧ a5 ≤ 32 <;> by_cases h3 : a2 = 0 <;> by_cases h4 : a3 = 0 <;> cases x <;> cases y <;> simp [h0, h1, h2, h3, h4]
theorem ref04_j0 (k : Nat) (x : Bool) : reeveref04_Right.j0 (k + 2) x a0 a1 a2 a3 a4 a5 a6 a7 a8 a9 =
    some (if x = true ∧ ((a0 = 1 ∧ (1 ≤ a2 ∧ a2 ≤ 65536) ∧ (1 ≤ a3 ∧ a3 ≤ 65536) ∧ a4 = 0 ∧ a5 = 0) ∨ (a0 = 2 ∧ (1 ≤ a4 ∧ a4 ≤ 1048576) ∧ (1 ≤ a5 ∧ a5 ≤ 32) ∧ a2 = 0 ∧ a3 = 0)) then 0 else 40) := by
  unfold reeveref04_Right.j0
  simp only [in_eq, Option.bind_some, decide_eq_true_eq, ref04_j1]
  by_cases h0 : a0 = 1
  · by_cases h1 : 1 ≤ a2 ∧ a2 ≤ 65536
    · by_cases h2 : 1 ≤ a3 ∧ a3 ≤ 65536
      · by_cases h3 : a4 = 0
        · by_cases h4 : a5 = 0 <;> simp [h0, h1, h2, h3, h4]
        · simp [h0, h1, h2, h3]
      · simp [h0, h1, h2]
    · simp [h0, h1]
  · simp [h0]
theorem ref04_eq (k : Nat) : reeveref04_Right.f (k + 2) a0 a1 a2 a3 a4 a5 a6 a7 a8 a9 = some (polE a0 a1 a2 a3 a4 a5 a6 a7 a8 a9) := by
  unfold reeveref04_Right.f
  simp only [in_eq, Option.bind_some, decide_eq_true_eq, ref04_j0]
  unfold polE polB
  simp only [decide_eq_true_eq]
  by_cases h1 : 1 ≤ a1 ∧ a1 ≤ 1048576
  · by_cases h2 : 1 ≤ a6 ∧ a6 ≤ 1000
    · by_cases h3 : 1 ≤ a7 ∧ a7 ≤ 64
      · by_cases h4 : 0 ≤ a8 ∧ a8 ≤ 1000
        · by_cases h5 : 1 ≤ a9 ∧ a9 ≤ 1000
          · rw [if_pos h1, if_pos h2, if_pos h3, if_pos h4]
            congr 1
            by_cases hX : (a0 = 1 ∧ (1 ≤ a2 ∧ a2 ≤ 65536) ∧ (1 ≤ a3 ∧ a3 ≤ 65536) ∧ a4 = 0 ∧ a5 = 0) ∨ (a0 = 2 ∧ (1 ≤ a4 ∧ a4 ≤ 1048576) ∧ (1 ≤ a5 ∧ a5 ≤ 32) ∧ a2 = 0 ∧ a3 = 0)
            · rw [if_pos ⟨h5, hX⟩, if_pos (by omega)]
            · rw [if_neg (fun h => hX h.2), if_neg (by omega)]
          · rw [if_pos h1, if_pos h2, if_pos h3, if_pos h4, if_neg (fun h => h5 h.1), if_neg (by omega)]
        · rw [if_pos h1, if_pos h2, if_pos h3, if_neg h4, if_neg (by simp), if_neg (by omega)]
      · rw [if_pos h1, if_pos h2, if_neg h3, if_neg (by simp), if_neg (by omega)]
    · rw [if_pos h1, if_neg h2, if_neg (by simp), if_neg (by omega)]
  · rw [if_neg h1, if_neg (by simp), if_neg (by omega)]

theorem ref06_eq (k : Nat) (r : S42) : reeveref06_Right.f (k + 3) r.f0 r.f1 r.f2 r.f3 = some (recE r) := by
  unfold reeveref06_Right.f recE
  simp only [reeveref06_Right.j0, reeveref06_Right.j1, reeveref06_Right.j2, if_true, decide_eq_true_eq]
  by_cases h0 : r.f0 < 0
  · rw [if_pos h0, if_neg (by omega)]
  by_cases h1 : r.f0 > 1099511627776
  · rw [if_neg h0, if_pos h1, if_neg (by omega)]
  rw [if_neg h0, if_neg h1, if_pos (show 0 ≤ r.f0 ∧ r.f0 ≤ 1099511627776 from by omega)]
  by_cases h2 : (r.f1.size : Int) < 1
  · rw [if_pos h2, if_neg (by omega)]
  by_cases h3 : (r.f1.size : Int) > 64
  · rw [if_neg h2, if_pos h3, if_neg (by omega)]
  rw [if_neg h2, if_neg h3, if_pos (show 1 ≤ r.f1.size ∧ r.f1.size ≤ 64 from by omega)]
  by_cases h4 : r.f2 < 1
  · rw [if_pos h4, if_neg (by omega)]
  by_cases h5 : r.f2 > 1048576
  · rw [if_neg h4, if_pos h5, if_neg (by omega)]
  rw [if_neg h4, if_neg h5, if_pos (show 1 ≤ r.f2 ∧ r.f2 ≤ 1048576 from by omega)]
  by_cases h6 : r.f3 < 0
  · rw [if_pos h6, if_neg (by omega)]
  by_cases h7 : r.f3 > 2
  · rw [if_neg h6, if_pos h7, if_neg (by omega)]
  · rw [if_neg h6, if_neg h7, if_pos (by omega)]

/-- What the reference's walk through the records says from the j-th on. -/
theorem wrong_l0 (l : List S42) (hl : l.length ≤ 10000) : ∀ (n j : Nat), l.length - j < n → j ≤ l.length → reeveref16_Wrong.l0 (n + 3) l (j : Int) = some (wrongX (if j = 0 then 0 else (rd_T42 l ((j : Int) - 1)).f0) (l.drop j))
  | 0, j, h, _ => by omega
  | n + 1, j, h, hj => by
    unfold reeveref16_Wrong.l0
    by_cases hlt : j < l.length
    · rw [if_pos (by omega), if_pos (by omega), ref06_eq, drop_rd l j hlt, wrap_next hlt hl, wrong_l0 l hl n (j + 1) (by omega) (by omega)]
      simp only [Option.bind_some, wrongX]
      by_cases hz : recE (rd_T42 l (j : Int)) = 0
      · rw [if_pos hz, if_pos hz]
        have e : ((j + 1 : Nat) : Int) - 1 = (j : Int) := by omega
        rw [if_neg (by omega : ¬ j + 1 = 0), e]
        by_cases h0 : j = 0
        · subst h0
          rw [if_neg (by omega), if_pos rfl]
          have := (recE_zero hz).1
          rw [if_neg (by omega)]
        · rw [if_pos (by omega), wrap64_small (x := (j : Int) - 1) (by omega) (by omega), if_pos (by omega), if_pos (by omega), if_neg h0]
          split <;> rfl
      · rw [if_neg hz, if_neg hz]
    · rw [if_neg (by omega), List.drop_of_length_le (by omega)]
      rfl
theorem may_eq (l : List S42) (k : Nat) (hk : l.length + 4 ≤ k) : reeveref16_may.f k a0 a1 a2 a3 a4 a5 a6 a7 a8 a9 l = some (rightX a0 a1 a2 a3 a4 a5 a6 a7 a8 a9 l) := by
  obtain ⟨m, rfl⟩ : ∃ m, k = (m + 1 + l.length) + 3 := ⟨k - l.length - 4, by omega⟩
  unfold reeveref16_may.f rightX
  rw [ref04_eq]
  simp only [Option.bind_some]
  split
  · by_cases h : 10000 < l.length
    · rw [if_pos (by omega), if_pos h]
    · rw [if_neg (by omega), if_neg h]
      unfold reeveref16_Wrong.f
      have := wrong_l0 l (by omega) (m + 1 + l.length) 0 (by omega) (by omega)
      rw [if_pos rfl, List.drop_zero] at this
      rw [show (0 : Int) = ((0 : Nat) : Int) from rfl, this]
      rfl
  · rfl
end
end Go.Proofs.Ytmlpahjmebfgbaa.Own
