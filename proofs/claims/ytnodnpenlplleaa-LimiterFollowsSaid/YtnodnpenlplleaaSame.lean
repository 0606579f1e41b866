/- reevelaw02.Same: are two rows of bytes alike? -/
import Derived.Test.YtnodnpenlplleaaBytB
namespace Go.Proofs.Ytnodnpenlplleaa.Own
open Go.RowKit Go.Proofs.YtnodnpenlplleaaW.PrintWords Go.Proofs.YtnodnpenlplleaaW.PrintLast Go.Proofs.YtnodnpenlplleaaW.PrintMore
set_option linter.unusedVariables false
set_option linter.unusedSimpArgs false
attribute [local go_sem] Oper.semAt_some
def same__T6 : Bool × List (List Nat × List Nat) := (true, [([], []), ([], []), ([0, 1], [0, 1]), ([2], [2]), ([], []), ([], []), ([4, 5], [4, 5]), ([6], [6]), ([3, 7], [3, 7])])
def same__B6 : List Nat := [0, 0, 3, 7, 0, 0, 48, 112, 255]
theorem same__tab6 : rtab .any (opsOf Try.f19 6) = same__T6 := by kernel_rfl
theorem same__bits6 : waitsOk same__T6.2 same__B6 = true := by kernel_rfl

set_option maxRecDepth 100000 in
set_option maxHeartbeats 1000000 in
theorem Same_fn (w : World) (A B : Option Addr) (ca cb : Nat) (a b : List Int) (ha : Kd.C (Kd.int .u8) w A a.length a) (hb : Kd.C (Kd.int .u8) w B b.length b) :
    Calls Try.prog 19 #[.slice A a.length ca, .slice B b.length cb] w fun e w' => e = .returned (.bool (decide (a = b))) ∧ Below w.heap.size w w' := by
  have HA := Aside0.mk ha
  have HB := Aside0.mk hb
  have hla : a.length ≤ 9223372036854775807 := ha.2.1
  clear ha hb
  by_cases hl : a.length = b.length
  case neg =>
    have hne : ¬ ((a.length : Int) = (b.length : Int)) := by omega
    rw [decide_eq_false (fun e => hl (by rw [e]))]
    clear hl
    go_enter Try.func19, Try.ntmps19
    go_wp2_with fail
    go_ret
    exact ⟨rfl, Below.refl _ _⟩
  generalize hr : decide (a = b) = r
  have HR := Aside0.mk hr
  clear hr
  rw [← hl]
  have HL := Aside0.mk hl
  clear hl
  go_enter Try.func19, Try.ntmps19
  go_wp2_with fail
  go_loopw [5] (fun i wr => ∃ j : Nat, j ≤ a.length ∧ i = .int .i64 (j : Int) ∧ Aside0 (a.take j = b.take j) ∧ Aside0 (Below w.heap.size w wr)) (fun i _ => a.length - (intOf i).toNat)
  case atStart => exact ⟨0, by omega, rfl, ⟨rfl⟩, ⟨Below.refl _ _⟩⟩
  case round =>
    obtain ⟨j, hj, rfl, HT, BS⟩ := hrel
    by_cases hlt : j < a.length
    · obtain ⟨ad, eA, d0⟩ := Kd.at_int HA.out (j : Int) (by omega) (by omega)
      subst eA
      obtain ⟨bd, eB, d1⟩ := Kd.at_int HB.out (j : Int) (by omega) (by have := HL.out; omega)
      subst eB
      simp only [Int.toNat_natCast] at d0 d1
      have j0 : (0 : Int) ≤ (j : Int) := by omega
      have j1 : (j : Int) < (a.length : Int) := by omega
      have HTA := Aside0.mk (take_rdI a hlt)
      have HTB := Aside0.mk (take_rdI b (show j < b.length from by have := HL.out; omega))
      generalize rd a (j : Int) = x at d0 HTA
      generalize rd b (j : Int) = y at d1 HTB
      have D0 := Aside0.mk d0
      have D1 := Aside0.mk d1
      clear d0 d1
      go_wp2_with fail
      refine start_ (n := 9) (S := Below w.heap.size w) (ds := []) #[false, false, false, false, false, false, false, false, false] (by kernel_rfl) rfl rfl (BS.out.drew) (fun hHeld => ?_); refine with_tabW same__tab6 same__bits6 (fun HT_ HW_ => ?_)
      refine pure_ (i := 0) (N := some 17) (v := ?_) (a' := ?_) #[true, false, false, false, false, false, false, false, false] rfl rfl (any_of HT_.out (by kernel_rfl)) (fun _ _ _ h => h) (Or.inl ⟨by rfl, ?_⟩) ?_ ?_
      rotate_left
      · intro w'
        go_simp
        try with_reducible rfl
      rotate_left
      · simp only [Act.put, List.setIfInBounds_toArray, List.set_cons_zero, List.set_cons_succ]
        rfl
      refine pure_ (i := 1) (N := some 18) (v := ?_) (a' := ?_) #[true, true, false, false, false, false, false, false, false] rfl rfl (any_of HT_.out (by kernel_rfl)) (fun _ _ _ h => h) (Or.inl ⟨by rfl, ?_⟩) ?_ ?_
      rotate_left
      · intro w'
        go_simp
        try with_reducible rfl
      rotate_left
      · simp only [Act.put, List.setIfInBounds_toArray, List.set_cons_zero, List.set_cons_succ]
        rfl
      refine pure_ (i := 4) (N := some 21) (v := ?_) (a' := ?_) #[true, true, false, false, true, false, false, false, false] rfl rfl (any_of HT_.out (by kernel_rfl)) (fun _ _ _ h => h) (Or.inl ⟨by rfl, ?_⟩) ?_ ?_
      rotate_left
      · intro w'
        go_simp
        try with_reducible rfl
      rotate_left
      · simp only [Act.put, List.setIfInBounds_toArray, List.set_cons_zero, List.set_cons_succ]
        rfl
      refine pure_ (i := 5) (N := some 22) (v := ?_) (a' := ?_) #[true, true, false, false, true, true, false, false, false] rfl rfl (any_of HT_.out (by kernel_rfl)) (fun _ _ _ h => h) (Or.inl ⟨by rfl, ?_⟩) ?_ ?_
      rotate_left
      · intro w'
        go_simp
        try with_reducible rfl
      rotate_left
      · simp only [Act.put, List.setIfInBounds_toArray, List.set_cons_zero, List.set_cons_succ]
        rfl
      refine pure_ (i := 2) (N := some 19) (v := ?_) (a' := ?_) #[true, true, true, false, true, true, false, false, false] rfl rfl (any_of HT_.out (by kernel_rfl)) (fun _ _ _ h => h) (Or.inl ⟨by rfl, ?_⟩) ?_ ?_
      rotate_left
      · intro w'
        go_simp
        try with_reducible rfl
      rotate_left
      · simp only [Act.put, List.setIfInBounds_toArray, List.set_cons_zero, List.set_cons_succ]
        rfl
      refine pure_ (i := 6) (N := some 23) (v := ?_) (a' := ?_) #[true, true, true, false, true, true, true, false, false] rfl rfl (any_of HT_.out (by kernel_rfl)) (fun _ _ _ h => h) (Or.inl ⟨by rfl, ?_⟩) ?_ ?_
      rotate_left
      · intro w'
        go_simp
        try with_reducible rfl
      rotate_left
      · simp only [Act.put, List.setIfInBounds_toArray, List.set_cons_zero, List.set_cons_succ]
        rfl
      refine take_ (i := 3) (N := some 20) (v := ?_) (a' := ?_) #[true, true, true, true, true, true, true, false, false] rfl rfl (take_ofW HT_.out HW_.out (by kernel_rfl)) (fun _ _ _ h => h) (Or.inl ⟨by rfl, ?_⟩) hHeld ?_ ?_
      rotate_left
      · intro w' hS'
        have d0 := (hS'.cell (World.block_lt_of_cell? _ _ D0.out)).trans D0.out
        go_simp
        try with_reducible rfl
      rotate_left
      · simp only [Act.put, List.setIfInBounds_toArray, List.set_cons_zero, List.set_cons_succ]
        rfl
      refine take_ (i := 7) (N := some 24) (v := ?_) (a' := ?_) #[true, true, true, true, true, true, true, true, false] rfl rfl (take_ofW HT_.out HW_.out (by kernel_rfl)) (fun _ _ _ h => h) (Or.inl ⟨by rfl, ?_⟩) hHeld ?_ ?_
      rotate_left
      · intro w' hS'
        have d0 := (hS'.cell (World.block_lt_of_cell? _ _ D1.out)).trans D1.out
        go_simp
        try with_reducible rfl
      rotate_left
      · simp only [Act.put, List.setIfInBounds_toArray, List.set_cons_zero, List.set_cons_succ]
        rfl
      refine pure_ (i := 8) (N := some 25) (v := ?_) (a' := ?_) #[true, true, true, true, true, true, true, true, true] rfl rfl (any_of HT_.out (by kernel_rfl)) (fun _ _ _ h => h) (Or.inl ⟨by rfl, ?_⟩) ?_ ?_
      rotate_left
      · intro w'
        go_simp
        try with_reducible rfl
      rotate_left
      · simp only [Act.put, List.setIfInBounds_toArray, List.set_cons_zero, List.set_cons_succ]
        rfl
      refine done_ (done_of HT_.out (by kernel_rfl)) ?_
      have HB7 := Aside0.mk hHeld
      clear hHeld HT_ HW_
      by_cases hxy : x = y
      · have HN := Aside0.mk (show a.take (j + 1) = b.take (j + 1) from by rw [HTA.out, HTB.out, HT.out, hxy])
        go_wp2_with fail
        go_roundw
        case rel => exact ⟨j + 1, by omega, by go_num, ⟨HN.out⟩, ⟨HB7.out⟩⟩
        case measure => simp [intOf]; omega
      · have HE := Aside0.mk (show false = r from by
          rw [← HR.out, decide_eq_false]
          intro e
          have h1 := HTA.out
          rw [e, HTB.out] at h1
          exact hxy (by simpa using (List.append_cancel_left h1).symm))
        go_wp2_with fail
        go_ret
        exact ⟨congrArg (fun b => Ending.returned (Value.bool b)) HE.out, HB7.out⟩
    · obtain rfl : j = a.length := by omega
      have HE := Aside0.mk (show true = r from by
        rw [← HR.out, decide_eq_true]
        have h1 := HT.out
        rw [List.take_length] at h1
        rw [h1, HL.out, List.take_length])
      go_wp2_with fail
      go_ret
      exact ⟨congrArg (fun b => Ending.returned (Value.bool b)) HE.out, BS.out⟩
end Go.Proofs.Ytnodnpenlplleaa.Own
