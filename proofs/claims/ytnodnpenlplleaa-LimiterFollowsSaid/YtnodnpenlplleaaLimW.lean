/- Layer 4: the document's Right answers as the plain test says. -/
import Derived.Test.YtnodnpenlplleaaBuckM
import Derived.Test.YtnodnpenlplleaaLApp
import Derived.Test.YtnodnpenlplleaaRef
import Derived.Test.YtnodnpenlplleaaBr
import Derived.Test.YtnodnpenlplleaaRec
namespace Go.Proofs.Ytnodnpenlplleaa.Own
open Go.RowKit Go.Proofs.YtnodnpenlplleaaW.PrintWords Go.Proofs.YtnodnpenlplleaaW.PrintLast Go.Proofs.YtnodnpenlplleaaW.PrintMore
set_option linter.unusedVariables false
set_option linter.unusedSimpArgs false

theorem in_fn (x lo hi : Int) (w : World) : Calls Try.prog 48 #[.int .i64 x, .int .i64 lo, .int .i64 hi] w fun e w' => e = .returned (.bool (decide (lo ≤ x ∧ x ≤ hi))) ∧ w' = w := by
  generalize hr : decide (lo ≤ x ∧ x ≤ hi) = r
  have HR := Aside0.mk hr
  clear hr
  go_enter Try.func48, Try.ntmps48
  by_cases h1 : lo ≤ x
  · have HE := Aside0.mk (show decide (x ≤ hi) = r from by rw [← HR.out, decide_eq_decide]; omega)
    go_wp2_with fail
    go_ret
    exact ⟨congrArg (fun b => Ending.returned (Value.bool b)) HE.out, rfl⟩
  · have HE := Aside0.mk (show false = r from by rw [← HR.out, decide_eq_false (by omega)])
    go_wp2_with fail
    go_ret
    exact ⟨congrArg (fun b => Ending.returned (Value.bool b)) HE.out, rfl⟩
def polP (kind cap num den width count keys slots every seg : Int) : Prop :=
  ((1 ≤ cap ∧ cap ≤ 1048576) ∧ (1 ≤ keys ∧ keys ≤ 1000) ∧ (1 ≤ slots ∧ slots ≤ 64) ∧ (0 ≤ every ∧ every ≤ 1000) ∧ (1 ≤ seg ∧ seg ≤ 1000)) ∧
  ((kind = 1 ∧ (1 ≤ num ∧ num ≤ 65536) ∧ (1 ≤ den ∧ den ≤ 65536) ∧ width = 0 ∧ count = 0) ∨ (kind = 2 ∧ (1 ≤ width ∧ width ≤ 1048576) ∧ (1 ≤ count ∧ count ≤ 32) ∧ num = 0 ∧ den = 0))
theorem polE_good {kind cap num den width count keys slots every seg : Int} (h : polP kind cap num den width count keys slots every seg) : polE kind cap num den width count keys slots every seg = 0 := by
  unfold polE polB
  rw [if_pos]
  unfold polP at h
  rw [decide_eq_true_iff]
  omega
theorem polE_bad' {kind cap num den width count keys slots every seg : Int} (h : ¬ polP kind cap num den width count keys slots every seg) : polE kind cap num den width count keys slots every seg = 40 :=
  polE_bad (fun h2 => h (by
    unfold polB at h2
    rw [decide_eq_true_iff] at h2
    unfold polP
    omega))
set_option maxRecDepth 100000 in
set_option maxHeartbeats 8000000 in
theorem refRight_fn (w : World) (p : Pol) : Calls Try.prog 29 #[p.val] w fun e w' => e = .returned (.int .i64 p.E) ∧ Below w.heap.size w w' := by
  obtain ⟨kind, cap, num, den, width, count, keys, slots, every, seg⟩ := p
  simp only [Pol.val, Pol.cells, Pol.E]
  have HB := Aside0.mk (fun (C : Array Value) => (Below.refl w.heap.size w).alloc (Nat.le_refl _) (.cells C 23 (0, 0)))
  generalize hr : polE kind cap num den width count keys slots every seg = r
  have HR := Aside0.mk hr
  clear hr
  by_cases k1 : kind = 1
  · have HK := Aside0.mk k1
    go_enter Try.func29, Try.ntmps29
    go_wp2_with fail
    refine (in_fn _ _ _ _).mono ?_
    rintro e w1 ⟨rfl, hw⟩
    rw [hw]
    clear hw w1
    by_cases h1 : 1 ≤ cap ∧ cap ≤ 1048576
    · rw [decide_eq_true h1]
      have H1 := Aside0.mk h1
      clear h1
      go_wp2_with fail
      refine (in_fn _ _ _ _).mono ?_
      rintro e w2 ⟨rfl, hw⟩
      rw [hw]
      clear hw w2
      by_cases h2 : 1 ≤ keys ∧ keys ≤ 1000
      · rw [decide_eq_true h2]
        have H2 := Aside0.mk h2
        clear h2
        go_wp2_with fail
        refine (in_fn _ _ _ _).mono ?_
        rintro e w3 ⟨rfl, hw⟩
        rw [hw]
        clear hw w3
        by_cases h3 : 1 ≤ slots ∧ slots ≤ 64
        · rw [decide_eq_true h3]
          have H3 := Aside0.mk h3
          clear h3
          go_wp2_with fail
          refine (in_fn _ _ _ _).mono ?_
          rintro e w4 ⟨rfl, hw⟩
          rw [hw]
          clear hw w4
          by_cases h4 : 0 ≤ every ∧ every ≤ 1000
          · rw [decide_eq_true h4]
            have H4 := Aside0.mk h4
            clear h4
            go_wp2_with fail
            refine (in_fn _ _ _ _).mono ?_
            rintro e w5 ⟨rfl, hw⟩
            rw [hw]
            clear hw w5
            by_cases h5 : 1 ≤ seg ∧ seg ≤ 1000
            · rw [decide_eq_true h5]
              have H5 := Aside0.mk h5
              clear h5
              go_wp2_with fail
              refine (in_fn _ _ _ _).mono ?_
              rintro e w6 ⟨rfl, hw⟩
              rw [hw]
              clear hw w6
              by_cases h6 : 1 ≤ num ∧ num ≤ 65536
              · rw [decide_eq_true h6]
                have H6 := Aside0.mk h6
                clear h6
                go_wp2_with fail
                refine (in_fn _ _ _ _).mono ?_
                rintro e w7 ⟨rfl, hw⟩
                rw [hw]
                clear hw w7
                by_cases h7 : 1 ≤ den ∧ den ≤ 65536
                · rw [decide_eq_true h7]
                  have H7 := Aside0.mk h7
                  clear h7
                  by_cases z8 : width = 0
                  · have H8 := Aside0.mk z8
                    by_cases z9 : count = 0
                    · have H9 := Aside0.mk z9
                      go_wp2_with fail
                      go_ret
                      exact ⟨congrArg (fun b => Ending.returned (Value.int .i64 b)) (by rw [← HR.out, polE_good (by unfold polP; have := HK.out; have := H1.out; have := H2.out; have := H3.out; have := H4.out; have := H5.out; have := H6.out; have := H7.out; have := H8.out; have := H9.out; omega)]), HB.out _⟩
                    · have H9 := Aside0.mk z9
                      go_wp2_with fail
                      go_ret
                      exact ⟨congrArg (fun b => Ending.returned (Value.int .i64 b)) (by rw [← HR.out, polE_bad' (by unfold polP; have := HK.out; have := H1.out; have := H2.out; have := H3.out; have := H4.out; have := H5.out; have := H6.out; have := H7.out; have := H8.out; have := H9.out; omega)]), HB.out _⟩
                  · have H8 := Aside0.mk z8
                    go_wp2_with fail
                    go_ret
                    exact ⟨congrArg (fun b => Ending.returned (Value.int .i64 b)) (by rw [← HR.out, polE_bad' (by unfold polP; have := HK.out; have := H1.out; have := H2.out; have := H3.out; have := H4.out; have := H5.out; have := H6.out; have := H7.out; have := H8.out; omega)]), HB.out _⟩
                · rw [decide_eq_false h7]
                  have H7 := Aside0.mk h7
                  clear h7
                  go_wp2_with fail
                  go_ret
                  exact ⟨congrArg (fun b => Ending.returned (Value.int .i64 b)) (by rw [← HR.out, polE_bad' (by unfold polP; have := HK.out; have := H1.out; have := H2.out; have := H3.out; have := H4.out; have := H5.out; have := H6.out; have := H7.out; omega)]), HB.out _⟩
              · rw [decide_eq_false h6]
                have H6 := Aside0.mk h6
                clear h6
                go_wp2_with fail
                go_ret
                exact ⟨congrArg (fun b => Ending.returned (Value.int .i64 b)) (by rw [← HR.out, polE_bad' (by unfold polP; have := HK.out; have := H1.out; have := H2.out; have := H3.out; have := H4.out; have := H5.out; have := H6.out; omega)]), HB.out _⟩
            · rw [decide_eq_false h5]
              have H5 := Aside0.mk h5
              clear h5
              go_wp2_with fail
              refine (in_fn _ _ _ _).mono ?_
              rintro e w10 ⟨rfl, hw⟩
              rw [hw]
              clear hw w10
              by_cases h10 : 1 ≤ num ∧ num ≤ 65536
              · rw [decide_eq_true h10]
                have H10 := Aside0.mk h10
                clear h10
                go_wp2_with fail
                refine (in_fn _ _ _ _).mono ?_
                rintro e w11 ⟨rfl, hw⟩
                rw [hw]
                clear hw w11
                by_cases h11 : 1 ≤ den ∧ den ≤ 65536
                · rw [decide_eq_true h11]
                  have H11 := Aside0.mk h11
                  clear h11
                  by_cases z12 : width = 0
                  · have H12 := Aside0.mk z12
                    by_cases z13 : count = 0
                    · have H13 := Aside0.mk z13
                      go_wp2_with fail
                      go_ret
                      exact ⟨congrArg (fun b => Ending.returned (Value.int .i64 b)) (by rw [← HR.out, polE_bad' (by unfold polP; have := HK.out; have := H1.out; have := H2.out; have := H3.out; have := H4.out; have := H5.out; have := H10.out; have := H11.out; have := H12.out; have := H13.out; omega)]), HB.out _⟩
                    · have H13 := Aside0.mk z13
                      go_wp2_with fail
                      go_ret
                      exact ⟨congrArg (fun b => Ending.returned (Value.int .i64 b)) (by rw [← HR.out, polE_bad' (by unfold polP; have := HK.out; have := H1.out; have := H2.out; have := H3.out; have := H4.out; have := H5.out; have := H10.out; have := H11.out; have := H12.out; have := H13.out; omega)]), HB.out _⟩
                  · have H12 := Aside0.mk z12
                    go_wp2_with fail
                    go_ret
                    exact ⟨congrArg (fun b => Ending.returned (Value.int .i64 b)) (by rw [← HR.out, polE_bad' (by unfold polP; have := HK.out; have := H1.out; have := H2.out; have := H3.out; have := H4.out; have := H5.out; have := H10.out; have := H11.out; have := H12.out; omega)]), HB.out _⟩
                · rw [decide_eq_false h11]
                  have H11 := Aside0.mk h11
                  clear h11
                  go_wp2_with fail
                  go_ret
                  exact ⟨congrArg (fun b => Ending.returned (Value.int .i64 b)) (by rw [← HR.out, polE_bad' (by unfold polP; have := HK.out; have := H1.out; have := H2.out; have := H3.out; have := H4.out; have := H5.out; have := H10.out; have := H11.out; omega)]), HB.out _⟩
              · rw [decide_eq_false h10]
                have H10 := Aside0.mk h10
                clear h10
                go_wp2_with fail
                go_ret
                exact ⟨congrArg (fun b => Ending.returned (Value.int .i64 b)) (by rw [← HR.out, polE_bad' (by unfold polP; have := HK.out; have := H1.out; have := H2.out; have := H3.out; have := H4.out; have := H5.out; have := H10.out; omega)]), HB.out _⟩
          · rw [decide_eq_false h4]
            have H4 := Aside0.mk h4
            clear h4
            go_wp2_with fail
            refine (in_fn _ _ _ _).mono ?_
            rintro e w14 ⟨rfl, hw⟩
            rw [hw]
            clear hw w14
            by_cases h14 : 1 ≤ num ∧ num ≤ 65536
            · rw [decide_eq_true h14]
              have H14 := Aside0.mk h14
              clear h14
              go_wp2_with fail
              refine (in_fn _ _ _ _).mono ?_
              rintro e w15 ⟨rfl, hw⟩
              rw [hw]
              clear hw w15
              by_cases h15 : 1 ≤ den ∧ den ≤ 65536
              · rw [decide_eq_true h15]
                have H15 := Aside0.mk h15
                clear h15
                by_cases z16 : width = 0
                · have H16 := Aside0.mk z16
                  by_cases z17 : count = 0
                  · have H17 := Aside0.mk z17
                    go_wp2_with fail
                    go_ret
                    exact ⟨congrArg (fun b => Ending.returned (Value.int .i64 b)) (by rw [← HR.out, polE_bad' (by unfold polP; have := HK.out; have := H1.out; have := H2.out; have := H3.out; have := H4.out; have := H14.out; have := H15.out; have := H16.out; have := H17.out; omega)]), HB.out _⟩
                  · have H17 := Aside0.mk z17
                    go_wp2_with fail
                    go_ret
                    exact ⟨congrArg (fun b => Ending.returned (Value.int .i64 b)) (by rw [← HR.out, polE_bad' (by unfold polP; have := HK.out; have := H1.out; have := H2.out; have := H3.out; have := H4.out; have := H14.out; have := H15.out; have := H16.out; have := H17.out; omega)]), HB.out _⟩
                · have H16 := Aside0.mk z16
                  go_wp2_with fail
                  go_ret
                  exact ⟨congrArg (fun b => Ending.returned (Value.int .i64 b)) (by rw [← HR.out, polE_bad' (by unfold polP; have := HK.out; have := H1.out; have := H2.out; have := H3.out; have := H4.out; have := H14.out; have := H15.out; have := H16.out; omega)]), HB.out _⟩
              · rw [decide_eq_false h15]
                have H15 := Aside0.mk h15
                clear h15
                go_wp2_with fail
                go_ret
                exact ⟨congrArg (fun b => Ending.returned (Value.int .i64 b)) (by rw [← HR.out, polE_bad' (by unfold polP; have := HK.out; have := H1.out; have := H2.out; have := H3.out; have := H4.out; have := H14.out; have := H15.out; omega)]), HB.out _⟩
            · rw [decide_eq_false h14]
              have H14 := Aside0.mk h14
              clear h14
              go_wp2_with fail
              go_ret
              exact ⟨congrArg (fun b => Ending.returned (Value.int .i64 b)) (by rw [← HR.out, polE_bad' (by unfold polP; have := HK.out; have := H1.out; have := H2.out; have := H3.out; have := H4.out; have := H14.out; omega)]), HB.out _⟩
        · rw [decide_eq_false h3]
          have H3 := Aside0.mk h3
          clear h3
          go_wp2_with fail
          refine (in_fn _ _ _ _).mono ?_
          rintro e w18 ⟨rfl, hw⟩
          rw [hw]
          clear hw w18
          by_cases h18 : 1 ≤ num ∧ num ≤ 65536
          · rw [decide_eq_true h18]
            have H18 := Aside0.mk h18
            clear h18
            go_wp2_with fail
            refine (in_fn _ _ _ _).mono ?_
            rintro e w19 ⟨rfl, hw⟩
            rw [hw]
            clear hw w19
            by_cases h19 : 1 ≤ den ∧ den ≤ 65536
            · rw [decide_eq_true h19]
              have H19 := Aside0.mk h19
              clear h19
              by_cases z20 : width = 0
              · have H20 := Aside0.mk z20
                by_cases z21 : count = 0
                · have H21 := Aside0.mk z21
                  go_wp2_with fail
                  go_ret
                  exact ⟨congrArg (fun b => Ending.returned (Value.int .i64 b)) (by rw [← HR.out, polE_bad' (by unfold polP; have := HK.out; have := H1.out; have := H2.out; have := H3.out; have := H18.out; have := H19.out; have := H20.out; have := H21.out; omega)]), HB.out _⟩
                · have H21 := Aside0.mk z21
                  go_wp2_with fail
                  go_ret
                  exact ⟨congrArg (fun b => Ending.returned (Value.int .i64 b)) (by rw [← HR.out, polE_bad' (by unfold polP; have := HK.out; have := H1.out; have := H2.out; have := H3.out; have := H18.out; have := H19.out; have := H20.out; have := H21.out; omega)]), HB.out _⟩
              · have H20 := Aside0.mk z20
                go_wp2_with fail
                go_ret
                exact ⟨congrArg (fun b => Ending.returned (Value.int .i64 b)) (by rw [← HR.out, polE_bad' (by unfold polP; have := HK.out; have := H1.out; have := H2.out; have := H3.out; have := H18.out; have := H19.out; have := H20.out; omega)]), HB.out _⟩
            · rw [decide_eq_false h19]
              have H19 := Aside0.mk h19
              clear h19
              go_wp2_with fail
              go_ret
              exact ⟨congrArg (fun b => Ending.returned (Value.int .i64 b)) (by rw [← HR.out, polE_bad' (by unfold polP; have := HK.out; have := H1.out; have := H2.out; have := H3.out; have := H18.out; have := H19.out; omega)]), HB.out _⟩
          · rw [decide_eq_false h18]
            have H18 := Aside0.mk h18
            clear h18
            go_wp2_with fail
            go_ret
            exact ⟨congrArg (fun b => Ending.returned (Value.int .i64 b)) (by rw [← HR.out, polE_bad' (by unfold polP; have := HK.out; have := H1.out; have := H2.out; have := H3.out; have := H18.out; omega)]), HB.out _⟩
      · rw [decide_eq_false h2]
        have H2 := Aside0.mk h2
        clear h2
        go_wp2_with fail
        refine (in_fn _ _ _ _).mono ?_
        rintro e w22 ⟨rfl, hw⟩
        rw [hw]
        clear hw w22
        by_cases h22 : 1 ≤ num ∧ num ≤ 65536
        · rw [decide_eq_true h22]
          have H22 := Aside0.mk h22
          clear h22
          go_wp2_with fail
          refine (in_fn _ _ _ _).mono ?_
          rintro e w23 ⟨rfl, hw⟩
          rw [hw]
          clear hw w23
          by_cases h23 : 1 ≤ den ∧ den ≤ 65536
          · rw [decide_eq_true h23]
            have H23 := Aside0.mk h23
            clear h23
            by_cases z24 : width = 0
            · have H24 := Aside0.mk z24
              by_cases z25 : count = 0
              · have H25 := Aside0.mk z25
                go_wp2_with fail
                go_ret
                exact ⟨congrArg (fun b => Ending.returned (Value.int .i64 b)) (by rw [← HR.out, polE_bad' (by unfold polP; have := HK.out; have := H1.out; have := H2.out; have := H22.out; have := H23.out; have := H24.out; have := H25.out; omega)]), HB.out _⟩
              · have H25 := Aside0.mk z25
                go_wp2_with fail
                go_ret
                exact ⟨congrArg (fun b => Ending.returned (Value.int .i64 b)) (by rw [← HR.out, polE_bad' (by unfold polP; have := HK.out; have := H1.out; have := H2.out; have := H22.out; have := H23.out; have := H24.out; have := H25.out; omega)]), HB.out _⟩
            · have H24 := Aside0.mk z24
              go_wp2_with fail
              go_ret
              exact ⟨congrArg (fun b => Ending.returned (Value.int .i64 b)) (by rw [← HR.out, polE_bad' (by unfold polP; have := HK.out; have := H1.out; have := H2.out; have := H22.out; have := H23.out; have := H24.out; omega)]), HB.out _⟩
          · rw [decide_eq_false h23]
            have H23 := Aside0.mk h23
            clear h23
            go_wp2_with fail
            go_ret
            exact ⟨congrArg (fun b => Ending.returned (Value.int .i64 b)) (by rw [← HR.out, polE_bad' (by unfold polP; have := HK.out; have := H1.out; have := H2.out; have := H22.out; have := H23.out; omega)]), HB.out _⟩
        · rw [decide_eq_false h22]
          have H22 := Aside0.mk h22
          clear h22
          go_wp2_with fail
          go_ret
          exact ⟨congrArg (fun b => Ending.returned (Value.int .i64 b)) (by rw [← HR.out, polE_bad' (by unfold polP; have := HK.out; have := H1.out; have := H2.out; have := H22.out; omega)]), HB.out _⟩
    · rw [decide_eq_false h1]
      have H1 := Aside0.mk h1
      clear h1
      go_wp2_with fail
      refine (in_fn _ _ _ _).mono ?_
      rintro e w26 ⟨rfl, hw⟩
      rw [hw]
      clear hw w26
      by_cases h26 : 1 ≤ num ∧ num ≤ 65536
      · rw [decide_eq_true h26]
        have H26 := Aside0.mk h26
        clear h26
        go_wp2_with fail
        refine (in_fn _ _ _ _).mono ?_
        rintro e w27 ⟨rfl, hw⟩
        rw [hw]
        clear hw w27
        by_cases h27 : 1 ≤ den ∧ den ≤ 65536
        · rw [decide_eq_true h27]
          have H27 := Aside0.mk h27
          clear h27
          by_cases z28 : width = 0
          · have H28 := Aside0.mk z28
            by_cases z29 : count = 0
            · have H29 := Aside0.mk z29
              go_wp2_with fail
              go_ret
              exact ⟨congrArg (fun b => Ending.returned (Value.int .i64 b)) (by rw [← HR.out, polE_bad' (by unfold polP; have := HK.out; have := H1.out; have := H26.out; have := H27.out; have := H28.out; have := H29.out; omega)]), HB.out _⟩
            · have H29 := Aside0.mk z29
              go_wp2_with fail
              go_ret
              exact ⟨congrArg (fun b => Ending.returned (Value.int .i64 b)) (by rw [← HR.out, polE_bad' (by unfold polP; have := HK.out; have := H1.out; have := H26.out; have := H27.out; have := H28.out; have := H29.out; omega)]), HB.out _⟩
          · have H28 := Aside0.mk z28
            go_wp2_with fail
            go_ret
            exact ⟨congrArg (fun b => Ending.returned (Value.int .i64 b)) (by rw [← HR.out, polE_bad' (by unfold polP; have := HK.out; have := H1.out; have := H26.out; have := H27.out; have := H28.out; omega)]), HB.out _⟩
        · rw [decide_eq_false h27]
          have H27 := Aside0.mk h27
          clear h27
          go_wp2_with fail
          go_ret
          exact ⟨congrArg (fun b => Ending.returned (Value.int .i64 b)) (by rw [← HR.out, polE_bad' (by unfold polP; have := HK.out; have := H1.out; have := H26.out; have := H27.out; omega)]), HB.out _⟩
      · rw [decide_eq_false h26]
        have H26 := Aside0.mk h26
        clear h26
        go_wp2_with fail
        go_ret
        exact ⟨congrArg (fun b => Ending.returned (Value.int .i64 b)) (by rw [← HR.out, polE_bad' (by unfold polP; have := HK.out; have := H1.out; have := H26.out; omega)]), HB.out _⟩
  by_cases k2 : kind = 2
  · have HK := Aside0.mk k2
    clear k1
    go_enter Try.func29, Try.ntmps29
    go_wp2_with fail
    refine (in_fn _ _ _ _).mono ?_
    rintro e w30 ⟨rfl, hw⟩
    rw [hw]
    clear hw w30
    by_cases h30 : 1 ≤ cap ∧ cap ≤ 1048576
    · rw [decide_eq_true h30]
      have H30 := Aside0.mk h30
      clear h30
      go_wp2_with fail
      refine (in_fn _ _ _ _).mono ?_
      rintro e w31 ⟨rfl, hw⟩
      rw [hw]
      clear hw w31
      by_cases h31 : 1 ≤ keys ∧ keys ≤ 1000
      · rw [decide_eq_true h31]
        have H31 := Aside0.mk h31
        clear h31
        go_wp2_with fail
        refine (in_fn _ _ _ _).mono ?_
        rintro e w32 ⟨rfl, hw⟩
        rw [hw]
        clear hw w32
        by_cases h32 : 1 ≤ slots ∧ slots ≤ 64
        · rw [decide_eq_true h32]
          have H32 := Aside0.mk h32
          clear h32
          go_wp2_with fail
          refine (in_fn _ _ _ _).mono ?_
          rintro e w33 ⟨rfl, hw⟩
          rw [hw]
          clear hw w33
          by_cases h33 : 0 ≤ every ∧ every ≤ 1000
          · rw [decide_eq_true h33]
            have H33 := Aside0.mk h33
            clear h33
            go_wp2_with fail
            refine (in_fn _ _ _ _).mono ?_
            rintro e w34 ⟨rfl, hw⟩
            rw [hw]
            clear hw w34
            by_cases h34 : 1 ≤ seg ∧ seg ≤ 1000
            · rw [decide_eq_true h34]
              have H34 := Aside0.mk h34
              clear h34
              go_wp2_with fail
              refine (in_fn _ _ _ _).mono ?_
              rintro e w35 ⟨rfl, hw⟩
              rw [hw]
              clear hw w35
              by_cases h35 : 1 ≤ width ∧ width ≤ 1048576
              · rw [decide_eq_true h35]
                have H35 := Aside0.mk h35
                clear h35
                go_wp2_with fail
                refine (in_fn _ _ _ _).mono ?_
                rintro e w36 ⟨rfl, hw⟩
                rw [hw]
                clear hw w36
                by_cases h36 : 1 ≤ count ∧ count ≤ 32
                · rw [decide_eq_true h36]
                  have H36 := Aside0.mk h36
                  clear h36
                  by_cases z37 : num = 0
                  · have H37 := Aside0.mk z37
                    by_cases z38 : den = 0
                    · have H38 := Aside0.mk z38
                      go_wp2_with fail
                      go_ret
                      exact ⟨congrArg (fun b => Ending.returned (Value.int .i64 b)) (by rw [← HR.out, polE_good (by unfold polP; have := HK.out; have := H30.out; have := H31.out; have := H32.out; have := H33.out; have := H34.out; have := H35.out; have := H36.out; have := H37.out; have := H38.out; omega)]), HB.out _⟩
                    · have H38 := Aside0.mk z38
                      go_wp2_with fail
                      go_ret
                      exact ⟨congrArg (fun b => Ending.returned (Value.int .i64 b)) (by rw [← HR.out, polE_bad' (by unfold polP; have := HK.out; have := H30.out; have := H31.out; have := H32.out; have := H33.out; have := H34.out; have := H35.out; have := H36.out; have := H37.out; have := H38.out; omega)]), HB.out _⟩
                  · have H37 := Aside0.mk z37
                    go_wp2_with fail
                    go_ret
                    exact ⟨congrArg (fun b => Ending.returned (Value.int .i64 b)) (by rw [← HR.out, polE_bad' (by unfold polP; have := HK.out; have := H30.out; have := H31.out; have := H32.out; have := H33.out; have := H34.out; have := H35.out; have := H36.out; have := H37.out; omega)]), HB.out _⟩
                · rw [decide_eq_false h36]
                  have H36 := Aside0.mk h36
                  clear h36
                  go_wp2_with fail
                  go_ret
                  exact ⟨congrArg (fun b => Ending.returned (Value.int .i64 b)) (by rw [← HR.out, polE_bad' (by unfold polP; have := HK.out; have := H30.out; have := H31.out; have := H32.out; have := H33.out; have := H34.out; have := H35.out; have := H36.out; omega)]), HB.out _⟩
              · rw [decide_eq_false h35]
                have H35 := Aside0.mk h35
                clear h35
                go_wp2_with fail
                go_ret
                exact ⟨congrArg (fun b => Ending.returned (Value.int .i64 b)) (by rw [← HR.out, polE_bad' (by unfold polP; have := HK.out; have := H30.out; have := H31.out; have := H32.out; have := H33.out; have := H34.out; have := H35.out; omega)]), HB.out _⟩
            · rw [decide_eq_false h34]
              have H34 := Aside0.mk h34
              clear h34
              go_wp2_with fail
              refine (in_fn _ _ _ _).mono ?_
              rintro e w39 ⟨rfl, hw⟩
              rw [hw]
              clear hw w39
              by_cases h39 : 1 ≤ width ∧ width ≤ 1048576
              · rw [decide_eq_true h39]
                have H39 := Aside0.mk h39
                clear h39
                go_wp2_with fail
                refine (in_fn _ _ _ _).mono ?_
                rintro e w40 ⟨rfl, hw⟩
                rw [hw]
                clear hw w40
                by_cases h40 : 1 ≤ count ∧ count ≤ 32
                · rw [decide_eq_true h40]
                  have H40 := Aside0.mk h40
                  clear h40
                  by_cases z41 : num = 0
                  · have H41 := Aside0.mk z41
                    by_cases z42 : den = 0
                    · have H42 := Aside0.mk z42
                      go_wp2_with fail
                      go_ret
                      exact ⟨congrArg (fun b => Ending.returned (Value.int .i64 b)) (by rw [← HR.out, polE_bad' (by unfold polP; have := HK.out; have := H30.out; have := H31.out; have := H32.out; have := H33.out; have := H34.out; have := H39.out; have := H40.out; have := H41.out; have := H42.out; omega)]), HB.out _⟩
                    · have H42 := Aside0.mk z42
                      go_wp2_with fail
                      go_ret
                      exact ⟨congrArg (fun b => Ending.returned (Value.int .i64 b)) (by rw [← HR.out, polE_bad' (by unfold polP; have := HK.out; have := H30.out; have := H31.out; have := H32.out; have := H33.out; have := H34.out; have := H39.out; have := H40.out; have := H41.out; have := H42.out; omega)]), HB.out _⟩
                  · have H41 := Aside0.mk z41
                    go_wp2_with fail
                    go_ret
                    exact ⟨congrArg (fun b => Ending.returned (Value.int .i64 b)) (by rw [← HR.out, polE_bad' (by unfold polP; have := HK.out; have := H30.out; have := H31.out; have := H32.out; have := H33.out; have := H34.out; have := H39.out; have := H40.out; have := H41.out; omega)]), HB.out _⟩
                · rw [decide_eq_false h40]
                  have H40 := Aside0.mk h40
                  clear h40
                  go_wp2_with fail
                  go_ret
                  exact ⟨congrArg (fun b => Ending.returned (Value.int .i64 b)) (by rw [← HR.out, polE_bad' (by unfold polP; have := HK.out; have := H30.out; have := H31.out; have := H32.out; have := H33.out; have := H34.out; have := H39.out; have := H40.out; omega)]), HB.out _⟩
              · rw [decide_eq_false h39]
                have H39 := Aside0.mk h39
                clear h39
                go_wp2_with fail
                go_ret
                exact ⟨congrArg (fun b => Ending.returned (Value.int .i64 b)) (by rw [← HR.out, polE_bad' (by unfold polP; have := HK.out; have := H30.out; have := H31.out; have := H32.out; have := H33.out; have := H34.out; have := H39.out; omega)]), HB.out _⟩
          · rw [decide_eq_false h33]
            have H33 := Aside0.mk h33
            clear h33
            go_wp2_with fail
            refine (in_fn _ _ _ _).mono ?_
            rintro e w43 ⟨rfl, hw⟩
            rw [hw]
            clear hw w43
            by_cases h43 : 1 ≤ width ∧ width ≤ 1048576
            · rw [decide_eq_true h43]
              have H43 := Aside0.mk h43
              clear h43
              go_wp2_with fail
              refine (in_fn _ _ _ _).mono ?_
              rintro e w44 ⟨rfl, hw⟩
              rw [hw]
              clear hw w44
              by_cases h44 : 1 ≤ count ∧ count ≤ 32
              · rw [decide_eq_true h44]
                have H44 := Aside0.mk h44
                clear h44
                by_cases z45 : num = 0
                · have H45 := Aside0.mk z45
                  by_cases z46 : den = 0
                  · have H46 := Aside0.mk z46
                    go_wp2_with fail
                    go_ret
                    exact ⟨congrArg (fun b => Ending.returned (Value.int .i64 b)) (by rw [← HR.out, polE_bad' (by unfold polP; have := HK.out; have := H30.out; have := H31.out; have := H32.out; have := H33.out; have := H43.out; have := H44.out; have := H45.out; have := H46.out; omega)]), HB.out _⟩
                  · have H46 := Aside0.mk z46
                    go_wp2_with fail
                    go_ret
                    exact ⟨congrArg (fun b => Ending.returned (Value.int .i64 b)) (by rw [← HR.out, polE_bad' (by unfold polP; have := HK.out; have := H30.out; have := H31.out; have := H32.out; have := H33.out; have := H43.out; have := H44.out; have := H45.out; have := H46.out; omega)]), HB.out _⟩
                · have H45 := Aside0.mk z45
                  go_wp2_with fail
                  go_ret
                  exact ⟨congrArg (fun b => Ending.returned (Value.int .i64 b)) (by rw [← HR.out, polE_bad' (by unfold polP; have := HK.out; have := H30.out; have := H31.out; have := H32.out; have := H33.out; have := H43.out; have := H44.out; have := H45.out; omega)]), HB.out _⟩
              · rw [decide_eq_false h44]
                have H44 := Aside0.mk h44
                clear h44
                go_wp2_with fail
                go_ret
                exact ⟨congrArg (fun b => Ending.returned (Value.int .i64 b)) (by rw [← HR.out, polE_bad' (by unfold polP; have := HK.out; have := H30.out; have := H31.out; have := H32.out; have := H33.out; have := H43.out; have := H44.out; omega)]), HB.out _⟩
            · rw [decide_eq_false h43]
              have H43 := Aside0.mk h43
              clear h43
              go_wp2_with fail
              go_ret
              exact ⟨congrArg (fun b => Ending.returned (Value.int .i64 b)) (by rw [← HR.out, polE_bad' (by unfold polP; have := HK.out; have := H30.out; have := H31.out; have := H32.out; have := H33.out; have := H43.out; omega)]), HB.out _⟩
        · rw [decide_eq_false h32]
          have H32 := Aside0.mk h32
          clear h32
          go_wp2_with fail
          refine (in_fn _ _ _ _).mono ?_
          rintro e w47 ⟨rfl, hw⟩
          rw [hw]
          clear hw w47
          by_cases h47 : 1 ≤ width ∧ width ≤ 1048576
          · rw [decide_eq_true h47]
            have H47 := Aside0.mk h47
            clear h47
            go_wp2_with fail
            refine (in_fn _ _ _ _).mono ?_
            rintro e w48 ⟨rfl, hw⟩
            rw [hw]
            clear hw w48
            by_cases h48 : 1 ≤ count ∧ count ≤ 32
            · rw [decide_eq_true h48]
              have H48 := Aside0.mk h48
              clear h48
              by_cases z49 : num = 0
              · have H49 := Aside0.mk z49
                by_cases z50 : den = 0
                · have H50 := Aside0.mk z50
                  go_wp2_with fail
                  go_ret
                  exact ⟨congrArg (fun b => Ending.returned (Value.int .i64 b)) (by rw [← HR.out, polE_bad' (by unfold polP; have := HK.out; have := H30.out; have := H31.out; have := H32.out; have := H47.out; have := H48.out; have := H49.out; have := H50.out; omega)]), HB.out _⟩
                · have H50 := Aside0.mk z50
                  go_wp2_with fail
                  go_ret
                  exact ⟨congrArg (fun b => Ending.returned (Value.int .i64 b)) (by rw [← HR.out, polE_bad' (by unfold polP; have := HK.out; have := H30.out; have := H31.out; have := H32.out; have := H47.out; have := H48.out; have := H49.out; have := H50.out; omega)]), HB.out _⟩
              · have H49 := Aside0.mk z49
                go_wp2_with fail
                go_ret
                exact ⟨congrArg (fun b => Ending.returned (Value.int .i64 b)) (by rw [← HR.out, polE_bad' (by unfold polP; have := HK.out; have := H30.out; have := H31.out; have := H32.out; have := H47.out; have := H48.out; have := H49.out; omega)]), HB.out _⟩
            · rw [decide_eq_false h48]
              have H48 := Aside0.mk h48
              clear h48
              go_wp2_with fail
              go_ret
              exact ⟨congrArg (fun b => Ending.returned (Value.int .i64 b)) (by rw [← HR.out, polE_bad' (by unfold polP; have := HK.out; have := H30.out; have := H31.out; have := H32.out; have := H47.out; have := H48.out; omega)]), HB.out _⟩
          · rw [decide_eq_false h47]
            have H47 := Aside0.mk h47
            clear h47
            go_wp2_with fail
            go_ret
            exact ⟨congrArg (fun b => Ending.returned (Value.int .i64 b)) (by rw [← HR.out, polE_bad' (by unfold polP; have := HK.out; have := H30.out; have := H31.out; have := H32.out; have := H47.out; omega)]), HB.out _⟩
      · rw [decide_eq_false h31]
        have H31 := Aside0.mk h31
        clear h31
        go_wp2_with fail
        refine (in_fn _ _ _ _).mono ?_
        rintro e w51 ⟨rfl, hw⟩
        rw [hw]
        clear hw w51
        by_cases h51 : 1 ≤ width ∧ width ≤ 1048576
        · rw [decide_eq_true h51]
          have H51 := Aside0.mk h51
          clear h51
          go_wp2_with fail
          refine (in_fn _ _ _ _).mono ?_
          rintro e w52 ⟨rfl, hw⟩
          rw [hw]
          clear hw w52
          by_cases h52 : 1 ≤ count ∧ count ≤ 32
          · rw [decide_eq_true h52]
            have H52 := Aside0.mk h52
            clear h52
            by_cases z53 : num = 0
            · have H53 := Aside0.mk z53
              by_cases z54 : den = 0
              · have H54 := Aside0.mk z54
                go_wp2_with fail
                go_ret
                exact ⟨congrArg (fun b => Ending.returned (Value.int .i64 b)) (by rw [← HR.out, polE_bad' (by unfold polP; have := HK.out; have := H30.out; have := H31.out; have := H51.out; have := H52.out; have := H53.out; have := H54.out; omega)]), HB.out _⟩
              · have H54 := Aside0.mk z54
                go_wp2_with fail
                go_ret
                exact ⟨congrArg (fun b => Ending.returned (Value.int .i64 b)) (by rw [← HR.out, polE_bad' (by unfold polP; have := HK.out; have := H30.out; have := H31.out; have := H51.out; have := H52.out; have := H53.out; have := H54.out; omega)]), HB.out _⟩
            · have H53 := Aside0.mk z53
              go_wp2_with fail
              go_ret
              exact ⟨congrArg (fun b => Ending.returned (Value.int .i64 b)) (by rw [← HR.out, polE_bad' (by unfold polP; have := HK.out; have := H30.out; have := H31.out; have := H51.out; have := H52.out; have := H53.out; omega)]), HB.out _⟩
          · rw [decide_eq_false h52]
            have H52 := Aside0.mk h52
            clear h52
            go_wp2_with fail
            go_ret
            exact ⟨congrArg (fun b => Ending.returned (Value.int .i64 b)) (by rw [← HR.out, polE_bad' (by unfold polP; have := HK.out; have := H30.out; have := H31.out; have := H51.out; have := H52.out; omega)]), HB.out _⟩
        · rw [decide_eq_false h51]
          have H51 := Aside0.mk h51
          clear h51
          go_wp2_with fail
          go_ret
          exact ⟨congrArg (fun b => Ending.returned (Value.int .i64 b)) (by rw [← HR.out, polE_bad' (by unfold polP; have := HK.out; have := H30.out; have := H31.out; have := H51.out; omega)]), HB.out _⟩
    · rw [decide_eq_false h30]
      have H30 := Aside0.mk h30
      clear h30
      go_wp2_with fail
      refine (in_fn _ _ _ _).mono ?_
      rintro e w55 ⟨rfl, hw⟩
      rw [hw]
      clear hw w55
      by_cases h55 : 1 ≤ width ∧ width ≤ 1048576
      · rw [decide_eq_true h55]
        have H55 := Aside0.mk h55
        clear h55
        go_wp2_with fail
        refine (in_fn _ _ _ _).mono ?_
        rintro e w56 ⟨rfl, hw⟩
        rw [hw]
        clear hw w56
        by_cases h56 : 1 ≤ count ∧ count ≤ 32
        · rw [decide_eq_true h56]
          have H56 := Aside0.mk h56
          clear h56
          by_cases z57 : num = 0
          · have H57 := Aside0.mk z57
            by_cases z58 : den = 0
            · have H58 := Aside0.mk z58
              go_wp2_with fail
              go_ret
              exact ⟨congrArg (fun b => Ending.returned (Value.int .i64 b)) (by rw [← HR.out, polE_bad' (by unfold polP; have := HK.out; have := H30.out; have := H55.out; have := H56.out; have := H57.out; have := H58.out; omega)]), HB.out _⟩
            · have H58 := Aside0.mk z58
              go_wp2_with fail
              go_ret
              exact ⟨congrArg (fun b => Ending.returned (Value.int .i64 b)) (by rw [← HR.out, polE_bad' (by unfold polP; have := HK.out; have := H30.out; have := H55.out; have := H56.out; have := H57.out; have := H58.out; omega)]), HB.out _⟩
          · have H57 := Aside0.mk z57
            go_wp2_with fail
            go_ret
            exact ⟨congrArg (fun b => Ending.returned (Value.int .i64 b)) (by rw [← HR.out, polE_bad' (by unfold polP; have := HK.out; have := H30.out; have := H55.out; have := H56.out; have := H57.out; omega)]), HB.out _⟩
        · rw [decide_eq_false h56]
          have H56 := Aside0.mk h56
          clear h56
          go_wp2_with fail
          go_ret
          exact ⟨congrArg (fun b => Ending.returned (Value.int .i64 b)) (by rw [← HR.out, polE_bad' (by unfold polP; have := HK.out; have := H30.out; have := H55.out; have := H56.out; omega)]), HB.out _⟩
      · rw [decide_eq_false h55]
        have H55 := Aside0.mk h55
        clear h55
        go_wp2_with fail
        go_ret
        exact ⟨congrArg (fun b => Ending.returned (Value.int .i64 b)) (by rw [← HR.out, polE_bad' (by unfold polP; have := HK.out; have := H30.out; have := H55.out; omega)]), HB.out _⟩
  have HK := Aside0.mk (And.intro k1 k2)
  go_enter Try.func29, Try.ntmps29
  go_wp2_with fail
  refine (in_fn _ _ _ _).mono ?_
  rintro e w59 ⟨rfl, hw⟩
  rw [hw]
  clear hw w59
  by_cases h59 : 1 ≤ cap ∧ cap ≤ 1048576
  · rw [decide_eq_true h59]
    have H59 := Aside0.mk h59
    clear h59
    go_wp2_with fail
    refine (in_fn _ _ _ _).mono ?_
    rintro e w60 ⟨rfl, hw⟩
    rw [hw]
    clear hw w60
    by_cases h60 : 1 ≤ keys ∧ keys ≤ 1000
    · rw [decide_eq_true h60]
      have H60 := Aside0.mk h60
      clear h60
      go_wp2_with fail
      refine (in_fn _ _ _ _).mono ?_
      rintro e w61 ⟨rfl, hw⟩
      rw [hw]
      clear hw w61
      by_cases h61 : 1 ≤ slots ∧ slots ≤ 64
      · rw [decide_eq_true h61]
        have H61 := Aside0.mk h61
        clear h61
        go_wp2_with fail
        refine (in_fn _ _ _ _).mono ?_
        rintro e w62 ⟨rfl, hw⟩
        rw [hw]
        clear hw w62
        by_cases h62 : 0 ≤ every ∧ every ≤ 1000
        · rw [decide_eq_true h62]
          have H62 := Aside0.mk h62
          clear h62
          go_wp2_with fail
          refine (in_fn _ _ _ _).mono ?_
          rintro e w63 ⟨rfl, hw⟩
          rw [hw]
          clear hw w63
          by_cases h63 : 1 ≤ seg ∧ seg ≤ 1000
          · rw [decide_eq_true h63]
            have H63 := Aside0.mk h63
            clear h63
            go_wp2_with fail
            go_ret
            exact ⟨congrArg (fun b => Ending.returned (Value.int .i64 b)) (by rw [← HR.out, polE_bad' (by unfold polP; have := HK.out; have := H59.out; have := H60.out; have := H61.out; have := H62.out; have := H63.out; omega)]), HB.out _⟩
          · rw [decide_eq_false h63]
            have H63 := Aside0.mk h63
            clear h63
            go_wp2_with fail
            go_ret
            exact ⟨congrArg (fun b => Ending.returned (Value.int .i64 b)) (by rw [← HR.out, polE_bad' (by unfold polP; have := HK.out; have := H59.out; have := H60.out; have := H61.out; have := H62.out; have := H63.out; omega)]), HB.out _⟩
        · rw [decide_eq_false h62]
          have H62 := Aside0.mk h62
          clear h62
          go_wp2_with fail
          go_ret
          exact ⟨congrArg (fun b => Ending.returned (Value.int .i64 b)) (by rw [← HR.out, polE_bad' (by unfold polP; have := HK.out; have := H59.out; have := H60.out; have := H61.out; have := H62.out; omega)]), HB.out _⟩
      · rw [decide_eq_false h61]
        have H61 := Aside0.mk h61
        clear h61
        go_wp2_with fail
        go_ret
        exact ⟨congrArg (fun b => Ending.returned (Value.int .i64 b)) (by rw [← HR.out, polE_bad' (by unfold polP; have := HK.out; have := H59.out; have := H60.out; have := H61.out; omega)]), HB.out _⟩
    · rw [decide_eq_false h60]
      have H60 := Aside0.mk h60
      clear h60
      go_wp2_with fail
      go_ret
      exact ⟨congrArg (fun b => Ending.returned (Value.int .i64 b)) (by rw [← HR.out, polE_bad' (by unfold polP; have := HK.out; have := H59.out; have := H60.out; omega)]), HB.out _⟩
  · rw [decide_eq_false h59]
    have H59 := Aside0.mk h59
    clear h59
    go_wp2_with fail
    go_ret
    exact ⟨congrArg (fun b => Ending.returned (Value.int .i64 b)) (by rw [← HR.out, polE_bad' (by unfold polP; have := HK.out; have := H59.out; omega)]), HB.out _⟩
end Go.Proofs.Ytnodnpenlplleaa.Own
/- Layer 10: what was told, applied to another one: the plain laws. -/
namespace Go.Proofs.Ytnodnpenlplleaa.Own
open Go.RowKit Go.Proofs.YtnodnpenlplleaaW.PrintWords Go.Proofs.YtnodnpenlplleaaW.PrintLast Go.Proofs.YtnodnpenlplleaaW.PrintMore
set_option linter.unusedVariables false
set_option linter.unusedSimpArgs false

theorem askS_not {p : Pol} {s : LSt} {t : Int} {key : ByteArray} {c : Int} (h : ¬ askE s t key c = 0) : askS p s t key c = s := by unfold askS; rw [if_neg h]
theorem moveS_at {p : Pol} {s : LSt} {t : Int} (h : moveE s.tick t = 0) : moveS p s t = ⟨t, moveR p s.tick t s.rows⟩ := by
  unfold moveS tickM rowsM
  rw [if_pos h, if_pos h]
structure Told (p : Pol) (s : LSt) (t : Int) (key : ByteArray) (c : Int) : Prop where
  v : 0 ≤ askV p s t key c ∧ askV p s t key c ≤ 2
  e : applyE s t key c (askV p s t key c) = 0
  st : applyS p s t key c (askV p s t key c) = askS p s t key c
  e0 : applyE s t key c 0 = 0
  st0 : applyS p s t key c 0 = moveS p s t
theorem told {p : Pol} {s : LSt} (ho : OkR p s.tick s.rows) {t : Int} {key : ByteArray} {c : Int} (h : askE s t key c = 0) : Told p s t key c := by
  obtain ⟨e1, e2, e3, e4, e5, _⟩ := rightE_ok h
  have hm : moveE s.tick t = 0 := moveE_ok.2 ⟨e1, e3⟩
  have hv : 0 ≤ askV p s t key c ∧ askV p s t key c ≤ 2 := by
    unfold askV
    rw [if_pos h]
    split
    · decide
    · split <;> decide
  have hr : ∀ v, 0 ≤ v ∧ v ≤ 2 → recE t key c v = 0 := fun v hv => by
    unfold recE
    rw [if_pos ⟨e2, e3⟩, if_pos e4, if_pos e5, if_pos hv]
  refine ⟨hv, ?_, ?_, ?_, ?_⟩
  · unfold applyE
    rw [if_pos (hr _ hv), hm]
  · unfold applyS
    rw [if_pos ⟨hr _ hv, hm⟩]
    unfold askS
    rw [if_pos h, moveS_at hm]
    by_cases h1 : askV p s t key c = 1
    · rw [if_pos h1, if_pos h1]
      rfl
    · rw [if_neg h1, if_neg h1]
      rfl
  · unfold applyE
    rw [if_pos (hr _ (by decide)), hm]
  · unfold applyS
    rw [if_pos ⟨hr _ (by decide), hm⟩, if_neg (by decide)]
theorem small_askS {p : Pol} {s : LSt} (ho : OkR p s.tick s.rows) (t : Int) (key : ByteArray) (c : Int) {j : Nat} (hs : smallR j s.rows) : smallR (j + 1) (askS p s t key c).rows := by
  by_cases h : askE s t key c = 0
  · have hT := told ho h
    rw [← hT.st]
    unfold applyS
    split
    · split
      · exact small_chargeS (moveS_ok ho t) key c (small_moveS ho t hs)
      · exact fun r hr => smallD_mono (Nat.le_succ j) (small_moveS ho t hs r hr)
    · exact fun r hr => smallD_mono (Nat.le_succ j) (hs r hr)
  · rw [askS_not h]
    exact fun r hr => smallD_mono (Nat.le_succ j) (hs r hr)
/-- A limiter that was told stands otherwise than one to which it was denied, if and only if it was allowed. -/
theorem told_bytes {p : Pol} {s : LSt} (ho : OkR p s.tick s.rows) {t : Int} {key : ByteArray} {c : Int} (h : askE s t key c = 0) {j : Nat} (hj : j ≤ 100000) (hs : smallR j s.rows) :
    decide (bytesR (askS p s t key c).rows = bytesR (moveS p s t).rows) = decide (¬ askV p s t key c = 1) := by
  obtain ⟨e1, e2, e3, e4, e5, _⟩ := rightE_ok h
  have hm : moveE s.tick t = 0 := moveE_ok.2 ⟨e1, e3⟩
  have hce : chargeE key c = 0 := by unfold chargeE; rw [if_pos e4, if_pos e5]
  have hT := told ho h
  rw [← hT.st]
  have hr : recE t key c (askV p s t key c) = 0 := by
    unfold recE
    rw [if_pos ⟨e2, e3⟩, if_pos e4, if_pos e5, if_pos hT.v]
  unfold applyS
  rw [if_pos ⟨hr, hm⟩]
  by_cases h1 : askV p s t key c = 1
  · rw [if_pos h1, charge_turns (moveS_ok ho t) key c hj (small_moveS ho t hs), hce, h1]
    rfl
  · rw [if_neg h1, decide_eq_true rfl, decide_eq_true h1]
theorem LimI.aside {n : Nat} {w w' : World} {lb sb mb lb' sb' mb' : Nat} {p p' : Pol} {s s' : LSt} (h : LimI n w lb sb mb p s) (h' : LimI n w lb' sb' mb' p' s') (h1 : sb ≠ sb') (h2 : mb ≠ mb') (hk : Keeps (fun k => k = sb' ∨ k = mb') w w') : LimI n w' lb sb mb p s := by
  refine ⟨⟨(hk.block _ (Array.getElem?_eq_some_iff.1 h.lim.top).1 ?_).trans h.lim.top, h.lim.led.beside h'.lim.led h1 h2 hk⟩, h.ok, h.at1, h.at2, h.at3⟩
  rintro (e | e)
  · have a := h.lim.top
    rw [e, h'.lim.led.blk] at a
    injection a with a
    injection a with _ a
    exact absurd a (by decide)
  · have a := h.lim.top
    obtain ⟨es, clock, hm⟩ := h'.lim.led.map_blk
    rw [e, hm] at a
    cases a
theorem LimCloneI_fn (n : Nat) (w0 w : World) (lb sb mb : Nat) (p : Pol) (s : LSt) (h : LimI n w lb sb mb p s) (hn : n ≤ w.heap.size) (hb : Below n w0 w) :
    Calls Try.prog 28 #[.pointer (some ⟨lb, 0, none⟩)] w fun e w' => ∃ l2 s2 m2, e = .returned (.pointer (some ⟨l2, 0, none⟩)) ∧ w.heap.size ≤ s2 ∧ w.heap.size ≤ m2 ∧ LimI n w' l2 s2 m2 p s ∧ Below w.heap.size w w' ∧ (Below n w0 w' ∧ n ≤ w'.heap.size) :=
  (LimClone_fn w lb sb mb p s.tick s.rows h.lim).mono fun e w' hh => by
    obtain ⟨l2, s2, m2, e1, g1, g2, g3, hl, hB⟩ := hh
    exact ⟨l2, s2, m2, e1, g2, g3, ⟨hl, h.ok, by omega, by omega, by omega⟩, hB, hb.trans (hB.mono hn), Nat.le_trans hn hB.size⟩
/-- Its bytes, wherever nothing of it has turned. -/
theorem BytesW {n : Nat} {w : World} {lb sb mb : Nat} {p : Pol} {s : LSt} (h : LimI n w lb sb mb p s) (hlen : s.rows.length ≤ 100000) (W : World) (hb : Below w.heap.size w W) :
    Calls Try.prog 16 #[.pointer (some ⟨sb, 0, none⟩)] W fun e w' => ∃ A c, e = .returned (.slice A (bytesR s.rows).length c) ∧ BR w' A c (bytesR s.rows) ∧ Below W.heap.size W w' :=
  (Bytes_fn W sb mb p s.tick s.rows (h.lim.led.below hb) h.ok hlen).mono fun e w' hh => by
    obtain ⟨v, e1, hR, hB⟩ := hh
    obtain ⟨A, c, ev⟩ := Kd.R_slice hR
    subst ev
    exact ⟨A, c, e1, Kd.R_lower hR (Nat.zero_le _), hB⟩
end Go.Proofs.Ytnodnpenlplleaa.Own
/- Layer 10: LimiterFollows: the walk. -/
namespace Go.Proofs.Ytnodnpenlplleaa.Own
open Go.RowKit Go.Proofs.YtnodnpenlplleaaW.PrintWords Go.Proofs.YtnodnpenlplleaaW.PrintLast Go.Proofs.YtnodnpenlplleaaW.PrintMore
set_option linter.unusedVariables false
set_option linter.unusedSimpArgs false
attribute [local go_sem] Oper.semAt_some
def foll__T12 : Bool × List (List Nat × List Nat) := (true, [([], []), ([0], [0]), ([1], [1]), ([2], [2]), ([3], [3]), ([], []), ([5], [5]), ([6], [6]), ([7], [7]), ([8, 4], [8]), ([4, 9, 9], [4, 9]), ([10, 10, 0, 1, 2, 3, 4, 5, 6, 7, 8, 9, 10], [10])])
def foll__B12 : List Nat := [0, 1, 3, 7, 15, 0, 32, 96, 224, 511, 1023, 2047]
theorem foll__tab12 : rtab .any (opsOf Try.f10 12) = foll__T12 := by kernel_rfl
theorem foll__bits12 : waitsOk foll__T12.2 foll__B12 = true := by kernel_rfl
def foll__T13 : Bool × List (List Nat × List Nat) := (true, [([], []), ([0], [0]), ([1], [1]), ([2], [2]), ([3, 2], [2, 3]), ([4, 2], [2, 4]), ([5, 2], [2, 5]), ([6, 2, 2], [2, 6]), ([2], [2]), ([8, 2], [2, 8]), ([9, 2], [2, 9]), ([10, 2], [2, 10]), ([11, 7, 2], [2, 11]), ([7, 12, 2], [2, 7, 12]), ([2, 13], [2, 13])])
def foll__B13 : List Nat := [0, 1, 3, 7, 15, 31, 63, 127, 7, 263, 775, 1799, 4095, 8191, 16383]
theorem foll__tab13 : rtab .any (opsOf Try.f10 13) = foll__T13 := by kernel_rfl
theorem foll__bits13 : waitsOk foll__T13.2 foll__B13 = true := by kernel_rfl
def foll__T15 : Bool × List (List Nat × List Nat) := (true, [([], []), ([], []), ([], []), ([1, 2], [1, 2]), ([3], [3]), ([4], [4]), ([], []), ([], []), ([6, 7], [6, 7]), ([8], [8]), ([9], [9]), ([], []), ([], []), ([11, 12], [11, 12]), ([13], [13]), ([14], [14]), ([], []), ([5, 10, 15, 16], [5, 10, 15, 16]), ([0, 17], [0, 17]), ([18, 18, 0, 1, 2, 3, 4, 5, 6, 7, 8, 9, 10, 11, 12, 13, 14, 15, 16, 17, 18], [18])])
def foll__B15 : List Nat := [0, 0, 0, 6, 14, 30, 0, 0, 192, 448, 960, 0, 0, 6144, 14336, 30720, 0, 131070, 262143, 524287]
theorem foll__tab15 : rtab .any (opsOf Try.f10 15) = foll__T15 := by kernel_rfl
theorem foll__bits15 : waitsOk foll__T15.2 foll__B15 = true := by kernel_rfl
def foll__T16 : Bool × List (List Nat × List Nat) := (true, [([], []), ([0], [0]), ([1], [1]), ([2], [2]), ([3], [3]), ([], []), ([5], [5]), ([6], [6]), ([7], [7]), ([8, 4], [8]), ([4, 9, 9], [4, 9]), ([10, 10, 0, 1, 2, 3, 4, 5, 6, 7, 8, 9, 10], [10])])
def foll__B16 : List Nat := [0, 1, 3, 7, 15, 0, 32, 96, 224, 511, 1023, 2047]
theorem foll__tab16 : rtab .any (opsOf Try.f10 16) = foll__T16 := by kernel_rfl
theorem foll__bits16 : waitsOk foll__T16.2 foll__B16 = true := by kernel_rfl
def foll__T17 : Bool × List (List Nat × List Nat) := (true, [([], []), ([0], [0]), ([1], [1]), ([2], [2]), ([3, 2], [2, 3]), ([2, 4], [2, 4]), ([5, 2], [5]), ([6], [6]), ([7, 6], [6, 7]), ([8, 6], [6, 8]), ([9, 6], [6, 9]), ([10, 6, 6], [6, 10]), ([6], [6]), ([12, 6], [6, 12]), ([13, 6], [6, 13]), ([14, 6], [6, 14]), ([15, 11, 6], [6, 15]), ([11, 16, 6], [6, 11, 16]), ([6, 17], [6, 17]), ([18, 16], [18]), ([19], [19]), ([20, 19], [19, 20]), ([19, 21], [19, 21]), ([22, 19], [22]), ([23], [23]), ([24, 23], [23, 24]), ([23, 25], [23, 25])])
def foll__B17 : List Nat := [0, 1, 3, 7, 15, 31, 63, 127, 255, 511, 1023, 2047, 127, 4223, 12415, 28799, 65535, 131071, 262143, 524287, 1048575, 2097151, 4194303, 8388607, 16777215, 33554431, 67108863]
theorem foll__tab17 : rtab .any (opsOf Try.f10 17) = foll__T17 := by kernel_rfl
theorem foll__bits17 : waitsOk foll__T17.2 foll__B17 = true := by kernel_rfl
def foll__T19 : Bool × List (List Nat × List Nat) := (true, [([], []), ([], []), ([], []), ([1, 2], [1, 2]), ([3], [3]), ([4], [4]), ([], []), ([], []), ([6, 7], [6, 7]), ([8], [8]), ([9], [9]), ([], []), ([], []), ([11, 12], [11, 12]), ([13], [13]), ([14], [14]), ([5, 10, 15], [5, 10, 15]), ([0, 16], [0, 16])])
def foll__B19 : List Nat := [0, 0, 0, 6, 14, 30, 0, 0, 192, 448, 960, 0, 0, 6144, 14336, 30720, 65534, 131071]
theorem foll__tab19 : rtab .any (opsOf Try.f10 19) = foll__T19 := by kernel_rfl
theorem foll__bits19 : waitsOk foll__T19.2 foll__B19 = true := by kernel_rfl
def foll__T20 : Bool × List (List Nat × List Nat) := (true, [([], []), ([0], [0]), ([1], [1]), ([2], [2]), ([3], [3]), ([], []), ([5], [5]), ([6], [6]), ([7], [7]), ([8, 4], [8]), ([4, 9, 9], [4, 9]), ([10, 10, 0, 1, 2, 3, 4, 5, 6, 7, 8, 9, 10], [10])])
def foll__B20 : List Nat := [0, 1, 3, 7, 15, 0, 32, 96, 224, 511, 1023, 2047]
theorem foll__tab20 : rtab .any (opsOf Try.f10 20) = foll__T20 := by kernel_rfl
theorem foll__bits20 : waitsOk foll__T20.2 foll__B20 = true := by kernel_rfl
def foll__T10 : Bool × List (List Nat × List Nat) := (true, [([], []), ([], []), ([], []), ([1, 2], [1, 2]), ([3], [3]), ([4], [4]), ([], []), ([], []), ([6, 7], [6, 7]), ([8], [8]), ([9], [9]), ([], []), ([], []), ([11, 12], [11, 12]), ([13], [13]), ([14], [14]), ([0, 5, 10, 15], [0, 5, 10, 15]), ([16], [16]), ([17], [17]), ([17], [17]), ([18, 16, 0, 1, 2, 3, 4, 5, 6, 7, 8, 9, 10, 11, 12, 13, 14, 15, 16, 17, 18], [18]), ([19, 20, 0, 1, 2, 3, 4, 5, 6, 7, 8, 9, 10, 11, 12, 13, 14, 15, 16, 17, 18, 19, 20], [19])])
def foll__B10 : List Nat := [0, 0, 0, 6, 14, 30, 0, 0, 192, 448, 960, 0, 0, 6144, 14336, 30720, 65535, 131071, 262143, 262143, 524287, 2097151]
theorem foll__tab10 : rtab .any (opsOf Try.f10 10) = foll__T10 := by kernel_rfl
theorem foll__bits10 : waitsOk foll__T10.2 foll__B10 = true := by kernel_rfl

theorem mem_rdW (l : List Rc) (j : Nat) (h : j < l.length) : rdRc l (j : Int) ∈ l := by
  unfold rdRc
  rw [Int.toNat_natCast, List.getD_eq_getElem?_getD, List.getElem?_eq_getElem h]
  exact List.getElem_mem h
set_option maxRecDepth 100000 in
set_option maxHeartbeats 4000000 in
theorem LimiterFollows_fn (w : World) (p : Pol) (A : Option Addr) (cp : Nat) (l : List Rc) (hr : Kd.C kRc w A l.length l) (hc : l.length ≤ maxLen) (hs : ∀ r ∈ l, r.key.size ≤ maxLen) :
    Calls Try.prog 10 #[p.val, .slice A l.length cp] w fun e w' => e = .returned (.bool true) ∧ Below w.heap.size w w' := by
  have HNEW := Aside0.mk (fun w' => NewL_fn w' p)
  have HG := Aside0.mk (heap_alloc_new w (.cells p.cells 23 (0, 0)))
  have HB := Aside0.mk (show Below w.heap.size w (w.alloc (.cells p.cells 23 (0, 0))) from (Below.refl _ w).alloc (Nat.le_refl _) _)
  have HR := Aside0.mk hr
  have HSS := Aside0.mk hs
  have HREF := Aside0.mk (fun w' => refRight_fn w' p)
  clear hr hs
  obtain ⟨P0, hP0⟩ : ∃ P0, p = P0 := ⟨_, rfl⟩
  obtain ⟨er, her⟩ : ∃ er, P0.E = er := ⟨_, rfl⟩
  have HER := Aside0.mk her
  have HNP := Aside0.mk (show ∀ w', Calls Try.prog 26 #[.agg p.cells] w' (NewLPost w' P0 er) from fun w' => by
    have h := HNEW.out w'
    rw [hP0, her] at h
    rw [hP0]
    exact h)
  have HPC := Aside0.mk (show p.cells = P0.cells from by rw [hP0])
  have HREFP := Aside0.mk (show ∀ w', Calls Try.prog 29 #[.agg p.cells] w' (fun e w'' => e = .returned (.int .i64 er) ∧ Below w'.heap.size w' w'') from fun w' => by
    have h := HREF.out w'
    rw [hP0, her] at h
    rw [hP0]
    exact h)
  clear her hP0 HNEW HREF
  obtain ⟨kind, cap, num, den, width, count, keys, slots, every, seg⟩ := p
  simp only [Pol.val, Pol.cells] at HNP HG HB HPC HREFP ⊢
  go_enter Try.func10, Try.ntmps10
  go_wp2_with fail
  refine (awake_fn _).mono ?_
  rintro e w1 ⟨rfl, hb1⟩
  have HG1 := Aside0.mk ((hb1.block _ (by simp)).trans HG.out)
  have HB1 := Aside0.mk (HB.out.trans (hb1.mono (by simp)))
  clear hb1 HG HB
  go_wp2_with (first | ((with_reducible refine gload 23 rfl ?_); refine wpList_load_blk rfl 23 _ rfl w.heap.size _ 23 _ rfl HG1.out _ Try.underlying23 rfl infoPol ?_) | fail)
  refine (HNP.out _).mono ?_
  intro e w4 hpost
  rcases hpost with ⟨h0, lx, sx, mx, rfl, h1, h2, h3, hl, hb⟩ | ⟨h0, rfl, hb⟩
  case inr =>
    have HB4 := Aside0.mk (HB1.out.trans (hb.mono HB1.out.size))
    have HG4 := Aside0.mk ((hb.block _ (Array.getElem?_eq_some_iff.1 HG1.out).1).trans HG1.out)
    clear hb HSS HR HG1 HB1 HPC
    go_wp2_with (first | ((with_reducible refine gload 23 rfl ?_); refine wpList_load_blk rfl 23 _ rfl w.heap.size _ 23 _ rfl HG4.out _ Try.underlying23 rfl infoPol ?_) | fail)
    refine (HNP.out _).mono ?_
    intro e w5 hpost
    rcases hpost with ⟨h0', _⟩ | ⟨_, rfl, hb⟩
    case inl => exact absurd h0' h0
    have HB5 := Aside0.mk (HB4.out.trans (hb.mono HB4.out.size))
    have HG5 := Aside0.mk ((hb.block _ (Array.getElem?_eq_some_iff.1 HG4.out).1).trans HG4.out)
    clear hb HNP HB4 HG4
    have g0 : w5.cell? ⟨w.heap.size, 0, none⟩ = some (.int .i64 kind) := by rw [cell_of_row w5 _ 0 _ _ _ HG5.out]; rfl
    have g1 : w5.cell? ⟨w.heap.size, 1, none⟩ = some (.int .i64 cap) := by rw [cell_of_row w5 _ 1 _ _ _ HG5.out]; rfl
    have g2 : w5.cell? ⟨w.heap.size, 2, none⟩ = some (.int .i64 num) := by rw [cell_of_row w5 _ 2 _ _ _ HG5.out]; rfl
    have g3 : w5.cell? ⟨w.heap.size, 3, none⟩ = some (.int .i64 den) := by rw [cell_of_row w5 _ 3 _ _ _ HG5.out]; rfl
    have g4 : w5.cell? ⟨w.heap.size, 4, none⟩ = some (.int .i64 width) := by rw [cell_of_row w5 _ 4 _ _ _ HG5.out]; rfl
    have g5 : w5.cell? ⟨w.heap.size, 5, none⟩ = some (.int .i64 count) := by rw [cell_of_row w5 _ 5 _ _ _ HG5.out]; rfl
    have g6 : w5.cell? ⟨w.heap.size, 6, none⟩ = some (.int .i64 keys) := by rw [cell_of_row w5 _ 6 _ _ _ HG5.out]; rfl
    have g7 : w5.cell? ⟨w.heap.size, 7, none⟩ = some (.int .i64 slots) := by rw [cell_of_row w5 _ 7 _ _ _ HG5.out]; rfl
    have g8 : w5.cell? ⟨w.heap.size, 8, none⟩ = some (.int .i64 every) := by rw [cell_of_row w5 _ 8 _ _ _ HG5.out]; rfl
    have g9 : w5.cell? ⟨w.heap.size, 9, none⟩ = some (.int .i64 seg) := by rw [cell_of_row w5 _ 9 _ _ _ HG5.out]; rfl
    go_wp2_with fail
    refine (HREFP.out _).mono ?_
    rintro e w6 ⟨rfl, hb6⟩
    have HB6 := Aside0.mk (HB5.out.trans (hb6.mono HB5.out.size))
    clear hb6
    go_wp2_with fail
    go_ret
    exact ⟨rfl, HB6.out⟩
  subst h0
  have hs1 := HB1.out.size
  have HOK := Aside0.mk (show P0.ok from HER.out)
  have HX4 := Aside0.mk (show LimI w.heap.size w4 lx sx mx P0 ⟨0, []⟩ from ⟨hl, new_ok HOK.out, by omega, by omega, by omega⟩)
  have HB4 := Aside0.mk (HB1.out.trans (hb.mono hs1))
  have HG4 := Aside0.mk ((hb.block _ (Array.getElem?_eq_some_iff.1 HG1.out).1).trans HG1.out)
  have HTOP := Aside0.mk (show ∀ (n : Nat) (W : World) (l2 s2 m2 : Nat) {S : LSt}, LimI n W l2 s2 m2 P0 S → W.heap[l2]? = some (.cells #[.pointer (some ⟨s2, 0, none⟩), .int .i64 P0.keys] 54 (0, 0)) from fun _ _ _ _ _ _ h => h.lim.top)
  generalize P0.keys = kk at HTOP
  clear hb hl h1 h2 h3 hs1 HB1 HG1 HER HPC HREFP
  go_wp2_with (first | ((with_reducible refine gload 23 rfl ?_); refine wpList_load_blk rfl 23 _ rfl w.heap.size _ 23 _ rfl HG4.out _ Try.underlying23 rfl infoPol ?_) | fail)
  refine (HNP.out _).mono ?_
  intro e w5 hpost
  rcases hpost with ⟨_, ly, sy, my, rfl, h1, h2, h3, hl, hb⟩ | ⟨h0', _⟩
  case inr => exact absurd rfl h0'
  have hs1 := HB4.out.size
  have HX5 := Aside0.mk (HX4.out.below hb)
  have HY5 := Aside0.mk (show LimI w.heap.size w5 ly sy my P0 ⟨0, []⟩ from ⟨hl, new_ok HOK.out, by omega, by omega, by omega⟩)
  have HNE0 := Aside0.mk (show sx ≠ sy ∧ mx ≠ my from ⟨by have := HX4.out.lim.led.lt_sb; omega, by have := HX4.out.lim.led.lt_mb; omega⟩)
  have HB5 := Aside0.mk (HB4.out.trans (hb.mono hs1))
  clear hb hl h1 h2 h3 hs1 HB4 HG4 HX4 HNP HOK
  go_wp2_with fail
  go_loopw [10] (fun i wr => ∃ j : Nat, j ≤ l.length ∧ j ≤ 300 ∧ i = .int .i64 (j : Int) ∧ ∃ X : LSt, Aside0 (LimI w.heap.size wr lx sx mx P0 X ∧ LimI w.heap.size wr ly sy my P0 X ∧ Below w.heap.size w wr ∧ w.heap.size ≤ wr.heap.size ∧ X.rows.length ≤ j ∧ smallR j X.rows)) (fun i _ => 300 - (intOf i).toNat)
  case atStart => exact ⟨0, by omega, by omega, rfl, ⟨0, []⟩, ⟨HX5.out, HY5.out, HB5.out, HB5.out.size, Nat.le_refl _, fun r hr => by simp at hr⟩⟩
  case round =>
    obtain ⟨j, hj, hj3, rfl, X, BS⟩ := hrel
    clear HX5 HY5 HB5
    by_cases hlt : j < l.length ∧ j < 300
    · obtain ⟨hlt, h300⟩ := hlt
      obtain ⟨ad, eA, c0, c1, c2, c3⟩ := atRc HR.out (j : Int) (by omega) (by omega)
      subst eA
      simp only [Int.toNat_natCast] at c0 c1 c2 c3
      have i0 : (0 : Int) ≤ (j : Int) := by omega
      have i1 : (j : Int) < (l.length : Int) := by omega
      have i3 : (j : Int) < 300 := by omega
      have HSZ := Aside0.mk (HSS.out _ (mem_rdW l j hlt))
      generalize rdRc l (j : Int) = x at c0 c1 c2 c3 HSZ
      have C0 := Aside0.mk c0
      have C1 := Aside0.mk c1
      have C2 := Aside0.mk c2
      clear c0 c1 c2 c3
      have HLEN_X := Aside0.mk (show X.rows.length ≤ 100000 from by have := BS.out.2.2.2.2.1; omega)
      have HLJ := Aside0.mk BS.out.2.2.2.2.1
      have HOX := Aside0.mk BS.out.1.ok
      have HSMX := Aside0.mk BS.out.2.2.2.2.2
      go_wp2_with fail
      refine (LimCloneI_fn w.heap.size w wr lx sx mx P0 X BS.out.1 BS.out.2.2.2.1 BS.out.2.2.1).mono ?_
      rintro e w5 ⟨lz, sz, mz, rfl, g1, g2, hz, hbz, hB5⟩
      have HX5 := Aside0.mk (BS.out.1.below hbz)
      have HY5 := Aside0.mk (BS.out.2.1.below hbz)
      have HZ5 := Aside0.mk hz
      have HB5 := Aside0.mk hB5
      have HNE := Aside0.mk (show sx ≠ sy ∧ mx ≠ my ∧ sx ≠ sz ∧ mx ≠ mz ∧ sy ≠ sz ∧ my ≠ mz from by
        have h1 := BS.out.1.lim.led.lt_sb; have h2 := BS.out.1.lim.led.lt_mb; have h3 := BS.out.2.1.lim.led.lt_sb; have h4 := BS.out.2.1.lim.led.lt_mb
        exact ⟨HNE0.out.1, HNE0.out.2, by omega, by omega, by omega, by omega⟩)
      clear hz hbz hB5 g1 g2 BS
      have HASK := Aside0.mk (fun w' (h : LimI w.heap.size w' lx sx mx P0 X) (hn : w.heap.size ≤ w'.heap.size) (hb : Below w.heap.size w w') => AskI_fn w.heap.size w w' lx sx mx P0 X x.t x.key x.c h hn hb HSZ.out HLEN_X.out)
      have HNOT := Aside0.mk (fun (h : ¬ askE X x.t x.key x.c = 0) => askS_not (p := P0) h)
      have HTOLD := Aside0.mk (show askE X x.t x.key x.c = 0 → (0 ≤ askV P0 X x.t x.key x.c ∧ askV P0 X x.t x.key x.c ≤ 2) ∧ applyE X x.t x.key x.c (askV P0 X x.t x.key x.c) = 0 ∧ applyS P0 X x.t x.key x.c (askV P0 X x.t x.key x.c) = askS P0 X x.t x.key x.c ∧ applyE X x.t x.key x.c 0 = 0 ∧ applyS P0 X x.t x.key x.c 0 = moveS P0 X x.t ∧ decide (bytesR (askS P0 X x.t x.key x.c).rows = bytesR (moveS P0 X x.t).rows) = decide (¬ askV P0 X x.t x.key x.c = 1) from fun h =>
        have hT := told HOX.out h
        ⟨hT.v, hT.e, hT.st, hT.e0, hT.st0, told_bytes HOX.out h (show j ≤ 100000 by omega) HSMX.out⟩)
      have HSM2 := Aside0.mk (small_askS HOX.out x.t x.key x.c HSMX.out)
      have HSMN := Aside0.mk (show smallR (j + 1) X.rows from fun r hr => smallD_mono (Nat.le_succ j) (HSMX.out r hr))
      have HL2 := Aside0.mk (show (askS P0 X x.t x.key x.c).rows.length ≤ j + 1 from by have h1 := askS_length (p := P0) (s := X) x.t x.key x.c; have := HLJ.out; omega)
      have HLEN_X2 := Aside0.mk (show (askS P0 X x.t x.key x.c).rows.length ≤ 100000 from by have := HL2.out; omega)
      have HLEN_X3 := Aside0.mk (show (moveS P0 X x.t).rows.length ≤ 100000 from Nat.le_trans (moveS_length P0 X x.t) HLEN_X.out)
      generalize askE X x.t x.key x.c = g at HASK HNOT HTOLD
      generalize askV P0 X x.t x.key x.c = v at HASK HTOLD
      generalize askS P0 X x.t x.key x.c = X2 at HASK HNOT HTOLD HSM2 HL2 HLEN_X2
      generalize moveS P0 X x.t = X3 at HTOLD HLEN_X3
      clear HOX HSMX
      go_wp2_with fail
      refine start_ (n := 22) (S := Below w.heap.size w) (ds := []) #[false, false, false, false, false, false, false, false, false, false, false, false, false, false, false, false, false, false, false, false, false, false] (by kernel_rfl) rfl rfl (HB5.out.1.drew) (fun hHeld => ?_); refine with_tabW foll__tab10 foll__bits10 (fun HT_ HW_ => ?_)
      refine pure_ (i := 0) (N := some 72) (v := ?_) (a' := ?_) #[true, false, false, false, false, false, false, false, false, false, false, false, false, false, false, false, false, false, false, false, false, false] rfl rfl (any_of HT_.out (by kernel_rfl)) (fun _ _ _ h => h) (Or.inl ⟨by rfl, ?_⟩) ?_ ?_
      rotate_left
      · intro w'
        go_simp
        try with_reducible rfl
      rotate_left
      · simp only [Act.put, List.setIfInBounds_toArray, List.set_cons_zero, List.set_cons_succ]
        rfl
      refine pure_ (i := 1) (N := some 73) (v := ?_) (a' := ?_) #[true, true, false, false, false, false, false, false, false, false, false, false, false, false, false, false, false, false, false, false, false, false] rfl rfl (any_of HT_.out (by kernel_rfl)) (fun _ _ _ h => h) (Or.inl ⟨by rfl, ?_⟩) ?_ ?_
      rotate_left
      · intro w'
        go_simp
        try with_reducible rfl
      rotate_left
      · simp only [Act.put, List.setIfInBounds_toArray, List.set_cons_zero, List.set_cons_succ]
        rfl
      refine pure_ (i := 2) (N := some 74) (v := ?_) (a' := ?_) #[true, true, true, false, false, false, false, false, false, false, false, false, false, false, false, false, false, false, false, false, false, false] rfl rfl (any_of HT_.out (by kernel_rfl)) (fun _ _ _ h => h) (Or.inl ⟨by rfl, ?_⟩) ?_ ?_
      rotate_left
      · intro w'
        go_simp
        try with_reducible rfl
      rotate_left
      · simp only [Act.put, List.setIfInBounds_toArray, List.set_cons_zero, List.set_cons_succ]
        rfl
      refine pure_ (i := 6) (N := some 78) (v := ?_) (a' := ?_) #[true, true, true, false, false, false, true, false, false, false, false, false, false, false, false, false, false, false, false, false, false, false] rfl rfl (any_of HT_.out (by kernel_rfl)) (fun _ _ _ h => h) (Or.inl ⟨by rfl, ?_⟩) ?_ ?_
      rotate_left
      · intro w'
        go_simp
        try with_reducible rfl
      rotate_left
      · simp only [Act.put, List.setIfInBounds_toArray, List.set_cons_zero, List.set_cons_succ]
        rfl
      refine pure_ (i := 7) (N := some 79) (v := ?_) (a' := ?_) #[true, true, true, false, false, false, true, true, false, false, false, false, false, false, false, false, false, false, false, false, false, false] rfl rfl (any_of HT_.out (by kernel_rfl)) (fun _ _ _ h => h) (Or.inl ⟨by rfl, ?_⟩) ?_ ?_
      rotate_left
      · intro w'
        go_simp
        try with_reducible rfl
      rotate_left
      · simp only [Act.put, List.setIfInBounds_toArray, List.set_cons_zero, List.set_cons_succ]
        rfl
      refine pure_ (i := 11) (N := some 83) (v := ?_) (a' := ?_) #[true, true, true, false, false, false, true, true, false, false, false, true, false, false, false, false, false, false, false, false, false, false] rfl rfl (any_of HT_.out (by kernel_rfl)) (fun _ _ _ h => h) (Or.inl ⟨by rfl, ?_⟩) ?_ ?_
      rotate_left
      · intro w'
        go_simp
        try with_reducible rfl
      rotate_left
      · simp only [Act.put, List.setIfInBounds_toArray, List.set_cons_zero, List.set_cons_succ]
        rfl
      refine pure_ (i := 12) (N := some 84) (v := ?_) (a' := ?_) #[true, true, true, false, false, false, true, true, false, false, false, true, true, false, false, false, false, false, false, false, false, false] rfl rfl (any_of HT_.out (by kernel_rfl)) (fun _ _ _ h => h) (Or.inl ⟨by rfl, ?_⟩) ?_ ?_
      rotate_left
      · intro w'
        go_simp
        try with_reducible rfl
      rotate_left
      · simp only [Act.put, List.setIfInBounds_toArray, List.set_cons_zero, List.set_cons_succ]
        rfl
      refine pure_ (i := 3) (N := some 75) (v := ?_) (a' := ?_) #[true, true, true, true, false, false, true, true, false, false, false, true, true, false, false, false, false, false, false, false, false, false] rfl rfl (any_of HT_.out (by kernel_rfl)) (fun _ _ _ h => h) (Or.inl ⟨by rfl, ?_⟩) ?_ ?_
      rotate_left
      · intro w'
        go_simp
        try with_reducible rfl
      rotate_left
      · simp only [Act.put, List.setIfInBounds_toArray, List.set_cons_zero, List.set_cons_succ]
        rfl
      refine pure_ (i := 8) (N := some 80) (v := ?_) (a' := ?_) #[true, true, true, true, false, false, true, true, true, false, false, true, true, false, false, false, false, false, false, false, false, false] rfl rfl (any_of HT_.out (by kernel_rfl)) (fun _ _ _ h => h) (Or.inl ⟨by rfl, ?_⟩) ?_ ?_
      rotate_left
      · intro w'
        go_simp
        try with_reducible rfl
      rotate_left
      · simp only [Act.put, List.setIfInBounds_toArray, List.set_cons_zero, List.set_cons_succ]
        rfl
      refine pure_ (i := 13) (N := some 85) (v := ?_) (a' := ?_) #[true, true, true, true, false, false, true, true, true, false, false, true, true, true, false, false, false, false, false, false, false, false] rfl rfl (any_of HT_.out (by kernel_rfl)) (fun _ _ _ h => h) (Or.inl ⟨by rfl, ?_⟩) ?_ ?_
      rotate_left
      · intro w'
        go_simp
        try with_reducible rfl
      rotate_left
      · simp only [Act.put, List.setIfInBounds_toArray, List.set_cons_zero, List.set_cons_succ]
        rfl
      refine pure_ (i := 4) (N := some 76) (v := ?_) (a' := ?_) #[true, true, true, true, true, false, true, true, true, false, false, true, true, true, false, false, false, false, false, false, false, false] rfl rfl (any_of HT_.out (by kernel_rfl)) (fun _ _ _ h => h) (Or.inl ⟨by rfl, ?_⟩) ?_ ?_
      rotate_left
      · intro w'
        go_simp
        try with_reducible rfl
      rotate_left
      · simp only [Act.put, List.setIfInBounds_toArray, List.set_cons_zero, List.set_cons_succ]
        rfl
      refine pure_ (i := 9) (N := some 81) (v := ?_) (a' := ?_) #[true, true, true, true, true, false, true, true, true, true, false, true, true, true, false, false, false, false, false, false, false, false] rfl rfl (any_of HT_.out (by kernel_rfl)) (fun _ _ _ h => h) (Or.inl ⟨by rfl, ?_⟩) ?_ ?_
      rotate_left
      · intro w'
        go_simp
        try with_reducible rfl
      rotate_left
      · simp only [Act.put, List.setIfInBounds_toArray, List.set_cons_zero, List.set_cons_succ]
        rfl
      refine pure_ (i := 14) (N := some 86) (v := ?_) (a' := ?_) #[true, true, true, true, true, false, true, true, true, true, false, true, true, true, true, false, false, false, false, false, false, false] rfl rfl (any_of HT_.out (by kernel_rfl)) (fun _ _ _ h => h) (Or.inl ⟨by rfl, ?_⟩) ?_ ?_
      rotate_left
      · intro w'
        go_simp
        try with_reducible rfl
      rotate_left
      · simp only [Act.put, List.setIfInBounds_toArray, List.set_cons_zero, List.set_cons_succ]
        rfl
      refine take_ (i := 5) (N := some 77) (v := ?_) (a' := ?_) #[true, true, true, true, true, true, true, true, true, true, false, true, true, true, true, false, false, false, false, false, false, false] rfl rfl (take_ofW HT_.out HW_.out (by kernel_rfl)) (fun _ _ _ h => h) (Or.inl ⟨by rfl, ?_⟩) hHeld ?_ ?_
      rotate_left
      · intro w' hS'
        have d0 := (hS'.cell (World.block_lt_of_cell? w _ C0.out)).trans C0.out
        go_simp
        try with_reducible rfl
      rotate_left
      · simp only [Act.put, List.setIfInBounds_toArray, List.set_cons_zero, List.set_cons_succ]
        rfl
      refine take_ (i := 10) (N := some 82) (v := ?_) (a' := ?_) #[true, true, true, true, true, true, true, true, true, true, true, true, true, true, true, false, false, false, false, false, false, false] rfl rfl (take_ofW HT_.out HW_.out (by kernel_rfl)) (fun _ _ _ h => h) (Or.inl ⟨by rfl, ?_⟩) hHeld ?_ ?_
      rotate_left
      · intro w' hS'
        have d0 := (hS'.cell (World.block_lt_of_cell? w _ C1.out)).trans C1.out
        go_simp
        try with_reducible rfl
      rotate_left
      · simp only [Act.put, List.setIfInBounds_toArray, List.set_cons_zero, List.set_cons_succ]
        rfl
      refine take_ (i := 15) (N := some 87) (v := ?_) (a' := ?_) #[true, true, true, true, true, true, true, true, true, true, true, true, true, true, true, true, false, false, false, false, false, false] rfl rfl (take_ofW HT_.out HW_.out (by kernel_rfl)) (fun _ _ _ h => h) (Or.inl ⟨by rfl, ?_⟩) hHeld ?_ ?_
      rotate_left
      · intro w' hS'
        have d0 := (hS'.cell (World.block_lt_of_cell? w _ C2.out)).trans C2.out
        go_simp
        try with_reducible rfl
      rotate_left
      · simp only [Act.put, List.setIfInBounds_toArray, List.set_cons_zero, List.set_cons_succ]
        rfl
      refine one_ (i := 16) (N := some 88) #[true, true, true, true, true, true, true, true, true, true, true, true, true, true, true, true, true, false, false, false, false, false] rfl rfl (one_of HT_.out (by kernel_rfl)) (by decide) (fun K hK => ?_)
      refine goes_ Try.func27 (by kernel_rfl) rfl #[.pointer (some ⟨lx, 0, none⟩), .int .i64 x.t, .string x.key, .int .i64 x.c] (by rfl) rfl rfl (by simp [Act.eval]) ?_
      refine (HASK.out _ (HX5.out.below ((Below.refl _ _).drew)) (by exact HB5.out.2) hHeld).mono ?_
      rintro e w6 ⟨rfl, hl, hb, hn, hk⟩
      refine ⟨_, rfl, ?_⟩
      simp only [Act.put, List.setIfInBounds_toArray, List.set_cons_zero, List.set_cons_succ]
      have HQ := Aside0.mk (And.intro hl (And.intro hb (And.intro hn (Keeps.pre ((Below.refl _ _).drew) hk))))
      clear hl hn hk
      refine hK.out _ _ (hb) (fun hHeld => ?_)
      clear hK K
      refine pure_ (i := 17) (N := some 71) (v := ?_) (a' := ?_) #[true, true, true, true, true, true, true, true, true, true, true, true, true, true, true, true, true, true, false, false, false, false] rfl rfl (any_of HT_.out (by kernel_rfl)) (fun _ _ _ h => h) (Or.inl ⟨by rfl, ?_⟩) ?_ ?_
      rotate_left
      · intro w'
        go_simp
        try with_reducible rfl
      rotate_left
      · simp only [Act.put, List.setIfInBounds_toArray, List.set_cons_zero, List.set_cons_succ]
        rfl
      refine pure_ (i := 18) (N := some 89) (v := ?_) (a' := ?_) #[true, true, true, true, true, true, true, true, true, true, true, true, true, true, true, true, true, true, true, false, false, false] rfl rfl (any_of HT_.out (by kernel_rfl)) (fun _ _ _ h => h) (Or.inl ⟨by rfl, ?_⟩) ?_ ?_
      rotate_left
      · intro w'
        go_simp
        try with_reducible rfl
      rotate_left
      · simp only [Act.put, List.setIfInBounds_toArray, List.set_cons_zero, List.set_cons_succ]
        rfl
      refine pure_ (i := 19) (N := some 90) (v := ?_) (a' := ?_) #[true, true, true, true, true, true, true, true, true, true, true, true, true, true, true, true, true, true, true, true, false, false] rfl rfl (any_of HT_.out (by kernel_rfl)) (fun _ _ _ h => h) (Or.inl ⟨by rfl, ?_⟩) ?_ ?_
      rotate_left
      · intro w'
        go_simp
        try with_reducible rfl
      rotate_left
      · simp only [Act.put, List.setIfInBounds_toArray, List.set_cons_zero, List.set_cons_succ]
        rfl
      refine pure_ (i := 20) (N := some 12) (v := ?_) (a' := ?_) #[true, true, true, true, true, true, true, true, true, true, true, true, true, true, true, true, true, true, true, true, true, false] rfl rfl (any_of HT_.out (by kernel_rfl)) (fun _ _ _ h => h) (Or.inl ⟨by rfl, ?_⟩) ?_ ?_
      rotate_left
      · intro w'
        go_simp
        try with_reducible rfl
      rotate_left
      · simp only [Act.put, List.setIfInBounds_toArray, List.set_cons_zero, List.set_cons_succ]
        rfl
      refine pure_ (i := 21) (N := some 13) (v := ?_) (a' := ?_) #[true, true, true, true, true, true, true, true, true, true, true, true, true, true, true, true, true, true, true, true, true, true] rfl rfl (any_of HT_.out (by kernel_rfl)) (fun _ _ _ h => h) (Or.inl ⟨by rfl, ?_⟩) ?_ ?_
      rotate_left
      · intro w'
        go_simp
        try with_reducible rfl
      rotate_left
      · simp only [Act.put, List.setIfInBounds_toArray, List.set_cons_zero, List.set_cons_succ]
        rfl
      refine done_ (done_of HT_.out (by kernel_rfl)) ?_
      clear hHeld HT_ HW_
      have HX6b := Aside0.mk HQ.out.1
      have HY6 := Aside0.mk (HY5.out.aside HX5.out (Ne.symm HNE.out.1) (Ne.symm HNE.out.2.1) HQ.out.2.2.2)
      have HZ6 := Aside0.mk (HZ5.out.aside HX5.out (Ne.symm HNE.out.2.2.1) (Ne.symm HNE.out.2.2.2.1) HQ.out.2.2.2)
      have HB6 := Aside0.mk (And.intro HQ.out.2.1 HQ.out.2.2.1)
      clear HQ HX5 HY5 HZ5 HB5 HASK
      by_cases hg : g = 0
      case neg =>
        have hx2 : X2 = X := HNOT.out hg
        have HX6 := Aside0.mk (show LimI w.heap.size w6 lx sx mx P0 X from by rw [← hx2]; exact HX6b.out)
        clear hx2 HNOT HTOLD HX6b
        have HS := Aside0.mk ((HeldB.one (w0 := w6) (x := (lz, .cells #[.pointer (some ⟨sz, 0, none⟩), .int .i64 kk] 54 (0, 0))) (HTOP.out _ _ _ _ _ HZ6.out) (Below.refl _ w6)).more (x := (lx, .cells #[.pointer (some ⟨sx, 0, none⟩), .int .i64 kk] 54 (0, 0))) (HTOP.out _ _ _ _ _ HX6.out))
        have HBA := Aside0.mk (BytesW HX6.out HLEN_X.out)
        have HBB := Aside0.mk (BytesW HZ6.out HLEN_X.out)
        have HNA := Aside0.mk (fun W (hb : Below (World.heap w6).size w6 W) => Now_fn W sx mx P0 _ _ (HX6.out.lim.led.below hb))
        have HNB := Aside0.mk (fun W (hb : Below (World.heap w6).size w6 W) => Now_fn W sz mz P0 _ _ (HZ6.out.lim.led.below hb))
        go_wp2_with fail
        refine start_ (n := 12) (S := HeldB w6 [(lx, .cells #[.pointer (some ⟨sx, 0, none⟩), .int .i64 kk] 54 (0, 0)), (lz, .cells #[.pointer (some ⟨sz, 0, none⟩), .int .i64 kk] 54 (0, 0))]) (ds := []) #[false, false, false, false, false, false, false, false, false, false, false, false] (by kernel_rfl) rfl rfl (HS.out.drew) (fun hHeld => ?_); refine with_tabW foll__tab12 foll__bits12 (fun HT_ HW_ => ?_)
        refine pure_ (i := 0) (N := some 93) (v := ?_) (a' := ?_) #[true, false, false, false, false, false, false, false, false, false, false, false] rfl rfl (any_of HT_.out (by kernel_rfl)) (fun _ _ _ h => h) (Or.inl ⟨by rfl, ?_⟩) ?_ ?_
        rotate_left
        · intro w'
          go_simp
          try with_reducible rfl
        rotate_left
        · simp only [Act.put, List.setIfInBounds_toArray, List.set_cons_zero, List.set_cons_succ]
          rfl
        refine pure_ (i := 5) (N := some 98) (v := ?_) (a' := ?_) #[true, false, false, false, false, true, false, false, false, false, false, false] rfl rfl (any_of HT_.out (by kernel_rfl)) (fun _ _ _ h => h) (Or.inl ⟨by rfl, ?_⟩) ?_ ?_
        rotate_left
        · intro w'
          go_simp
          try with_reducible rfl
        rotate_left
        · simp only [Act.put, List.setIfInBounds_toArray, List.set_cons_zero, List.set_cons_succ]
          rfl
        refine pure_ (i := 1) (N := some 94) (v := ?_) (a' := ?_) #[true, true, false, false, false, true, false, false, false, false, false, false] rfl rfl (any_of HT_.out (by kernel_rfl)) (fun _ _ _ h => h) (Or.inl ⟨by rfl, ?_⟩) ?_ ?_
        rotate_left
        · intro w'
          go_simp
          try with_reducible rfl
        rotate_left
        · simp only [Act.put, List.setIfInBounds_toArray, List.set_cons_zero, List.set_cons_succ]
          rfl
        refine pure_ (i := 6) (N := some 99) (v := ?_) (a' := ?_) #[true, true, false, false, false, true, true, false, false, false, false, false] rfl rfl (any_of HT_.out (by kernel_rfl)) (fun _ _ _ h => h) (Or.inl ⟨by rfl, ?_⟩) ?_ ?_
        rotate_left
        · intro w'
          go_simp
          try with_reducible rfl
        rotate_left
        · simp only [Act.put, List.setIfInBounds_toArray, List.set_cons_zero, List.set_cons_succ]
          rfl
        refine pure_ (i := 2) (N := some 95) (v := ?_) (a' := ?_) #[true, true, true, false, false, true, true, false, false, false, false, false] rfl rfl (any_of HT_.out (by kernel_rfl)) (fun _ _ _ h => h) (Or.inl ⟨by rfl, ?_⟩) ?_ ?_
        rotate_left
        · intro w'
          go_simp
          try with_reducible rfl
        rotate_left
        · simp only [Act.put, List.setIfInBounds_toArray, List.set_cons_zero, List.set_cons_succ]
          rfl
        refine pure_ (i := 7) (N := some 100) (v := ?_) (a' := ?_) #[true, true, true, false, false, true, true, true, false, false, false, false] rfl rfl (any_of HT_.out (by kernel_rfl)) (fun _ _ _ h => h) (Or.inl ⟨by rfl, ?_⟩) ?_ ?_
        rotate_left
        · intro w'
          go_simp
          try with_reducible rfl
        rotate_left
        · simp only [Act.put, List.setIfInBounds_toArray, List.set_cons_zero, List.set_cons_succ]
          rfl
        refine take_ (i := 3) (N := some 96) (v := ?_) (a' := ?_) #[true, true, true, true, false, true, true, true, false, false, false, false] rfl rfl (take_ofW HT_.out HW_.out (by kernel_rfl)) (fun _ _ _ h => h) (Or.inl ⟨by rfl, ?_⟩) hHeld ?_ ?_
        rotate_left
        · intro w' hS'
          have hx := hS'.1 (lx, .cells #[.pointer (some ⟨sx, 0, none⟩), .int .i64 kk] 54 (0, 0)) (by simp)
          have c0 : w'.cell? ⟨lx, 0, none⟩ = some (.pointer (some ⟨sx, 0, none⟩)) := by rw [cell_of_row w' _ 0 _ _ _ hx]; rfl
          go_simp
          try with_reducible rfl
        rotate_left
        · simp only [Act.put, List.setIfInBounds_toArray, List.set_cons_zero, List.set_cons_succ]
          rfl
        refine take_ (i := 8) (N := some 101) (v := ?_) (a' := ?_) #[true, true, true, true, false, true, true, true, true, false, false, false] rfl rfl (take_ofW HT_.out HW_.out (by kernel_rfl)) (fun _ _ _ h => h) (Or.inl ⟨by rfl, ?_⟩) hHeld ?_ ?_
        rotate_left
        · intro w' hS'
          have hx := hS'.1 (lz, .cells #[.pointer (some ⟨sz, 0, none⟩), .int .i64 kk] 54 (0, 0)) (by simp)
          have c0 : w'.cell? ⟨lz, 0, none⟩ = some (.pointer (some ⟨sz, 0, none⟩)) := by rw [cell_of_row w' _ 0 _ _ _ hx]; rfl
          go_simp
          try with_reducible rfl
        rotate_left
        · simp only [Act.put, List.setIfInBounds_toArray, List.set_cons_zero, List.set_cons_succ]
          rfl
        refine one_ (i := 4) (N := some 97) #[true, true, true, true, true, true, true, true, true, false, false, false] rfl rfl (one_of HT_.out (by kernel_rfl)) (by decide) (fun K hK => ?_)
        refine goes_ Try.func16 (by kernel_rfl) rfl #[.pointer (some ⟨sx, 0, none⟩)] (by rfl) rfl rfl (by simp [Act.eval]) ?_
        refine (HBA.out _ hHeld.2).mono ?_
        rintro e wA ⟨A1, q1, rfl, hr1, hb⟩
        refine ⟨_, rfl, ?_⟩
        simp only [Act.put, List.setIfInBounds_toArray, List.set_cons_zero, List.set_cons_succ]
        have HR1 := Aside0.mk hr1
        clear hr1
        refine hK.out _ _ (hHeld.step hb) (fun hHeld => ?_)
        clear hK K
        refine one_ (i := 9) (N := some 102) #[true, true, true, true, true, true, true, true, true, true, false, false] rfl rfl (one_of HT_.out (by kernel_rfl)) (by decide) (fun K hK => ?_)
        refine goes_ Try.func16 (by kernel_rfl) rfl #[.pointer (some ⟨sz, 0, none⟩)] (by rfl) rfl rfl (by simp [Act.eval]) ?_
        refine (HBB.out _ hHeld.2).mono ?_
        rintro e wB ⟨A2, q2, rfl, hr2, hb⟩
        refine ⟨_, rfl, ?_⟩
        simp only [Act.put, List.setIfInBounds_toArray, List.set_cons_zero, List.set_cons_succ]
        have HR2 := Aside0.mk hr2
        have HR1b := Aside0.mk (HR1.out.below hb)
        clear hr2 HR1
        refine hK.out _ _ (hHeld.step hb) (fun hHeld => ?_)
        clear hK K
        refine one_ (i := 10) (N := some 103) #[true, true, true, true, true, true, true, true, true, true, true, false] rfl rfl (one_of HT_.out (by kernel_rfl)) (by decide) (fun K hK => ?_)
        refine goes_ Try.func19 (by kernel_rfl) rfl #[.slice A1 (bytesR X.rows).length q1, .slice A2 (bytesR X.rows).length q2] (by rfl) rfl rfl (by simp [Act.eval]) ?_
        refine (SameI_fn _ A1 A2 q1 q2 _ _ HR1b.out HR2.out).mono ?_
        rintro e wC ⟨rfl, hb⟩
        refine ⟨_, rfl, ?_⟩
        simp only [Act.put, List.setIfInBounds_toArray, List.set_cons_zero, List.set_cons_succ]
        first | rw [decide_eq_true (show bytesR X.rows = bytesR X.rows from rfl)] | simp only [decide_true] | skip
        clear HR1b HR2
        refine hK.out _ _ (hHeld.step hb) (fun hHeld => ?_)
        clear hK K
        refine pure_ (i := 11) (N := some 14) (v := ?_) (a' := ?_) #[true, true, true, true, true, true, true, true, true, true, true, true] rfl rfl (any_of HT_.out (by kernel_rfl)) (fun _ _ _ h => h) (Or.inl ⟨by rfl, ?_⟩) ?_ ?_
        rotate_left
        · intro w'
          go_simp
          try with_reducible rfl
        rotate_left
        · simp only [Act.put, List.setIfInBounds_toArray, List.set_cons_zero, List.set_cons_succ]
          rfl
        refine done_ (done_of HT_.out (by kernel_rfl)) ?_
        have HS2 := Aside0.mk hHeld
        clear hHeld HT_ HW_
        go_wp2_with fail
        refine start_ (n := 15) (S := HeldB w6 [(lx, .cells #[.pointer (some ⟨sx, 0, none⟩), .int .i64 kk] 54 (0, 0)), (lz, .cells #[.pointer (some ⟨sz, 0, none⟩), .int .i64 kk] 54 (0, 0))]) (ds := []) #[false, false, false, false, false, false, false, false, false, false, false, false, false, false, false] (by kernel_rfl) rfl rfl (HS2.out.drew) (fun hHeld => ?_); refine with_tabW foll__tab13 foll__bits13 (fun HT_ HW_ => ?_)
        refine pure_ (i := 0) (N := some 104) (v := ?_) (a' := ?_) #[true, false, false, false, false, false, false, false, false, false, false, false, false, false, false] rfl rfl (any_of HT_.out (by kernel_rfl)) (fun _ _ _ h => h) (Or.inl ⟨by rfl, ?_⟩) ?_ ?_
        rotate_left
        · intro w'
          go_simp
          try with_reducible rfl
        rotate_left
        · simp only [Act.put, List.setIfInBounds_toArray, List.set_cons_zero, List.set_cons_succ]
          rfl
        refine pure_ (i := 1) (N := some 105) (v := ?_) (a' := ?_) #[true, true, false, false, false, false, false, false, false, false, false, false, false, false, false] rfl rfl (any_of HT_.out (by kernel_rfl)) (fun _ _ _ h => h) (Or.inl ⟨by rfl, ?_⟩) ?_ ?_
        rotate_left
        · intro w'
          go_simp
          try with_reducible rfl
        rotate_left
        · simp only [Act.put, List.setIfInBounds_toArray, List.set_cons_zero, List.set_cons_succ]
          rfl
        refine pure_ (i := 2) (N := some 106) (v := ?_) (a' := ?_) #[true, true, true, false, false, false, false, false, false, false, false, false, false, false, false] rfl rfl (any_of HT_.out (by kernel_rfl)) (fun _ _ _ h => h) (Or.inl ⟨by rfl, ?_⟩) ?_ ?_
        rotate_left
        · intro w'
          go_simp
          try with_reducible rfl
        rotate_left
        · simp only [Act.put, List.setIfInBounds_toArray, List.set_cons_zero, List.set_cons_succ]
          rfl
        refine pure_ (i := 3) (N := some 107) (v := ?_) (a' := ?_) #[true, true, true, true, false, false, false, false, false, false, false, false, false, false, false] rfl rfl (any_of HT_.out (by kernel_rfl)) (fun _ _ _ h => h) (Or.inl ⟨by rfl, ?_⟩) ?_ ?_
        rotate_left
        · intro w'
          go_simp
          try with_reducible rfl
        rotate_left
        · simp only [Act.put, List.setIfInBounds_toArray, List.set_cons_zero, List.set_cons_succ]
          rfl
        refine pure_ (i := 8) (N := some 112) (v := ?_) (a' := ?_) #[true, true, true, true, false, false, false, false, true, false, false, false, false, false, false] rfl rfl (any_of HT_.out (by kernel_rfl)) (fun _ _ _ h => h) (Or.inl ⟨by rfl, ?_⟩) ?_ ?_
        rotate_left
        · intro w'
          go_simp
          try with_reducible rfl
        rotate_left
        · simp only [Act.put, List.setIfInBounds_toArray, List.set_cons_zero, List.set_cons_succ]
          rfl
        refine pure_ (i := 4) (N := some 108) (v := ?_) (a' := ?_) #[true, true, true, true, true, false, false, false, true, false, false, false, false, false, false] rfl rfl (any_of HT_.out (by kernel_rfl)) (fun _ _ _ h => h) (Or.inl ⟨by rfl, ?_⟩) ?_ ?_
        rotate_left
        · intro w'
          go_simp
          try with_reducible rfl
        rotate_left
        · simp only [Act.put, List.setIfInBounds_toArray, List.set_cons_zero, List.set_cons_succ]
          rfl
        refine pure_ (i := 9) (N := some 113) (v := ?_) (a' := ?_) #[true, true, true, true, true, false, false, false, true, true, false, false, false, false, false] rfl rfl (any_of HT_.out (by kernel_rfl)) (fun _ _ _ h => h) (Or.inl ⟨by rfl, ?_⟩) ?_ ?_
        rotate_left
        · intro w'
          go_simp
          try with_reducible rfl
        rotate_left
        · simp only [Act.put, List.setIfInBounds_toArray, List.set_cons_zero, List.set_cons_succ]
          rfl
        refine pure_ (i := 5) (N := some 109) (v := ?_) (a' := ?_) #[true, true, true, true, true, true, false, false, true, true, false, false, false, false, false] rfl rfl (any_of HT_.out (by kernel_rfl)) (fun _ _ _ h => h) (Or.inl ⟨by rfl, ?_⟩) ?_ ?_
        rotate_left
        · intro w'
          go_simp
          try with_reducible rfl
        rotate_left
        · simp only [Act.put, List.setIfInBounds_toArray, List.set_cons_zero, List.set_cons_succ]
          rfl
        refine pure_ (i := 10) (N := some 114) (v := ?_) (a' := ?_) #[true, true, true, true, true, true, false, false, true, true, true, false, false, false, false] rfl rfl (any_of HT_.out (by kernel_rfl)) (fun _ _ _ h => h) (Or.inl ⟨by rfl, ?_⟩) ?_ ?_
        rotate_left
        · intro w'
          go_simp
          try with_reducible rfl
        rotate_left
        · simp only [Act.put, List.setIfInBounds_toArray, List.set_cons_zero, List.set_cons_succ]
          rfl
        refine take_ (i := 6) (N := some 110) (v := ?_) (a' := ?_) #[true, true, true, true, true, true, true, false, true, true, true, false, false, false, false] rfl rfl (take_ofW HT_.out HW_.out (by kernel_rfl)) (fun _ _ _ h => h) (Or.inl ⟨by rfl, ?_⟩) hHeld ?_ ?_
        rotate_left
        · intro w' hS'
          have hx := hS'.1 (lx, .cells #[.pointer (some ⟨sx, 0, none⟩), .int .i64 kk] 54 (0, 0)) (by simp)
          have c0 : w'.cell? ⟨lx, 0, none⟩ = some (.pointer (some ⟨sx, 0, none⟩)) := by rw [cell_of_row w' _ 0 _ _ _ hx]; rfl
          go_simp
          try with_reducible rfl
        rotate_left
        · simp only [Act.put, List.setIfInBounds_toArray, List.set_cons_zero, List.set_cons_succ]
          rfl
        refine take_ (i := 11) (N := some 115) (v := ?_) (a' := ?_) #[true, true, true, true, true, true, true, false, true, true, true, true, false, false, false] rfl rfl (take_ofW HT_.out HW_.out (by kernel_rfl)) (fun _ _ _ h => h) (Or.inl ⟨by rfl, ?_⟩) hHeld ?_ ?_
        rotate_left
        · intro w' hS'
          have hx := hS'.1 (lz, .cells #[.pointer (some ⟨sz, 0, none⟩), .int .i64 kk] 54 (0, 0)) (by simp)
          have c0 : w'.cell? ⟨lz, 0, none⟩ = some (.pointer (some ⟨sz, 0, none⟩)) := by rw [cell_of_row w' _ 0 _ _ _ hx]; rfl
          go_simp
          try with_reducible rfl
        rotate_left
        · simp only [Act.put, List.setIfInBounds_toArray, List.set_cons_zero, List.set_cons_succ]
          rfl
        refine one_ (i := 7) (N := some 111) #[true, true, true, true, true, true, true, true, true, true, true, true, false, false, false] rfl rfl (one_of HT_.out (by kernel_rfl)) (by decide) (fun K hK => ?_)
        refine goes_ Try.func17 (by kernel_rfl) rfl #[.pointer (some ⟨sx, 0, none⟩)] (by rfl) rfl rfl (by simp [Act.eval]) ?_
        refine (HNA.out _ hHeld.2).mono ?_
        rintro e wA ⟨rfl, hw⟩
        refine ⟨_, rfl, ?_⟩
        simp only [Act.put, List.setIfInBounds_toArray, List.set_cons_zero, List.set_cons_succ]
        rw [hw]
        clear hw wA
        refine hK.out _ _ (hHeld) (fun hHeld => ?_)
        clear hK K
        refine one_ (i := 12) (N := some 116) #[true, true, true, true, true, true, true, true, true, true, true, true, true, false, false] rfl rfl (one_of HT_.out (by kernel_rfl)) (by decide) (fun K hK => ?_)
        refine goes_ Try.func17 (by kernel_rfl) rfl #[.pointer (some ⟨sz, 0, none⟩)] (by rfl) rfl rfl (by simp [Act.eval]) ?_
        refine (HNB.out _ hHeld.2).mono ?_
        rintro e wB ⟨rfl, hw⟩
        refine ⟨_, rfl, ?_⟩
        simp only [Act.put, List.setIfInBounds_toArray, List.set_cons_zero, List.set_cons_succ]
        rw [hw]
        clear hw wB
        refine hK.out _ _ (hHeld) (fun hHeld => ?_)
        clear hK K
        refine pure_ (i := 13) (N := some 117) (v := ?_) (a' := ?_) #[true, true, true, true, true, true, true, true, true, true, true, true, true, true, false] rfl rfl (any_of HT_.out (by kernel_rfl)) (fun _ _ _ h => h) (Or.inl ⟨by rfl, ?_⟩) ?_ ?_
        rotate_left
        · intro w'
          go_simp
          try with_reducible rfl
        rotate_left
        · simp only [Act.put, List.setIfInBounds_toArray, List.set_cons_zero, List.set_cons_succ]
          rfl
        refine pure_ (i := 14) (N := some 118) (v := ?_) (a' := ?_) #[true, true, true, true, true, true, true, true, true, true, true, true, true, true, true] rfl rfl (any_of HT_.out (by kernel_rfl)) (fun _ _ _ h => h) (Or.inl ⟨by rfl, ?_⟩) ?_ ?_
        rotate_left
        · intro w'
          go_simp
          try with_reducible rfl
        rotate_left
        · simp only [Act.put, List.setIfInBounds_toArray, List.set_cons_zero, List.set_cons_succ]
          rfl
        refine done_ (done_of HT_.out (by kernel_rfl)) ?_
        have HS3 := Aside0.mk hHeld
        clear hHeld HT_ HW_
        go_wp2_with fail
        have hfin := HS3.out.2
        have HFX := Aside0.mk (HX6.out.below hfin)
        have HFY := Aside0.mk (HY6.out.below hfin)
        have HFB := Aside0.mk (And.intro (HB6.out.1.trans (hfin.mono HB6.out.2)) (Nat.le_trans HB6.out.2 hfin.size))
        clear hfin
        go_roundw
        case rel => exact ⟨j + 1, by omega, by omega, by go_num, X, ⟨HFX.out, HFY.out, HFB.out.1, HFB.out.2, by have := HLJ.out; omega, HSMN.out⟩⟩
        case measure => simp [intOf]; omega
      case pos =>
        obtain ⟨hv, ha1, ha2, ha3, ha4, hbt⟩ := HTOLD.out hg
        subst hg
        have HAP1 := Aside0.mk (fun w' (h : LimI w.heap.size w' ly sy my P0 X) (hn : w.heap.size ≤ w'.heap.size) (hb : Below w.heap.size w w') => ApplyI_fn w.heap.size w w' ly sy my P0 X x.t x.key x.c v h hn hb HSZ.out (Nat.le_trans HLEN_X.out (by omega)))
        have HAP2 := Aside0.mk (fun w' (h : LimI w.heap.size w' lz sz mz P0 X) (hn : w.heap.size ≤ w'.heap.size) (hb : Below w.heap.size w w') => ApplyI_fn w.heap.size w w' lz sz mz P0 X x.t x.key x.c 0 h hn hb HSZ.out (Nat.le_trans HLEN_X.out (by omega)))
        rw [ha1, ha2] at HAP1
        rw [ha3, ha4] at HAP2
        have HBT := Aside0.mk hbt
        obtain ⟨hv0, hv2⟩ := hv
        have HVL := Aside0.mk (show decide (v < 0) = false from decide_eq_false (by omega))
        have HVG := Aside0.mk (show decide (2 < v) = false from decide_eq_false (by omega))
        clear hv0 hv2
        clear ha1 ha2 ha3 ha4 hbt HNOT HTOLD
        go_wp2_with fail
        refine start_ (n := 20) (S := Below w.heap.size w) (ds := []) #[false, false, false, false, false, false, false, false, false, false, false, false, false, false, false, false, false, false, false, false] (by kernel_rfl) rfl rfl (HB6.out.1.drew) (fun hHeld => ?_); refine with_tabW foll__tab15 foll__bits15 (fun HT_ HW_ => ?_)
        refine pure_ (i := 0) (N := some 119) (v := ?_) (a' := ?_) #[true, false, false, false, false, false, false, false, false, false, false, false, false, false, false, false, false, false, false, false] rfl rfl (any_of HT_.out (by kernel_rfl)) (fun _ _ _ h => h) (Or.inl ⟨by rfl, ?_⟩) ?_ ?_
        rotate_left
        · intro w'
          go_simp
          try with_reducible rfl
        rotate_left
        · simp only [Act.put, List.setIfInBounds_toArray, List.set_cons_zero, List.set_cons_succ]
          rfl
        refine pure_ (i := 1) (N := some 120) (v := ?_) (a' := ?_) #[true, true, false, false, false, false, false, false, false, false, false, false, false, false, false, false, false, false, false, false] rfl rfl (any_of HT_.out (by kernel_rfl)) (fun _ _ _ h => h) (Or.inl ⟨by rfl, ?_⟩) ?_ ?_
        rotate_left
        · intro w'
          go_simp
          try with_reducible rfl
        rotate_left
        · simp only [Act.put, List.setIfInBounds_toArray, List.set_cons_zero, List.set_cons_succ]
          rfl
        refine pure_ (i := 2) (N := some 121) (v := ?_) (a' := ?_) #[true, true, true, false, false, false, false, false, false, false, false, false, false, false, false, false, false, false, false, false] rfl rfl (any_of HT_.out (by kernel_rfl)) (fun _ _ _ h => h) (Or.inl ⟨by rfl, ?_⟩) ?_ ?_
        rotate_left
        · intro w'
          go_simp
          try with_reducible rfl
        rotate_left
        · simp only [Act.put, List.setIfInBounds_toArray, List.set_cons_zero, List.set_cons_succ]
          rfl
        refine pure_ (i := 6) (N := some 125) (v := ?_) (a' := ?_) #[true, true, true, false, false, false, true, false, false, false, false, false, false, false, false, false, false, false, false, false] rfl rfl (any_of HT_.out (by kernel_rfl)) (fun _ _ _ h => h) (Or.inl ⟨by rfl, ?_⟩) ?_ ?_
        rotate_left
        · intro w'
          go_simp
          try with_reducible rfl
        rotate_left
        · simp only [Act.put, List.setIfInBounds_toArray, List.set_cons_zero, List.set_cons_succ]
          rfl
        refine pure_ (i := 7) (N := some 126) (v := ?_) (a' := ?_) #[true, true, true, false, false, false, true, true, false, false, false, false, false, false, false, false, false, false, false, false] rfl rfl (any_of HT_.out (by kernel_rfl)) (fun _ _ _ h => h) (Or.inl ⟨by rfl, ?_⟩) ?_ ?_
        rotate_left
        · intro w'
          go_simp
          try with_reducible rfl
        rotate_left
        · simp only [Act.put, List.setIfInBounds_toArray, List.set_cons_zero, List.set_cons_succ]
          rfl
        refine pure_ (i := 11) (N := some 130) (v := ?_) (a' := ?_) #[true, true, true, false, false, false, true, true, false, false, false, true, false, false, false, false, false, false, false, false] rfl rfl (any_of HT_.out (by kernel_rfl)) (fun _ _ _ h => h) (Or.inl ⟨by rfl, ?_⟩) ?_ ?_
        rotate_left
        · intro w'
          go_simp
          try with_reducible rfl
        rotate_left
        · simp only [Act.put, List.setIfInBounds_toArray, List.set_cons_zero, List.set_cons_succ]
          rfl
        refine pure_ (i := 12) (N := some 131) (v := ?_) (a' := ?_) #[true, true, true, false, false, false, true, true, false, false, false, true, true, false, false, false, false, false, false, false] rfl rfl (any_of HT_.out (by kernel_rfl)) (fun _ _ _ h => h) (Or.inl ⟨by rfl, ?_⟩) ?_ ?_
        rotate_left
        · intro w'
          go_simp
          try with_reducible rfl
        rotate_left
        · simp only [Act.put, List.setIfInBounds_toArray, List.set_cons_zero, List.set_cons_succ]
          rfl
        refine pure_ (i := 16) (N := some 135) (v := ?_) (a' := ?_) #[true, true, true, false, false, false, true, true, false, false, false, true, true, false, false, false, true, false, false, false] rfl rfl (any_of HT_.out (by kernel_rfl)) (fun _ _ _ h => h) (Or.inl ⟨by rfl, ?_⟩) ?_ ?_
        rotate_left
        · intro w'
          go_simp
          try with_reducible rfl
        rotate_left
        · simp only [Act.put, List.setIfInBounds_toArray, List.set_cons_zero, List.set_cons_succ]
          rfl
        refine pure_ (i := 3) (N := some 122) (v := ?_) (a' := ?_) #[true, true, true, true, false, false, true, true, false, false, false, true, true, false, false, false, true, false, false, false] rfl rfl (any_of HT_.out (by kernel_rfl)) (fun _ _ _ h => h) (Or.inl ⟨by rfl, ?_⟩) ?_ ?_
        rotate_left
        · intro w'
          go_simp
          try with_reducible rfl
        rotate_left
        · simp only [Act.put, List.setIfInBounds_toArray, List.set_cons_zero, List.set_cons_succ]
          rfl
        refine pure_ (i := 8) (N := some 127) (v := ?_) (a' := ?_) #[true, true, true, true, false, false, true, true, true, false, false, true, true, false, false, false, true, false, false, false] rfl rfl (any_of HT_.out (by kernel_rfl)) (fun _ _ _ h => h) (Or.inl ⟨by rfl, ?_⟩) ?_ ?_
        rotate_left
        · intro w'
          go_simp
          try with_reducible rfl
        rotate_left
        · simp only [Act.put, List.setIfInBounds_toArray, List.set_cons_zero, List.set_cons_succ]
          rfl
        refine pure_ (i := 13) (N := some 132) (v := ?_) (a' := ?_) #[true, true, true, true, false, false, true, true, true, false, false, true, true, true, false, false, true, false, false, false] rfl rfl (any_of HT_.out (by kernel_rfl)) (fun _ _ _ h => h) (Or.inl ⟨by rfl, ?_⟩) ?_ ?_
        rotate_left
        · intro w'
          go_simp
          try with_reducible rfl
        rotate_left
        · simp only [Act.put, List.setIfInBounds_toArray, List.set_cons_zero, List.set_cons_succ]
          rfl
        refine pure_ (i := 4) (N := some 123) (v := ?_) (a' := ?_) #[true, true, true, true, true, false, true, true, true, false, false, true, true, true, false, false, true, false, false, false] rfl rfl (any_of HT_.out (by kernel_rfl)) (fun _ _ _ h => h) (Or.inl ⟨by rfl, ?_⟩) ?_ ?_
        rotate_left
        · intro w'
          go_simp
          try with_reducible rfl
        rotate_left
        · simp only [Act.put, List.setIfInBounds_toArray, List.set_cons_zero, List.set_cons_succ]
          rfl
        refine pure_ (i := 9) (N := some 128) (v := ?_) (a' := ?_) #[true, true, true, true, true, false, true, true, true, true, false, true, true, true, false, false, true, false, false, false] rfl rfl (any_of HT_.out (by kernel_rfl)) (fun _ _ _ h => h) (Or.inl ⟨by rfl, ?_⟩) ?_ ?_
        rotate_left
        · intro w'
          go_simp
          try with_reducible rfl
        rotate_left
        · simp only [Act.put, List.setIfInBounds_toArray, List.set_cons_zero, List.set_cons_succ]
          rfl
        refine pure_ (i := 14) (N := some 133) (v := ?_) (a' := ?_) #[true, true, true, true, true, false, true, true, true, true, false, true, true, true, true, false, true, false, false, false] rfl rfl (any_of HT_.out (by kernel_rfl)) (fun _ _ _ h => h) (Or.inl ⟨by rfl, ?_⟩) ?_ ?_
        rotate_left
        · intro w'
          go_simp
          try with_reducible rfl
        rotate_left
        · simp only [Act.put, List.setIfInBounds_toArray, List.set_cons_zero, List.set_cons_succ]
          rfl
        refine take_ (i := 5) (N := some 124) (v := ?_) (a' := ?_) #[true, true, true, true, true, true, true, true, true, true, false, true, true, true, true, false, true, false, false, false] rfl rfl (take_ofW HT_.out HW_.out (by kernel_rfl)) (fun _ _ _ h => h) (Or.inl ⟨by rfl, ?_⟩) hHeld ?_ ?_
        rotate_left
        · intro w' hS'
          have d0 := (hS'.cell (World.block_lt_of_cell? w _ C0.out)).trans C0.out
          go_simp
          try with_reducible rfl
        rotate_left
        · simp only [Act.put, List.setIfInBounds_toArray, List.set_cons_zero, List.set_cons_succ]
          rfl
        refine take_ (i := 10) (N := some 129) (v := ?_) (a' := ?_) #[true, true, true, true, true, true, true, true, true, true, true, true, true, true, true, false, true, false, false, false] rfl rfl (take_ofW HT_.out HW_.out (by kernel_rfl)) (fun _ _ _ h => h) (Or.inl ⟨by rfl, ?_⟩) hHeld ?_ ?_
        rotate_left
        · intro w' hS'
          have d0 := (hS'.cell (World.block_lt_of_cell? w _ C1.out)).trans C1.out
          go_simp
          try with_reducible rfl
        rotate_left
        · simp only [Act.put, List.setIfInBounds_toArray, List.set_cons_zero, List.set_cons_succ]
          rfl
        refine take_ (i := 15) (N := some 134) (v := ?_) (a' := ?_) #[true, true, true, true, true, true, true, true, true, true, true, true, true, true, true, true, true, false, false, false] rfl rfl (take_ofW HT_.out HW_.out (by kernel_rfl)) (fun _ _ _ h => h) (Or.inl ⟨by rfl, ?_⟩) hHeld ?_ ?_
        rotate_left
        · intro w' hS'
          have d0 := (hS'.cell (World.block_lt_of_cell? w _ C2.out)).trans C2.out
          go_simp
          try with_reducible rfl
        rotate_left
        · simp only [Act.put, List.setIfInBounds_toArray, List.set_cons_zero, List.set_cons_succ]
          rfl
        refine pure_ (i := 17) (N := some 136) (v := ?_) (a' := ?_) #[true, true, true, true, true, true, true, true, true, true, true, true, true, true, true, true, true, true, false, false] rfl rfl (any_of HT_.out (by kernel_rfl)) (fun _ _ _ h => h) (Or.inl ⟨by rfl, ?_⟩) ?_ ?_
        rotate_left
        · intro w'
          go_simp
          try with_reducible rfl
        rotate_left
        · simp only [Act.put, List.setIfInBounds_toArray, List.set_cons_zero, List.set_cons_succ]
          rfl
        refine one_ (i := 18) (N := some 137) #[true, true, true, true, true, true, true, true, true, true, true, true, true, true, true, true, true, true, true, false] rfl rfl (one_of HT_.out (by kernel_rfl)) (by decide) (fun K hK => ?_)
        refine goes_ Try.func30 (by kernel_rfl) rfl #[.pointer (some ⟨ly, 0, none⟩), .agg #[.int .i64 x.t, .string x.key, .int .i64 x.c, .int .i64 v]] (by rfl) rfl rfl (by simp [Act.eval]) ?_
        refine (HAP1.out _ (HY6.out.below ((Below.refl _ _).drew)) (by exact HB6.out.2) hHeld).mono ?_
        rintro e w7 ⟨rfl, hl, hb, hn, hk⟩
        refine ⟨_, rfl, ?_⟩
        simp only [Act.put, List.setIfInBounds_toArray, List.set_cons_zero, List.set_cons_succ]
        have HQ := Aside0.mk (And.intro hl (And.intro hb (And.intro hn (Keeps.pre ((Below.refl _ _).drew) hk))))
        clear hl hn hk
        refine hK.out _ _ (hb) (fun hHeld => ?_)
        clear hK K
        refine pure_ (i := 19) (N := some 15) (v := ?_) (a' := ?_) #[true, true, true, true, true, true, true, true, true, true, true, true, true, true, true, true, true, true, true, true] rfl rfl (any_of HT_.out (by kernel_rfl)) (fun _ _ _ h => h) (Or.inl ⟨by rfl, ?_⟩) ?_ ?_
        rotate_left
        · intro w'
          go_simp
          try with_reducible rfl
        rotate_left
        · simp only [Act.put, List.setIfInBounds_toArray, List.set_cons_zero, List.set_cons_succ]
          rfl
        refine done_ (done_of HT_.out (by kernel_rfl)) ?_
        clear hHeld HT_ HW_
        have HX7 := Aside0.mk (HX6b.out.aside HY6.out HNE.out.1 HNE.out.2.1 HQ.out.2.2.2)
        have HY7 := Aside0.mk HQ.out.1
        have HZ7 := Aside0.mk (HZ6.out.aside HY6.out HNE.out.2.2.2.2.1.symm HNE.out.2.2.2.2.2.symm HQ.out.2.2.2)
        have HB7 := Aside0.mk (And.intro HQ.out.2.1 HQ.out.2.2.1)
        clear HQ HX6b HY6 HZ6 HB6 HAP1
        have HS := Aside0.mk ((HeldB.one (w0 := w7) (x := (ly, .cells #[.pointer (some ⟨sy, 0, none⟩), .int .i64 kk] 54 (0, 0))) (HTOP.out _ _ _ _ _ HY7.out) (Below.refl _ w7)).more (x := (lx, .cells #[.pointer (some ⟨sx, 0, none⟩), .int .i64 kk] 54 (0, 0))) (HTOP.out _ _ _ _ _ HX7.out))
        have HBA := Aside0.mk (BytesW HX7.out HLEN_X2.out)
        have HBB := Aside0.mk (BytesW HY7.out HLEN_X2.out)
        have HNA := Aside0.mk (fun W (hb : Below (World.heap w7).size w7 W) => Now_fn W sx mx P0 _ _ (HX7.out.lim.led.below hb))
        have HNB := Aside0.mk (fun W (hb : Below (World.heap w7).size w7 W) => Now_fn W sy my P0 _ _ (HY7.out.lim.led.below hb))
        go_wp2_with fail
        refine start_ (n := 12) (S := HeldB w7 [(lx, .cells #[.pointer (some ⟨sx, 0, none⟩), .int .i64 kk] 54 (0, 0)), (ly, .cells #[.pointer (some ⟨sy, 0, none⟩), .int .i64 kk] 54 (0, 0))]) (ds := []) #[false, false, false, false, false, false, false, false, false, false, false, false] (by kernel_rfl) rfl rfl (HS.out.drew) (fun hHeld => ?_); refine with_tabW foll__tab16 foll__bits16 (fun HT_ HW_ => ?_)
        refine pure_ (i := 0) (N := some 138) (v := ?_) (a' := ?_) #[true, false, false, false, false, false, false, false, false, false, false, false] rfl rfl (any_of HT_.out (by kernel_rfl)) (fun _ _ _ h => h) (Or.inl ⟨by rfl, ?_⟩) ?_ ?_
        rotate_left
        · intro w'
          go_simp
          try with_reducible rfl
        rotate_left
        · simp only [Act.put, List.setIfInBounds_toArray, List.set_cons_zero, List.set_cons_succ]
          rfl
        refine pure_ (i := 5) (N := some 143) (v := ?_) (a' := ?_) #[true, false, false, false, false, true, false, false, false, false, false, false] rfl rfl (any_of HT_.out (by kernel_rfl)) (fun _ _ _ h => h) (Or.inl ⟨by rfl, ?_⟩) ?_ ?_
        rotate_left
        · intro w'
          go_simp
          try with_reducible rfl
        rotate_left
        · simp only [Act.put, List.setIfInBounds_toArray, List.set_cons_zero, List.set_cons_succ]
          rfl
        refine pure_ (i := 1) (N := some 139) (v := ?_) (a' := ?_) #[true, true, false, false, false, true, false, false, false, false, false, false] rfl rfl (any_of HT_.out (by kernel_rfl)) (fun _ _ _ h => h) (Or.inl ⟨by rfl, ?_⟩) ?_ ?_
        rotate_left
        · intro w'
          go_simp
          try with_reducible rfl
        rotate_left
        · simp only [Act.put, List.setIfInBounds_toArray, List.set_cons_zero, List.set_cons_succ]
          rfl
        refine pure_ (i := 6) (N := some 144) (v := ?_) (a' := ?_) #[true, true, false, false, false, true, true, false, false, false, false, false] rfl rfl (any_of HT_.out (by kernel_rfl)) (fun _ _ _ h => h) (Or.inl ⟨by rfl, ?_⟩) ?_ ?_
        rotate_left
        · intro w'
          go_simp
          try with_reducible rfl
        rotate_left
        · simp only [Act.put, List.setIfInBounds_toArray, List.set_cons_zero, List.set_cons_succ]
          rfl
        refine pure_ (i := 2) (N := some 140) (v := ?_) (a' := ?_) #[true, true, true, false, false, true, true, false, false, false, false, false] rfl rfl (any_of HT_.out (by kernel_rfl)) (fun _ _ _ h => h) (Or.inl ⟨by rfl, ?_⟩) ?_ ?_
        rotate_left
        · intro w'
          go_simp
          try with_reducible rfl
        rotate_left
        · simp only [Act.put, List.setIfInBounds_toArray, List.set_cons_zero, List.set_cons_succ]
          rfl
        refine pure_ (i := 7) (N := some 145) (v := ?_) (a' := ?_) #[true, true, true, false, false, true, true, true, false, false, false, false] rfl rfl (any_of HT_.out (by kernel_rfl)) (fun _ _ _ h => h) (Or.inl ⟨by rfl, ?_⟩) ?_ ?_
        rotate_left
        · intro w'
          go_simp
          try with_reducible rfl
        rotate_left
        · simp only [Act.put, List.setIfInBounds_toArray, List.set_cons_zero, List.set_cons_succ]
          rfl
        refine take_ (i := 3) (N := some 141) (v := ?_) (a' := ?_) #[true, true, true, true, false, true, true, true, false, false, false, false] rfl rfl (take_ofW HT_.out HW_.out (by kernel_rfl)) (fun _ _ _ h => h) (Or.inl ⟨by rfl, ?_⟩) hHeld ?_ ?_
        rotate_left
        · intro w' hS'
          have hx := hS'.1 (lx, .cells #[.pointer (some ⟨sx, 0, none⟩), .int .i64 kk] 54 (0, 0)) (by simp)
          have c0 : w'.cell? ⟨lx, 0, none⟩ = some (.pointer (some ⟨sx, 0, none⟩)) := by rw [cell_of_row w' _ 0 _ _ _ hx]; rfl
          go_simp
          try with_reducible rfl
        rotate_left
        · simp only [Act.put, List.setIfInBounds_toArray, List.set_cons_zero, List.set_cons_succ]
          rfl
        refine take_ (i := 8) (N := some 146) (v := ?_) (a' := ?_) #[true, true, true, true, false, true, true, true, true, false, false, false] rfl rfl (take_ofW HT_.out HW_.out (by kernel_rfl)) (fun _ _ _ h => h) (Or.inl ⟨by rfl, ?_⟩) hHeld ?_ ?_
        rotate_left
        · intro w' hS'
          have hx := hS'.1 (ly, .cells #[.pointer (some ⟨sy, 0, none⟩), .int .i64 kk] 54 (0, 0)) (by simp)
          have c0 : w'.cell? ⟨ly, 0, none⟩ = some (.pointer (some ⟨sy, 0, none⟩)) := by rw [cell_of_row w' _ 0 _ _ _ hx]; rfl
          go_simp
          try with_reducible rfl
        rotate_left
        · simp only [Act.put, List.setIfInBounds_toArray, List.set_cons_zero, List.set_cons_succ]
          rfl
        refine one_ (i := 4) (N := some 142) #[true, true, true, true, true, true, true, true, true, false, false, false] rfl rfl (one_of HT_.out (by kernel_rfl)) (by decide) (fun K hK => ?_)
        refine goes_ Try.func16 (by kernel_rfl) rfl #[.pointer (some ⟨sx, 0, none⟩)] (by rfl) rfl rfl (by simp [Act.eval]) ?_
        refine (HBA.out _ hHeld.2).mono ?_
        rintro e wA ⟨A1, q1, rfl, hr1, hb⟩
        refine ⟨_, rfl, ?_⟩
        simp only [Act.put, List.setIfInBounds_toArray, List.set_cons_zero, List.set_cons_succ]
        have HR1 := Aside0.mk hr1
        clear hr1
        refine hK.out _ _ (hHeld.step hb) (fun hHeld => ?_)
        clear hK K
        refine one_ (i := 9) (N := some 147) #[true, true, true, true, true, true, true, true, true, true, false, false] rfl rfl (one_of HT_.out (by kernel_rfl)) (by decide) (fun K hK => ?_)
        refine goes_ Try.func16 (by kernel_rfl) rfl #[.pointer (some ⟨sy, 0, none⟩)] (by rfl) rfl rfl (by simp [Act.eval]) ?_
        refine (HBB.out _ hHeld.2).mono ?_
        rintro e wB ⟨A2, q2, rfl, hr2, hb⟩
        refine ⟨_, rfl, ?_⟩
        simp only [Act.put, List.setIfInBounds_toArray, List.set_cons_zero, List.set_cons_succ]
        have HR2 := Aside0.mk hr2
        have HR1b := Aside0.mk (HR1.out.below hb)
        clear hr2 HR1
        refine hK.out _ _ (hHeld.step hb) (fun hHeld => ?_)
        clear hK K
        refine one_ (i := 10) (N := some 148) #[true, true, true, true, true, true, true, true, true, true, true, false] rfl rfl (one_of HT_.out (by kernel_rfl)) (by decide) (fun K hK => ?_)
        refine goes_ Try.func19 (by kernel_rfl) rfl #[.slice A1 (bytesR X2.rows).length q1, .slice A2 (bytesR X2.rows).length q2] (by rfl) rfl rfl (by simp [Act.eval]) ?_
        refine (SameI_fn _ A1 A2 q1 q2 _ _ HR1b.out HR2.out).mono ?_
        rintro e wC ⟨rfl, hb⟩
        refine ⟨_, rfl, ?_⟩
        simp only [Act.put, List.setIfInBounds_toArray, List.set_cons_zero, List.set_cons_succ]
        first | rw [decide_eq_true (show bytesR X2.rows = bytesR X2.rows from rfl)] | simp only [decide_true] | skip
        clear HR1b HR2
        refine hK.out _ _ (hHeld.step hb) (fun hHeld => ?_)
        clear hK K
        refine pure_ (i := 11) (N := some 16) (v := ?_) (a' := ?_) #[true, true, true, true, true, true, true, true, true, true, true, true] rfl rfl (any_of HT_.out (by kernel_rfl)) (fun _ _ _ h => h) (Or.inl ⟨by rfl, ?_⟩) ?_ ?_
        rotate_left
        · intro w'
          go_simp
          try with_reducible rfl
        rotate_left
        · simp only [Act.put, List.setIfInBounds_toArray, List.set_cons_zero, List.set_cons_succ]
          rfl
        refine done_ (done_of HT_.out (by kernel_rfl)) ?_
        have HS2 := Aside0.mk hHeld
        clear hHeld HT_ HW_
        go_wp2_with fail
        refine start_ (n := 27) (S := HeldB w7 [(lx, .cells #[.pointer (some ⟨sx, 0, none⟩), .int .i64 kk] 54 (0, 0)), (ly, .cells #[.pointer (some ⟨sy, 0, none⟩), .int .i64 kk] 54 (0, 0))]) (ds := []) #[false, false, false, false, false, false, false, false, false, false, false, false, false, false, false, false, false, false, false, false, false, false, false, false, false, false, false] (by kernel_rfl) rfl rfl (HS2.out.drew) (fun hHeld => ?_); refine with_tabW foll__tab17 foll__bits17 (fun HT_ HW_ => ?_)
        refine pure_ (i := 0) (N := some 149) (v := ?_) (a' := ?_) #[true, false, false, false, false, false, false, false, false, false, false, false, false, false, false, false, false, false, false, false, false, false, false, false, false, false, false] rfl rfl (any_of HT_.out (by kernel_rfl)) (fun _ _ _ h => h) (Or.inl ⟨by rfl, ?_⟩) ?_ ?_
        rotate_left
        · intro w'
          go_simp
          try with_reducible rfl
        rotate_left
        · simp only [Act.put, List.setIfInBounds_toArray, List.set_cons_zero, List.set_cons_succ]
          rfl
        refine pure_ (i := 1) (N := some 150) (v := ?_) (a' := ?_) #[true, true, false, false, false, false, false, false, false, false, false, false, false, false, false, false, false, false, false, false, false, false, false, false, false, false, false] rfl rfl (any_of HT_.out (by kernel_rfl)) (fun _ _ _ h => h) (Or.inl ⟨by rfl, ?_⟩) ?_ ?_
        rotate_left
        · intro w'
          go_simp
          try with_reducible rfl
        rotate_left
        · simp only [Act.put, List.setIfInBounds_toArray, List.set_cons_zero, List.set_cons_succ]
          rfl
        refine pure_ (i := 2) (N := some 151) (v := ?_) (a' := ?_) #[true, true, true, false, false, false, false, false, false, false, false, false, false, false, false, false, false, false, false, false, false, false, false, false, false, false, false] rfl rfl (any_of HT_.out (by kernel_rfl)) (fun _ _ _ h => h) (Or.inl ⟨by rfl, ?_⟩) ?_ ?_
        rotate_left
        · intro w'
          go_simp
          try with_reducible rfl
        rotate_left
        · simp only [Act.put, List.setIfInBounds_toArray, List.set_cons_zero, List.set_cons_succ]
          rfl
        refine pure_ (i := 3) (N := some 152) (v := ?_) (a' := ?_) #[true, true, true, true, false, false, false, false, false, false, false, false, false, false, false, false, false, false, false, false, false, false, false, false, false, false, false] rfl rfl (any_of HT_.out (by kernel_rfl)) (fun _ _ _ h => h) (Or.inl ⟨by rfl, ?_⟩) ?_ ?_
        rotate_left
        · intro w'
          go_simp
          try with_reducible rfl
        rotate_left
        · simp only [Act.put, List.setIfInBounds_toArray, List.set_cons_zero, List.set_cons_succ]
          rfl
        refine pure_ (i := 4) (N := some 153) (v := ?_) (a' := ?_) #[true, true, true, true, true, false, false, false, false, false, false, false, false, false, false, false, false, false, false, false, false, false, false, false, false, false, false] rfl rfl (any_of HT_.out (by kernel_rfl)) (fun _ _ _ h => h) (Or.inl ⟨by rfl, ?_⟩) ?_ ?_
        rotate_left
        · intro w'
          go_simp
          try with_reducible rfl
        rotate_left
        · simp only [Act.put, List.setIfInBounds_toArray, List.set_cons_zero, List.set_cons_succ]
          rfl
        refine pure_ (i := 5) (N := some 154) (v := ?_) (a' := ?_) #[true, true, true, true, true, true, false, false, false, false, false, false, false, false, false, false, false, false, false, false, false, false, false, false, false, false, false] rfl rfl (any_of HT_.out (by kernel_rfl)) (fun _ _ _ h => h) (Or.inl ⟨by rfl, ?_⟩) ?_ ?_
        rotate_left
        · intro w'
          go_simp
          try with_reducible rfl
        rotate_left
        · simp only [Act.put, List.setIfInBounds_toArray, List.set_cons_zero, List.set_cons_succ]
          rfl
        refine pure_ (i := 6) (N := some 155) (v := ?_) (a' := ?_) #[true, true, true, true, true, true, true, false, false, false, false, false, false, false, false, false, false, false, false, false, false, false, false, false, false, false, false] rfl rfl (any_of HT_.out (by kernel_rfl)) (fun _ _ _ h => h) (Or.inl ⟨by rfl, ?_⟩) ?_ ?_
        rotate_left
        · intro w'
          go_simp
          try with_reducible rfl
        rotate_left
        · simp only [Act.put, List.setIfInBounds_toArray, List.set_cons_zero, List.set_cons_succ]
          rfl
        refine pure_ (i := 7) (N := some 156) (v := ?_) (a' := ?_) #[true, true, true, true, true, true, true, true, false, false, false, false, false, false, false, false, false, false, false, false, false, false, false, false, false, false, false] rfl rfl (any_of HT_.out (by kernel_rfl)) (fun _ _ _ h => h) (Or.inl ⟨by rfl, ?_⟩) ?_ ?_
        rotate_left
        · intro w'
          go_simp
          try with_reducible rfl
        rotate_left
        · simp only [Act.put, List.setIfInBounds_toArray, List.set_cons_zero, List.set_cons_succ]
          rfl
        refine pure_ (i := 12) (N := some 161) (v := ?_) (a' := ?_) #[true, true, true, true, true, true, true, true, false, false, false, false, true, false, false, false, false, false, false, false, false, false, false, false, false, false, false] rfl rfl (any_of HT_.out (by kernel_rfl)) (fun _ _ _ h => h) (Or.inl ⟨by rfl, ?_⟩) ?_ ?_
        rotate_left
        · intro w'
          go_simp
          try with_reducible rfl
        rotate_left
        · simp only [Act.put, List.setIfInBounds_toArray, List.set_cons_zero, List.set_cons_succ]
          rfl
        refine pure_ (i := 8) (N := some 157) (v := ?_) (a' := ?_) #[true, true, true, true, true, true, true, true, true, false, false, false, true, false, false, false, false, false, false, false, false, false, false, false, false, false, false] rfl rfl (any_of HT_.out (by kernel_rfl)) (fun _ _ _ h => h) (Or.inl ⟨by rfl, ?_⟩) ?_ ?_
        rotate_left
        · intro w'
          go_simp
          try with_reducible rfl
        rotate_left
        · simp only [Act.put, List.setIfInBounds_toArray, List.set_cons_zero, List.set_cons_succ]
          rfl
        refine pure_ (i := 13) (N := some 162) (v := ?_) (a' := ?_) #[true, true, true, true, true, true, true, true, true, false, false, false, true, true, false, false, false, false, false, false, false, false, false, false, false, false, false] rfl rfl (any_of HT_.out (by kernel_rfl)) (fun _ _ _ h => h) (Or.inl ⟨by rfl, ?_⟩) ?_ ?_
        rotate_left
        · intro w'
          go_simp
          try with_reducible rfl
        rotate_left
        · simp only [Act.put, List.setIfInBounds_toArray, List.set_cons_zero, List.set_cons_succ]
          rfl
        refine pure_ (i := 9) (N := some 158) (v := ?_) (a' := ?_) #[true, true, true, true, true, true, true, true, true, true, false, false, true, true, false, false, false, false, false, false, false, false, false, false, false, false, false] rfl rfl (any_of HT_.out (by kernel_rfl)) (fun _ _ _ h => h) (Or.inl ⟨by rfl, ?_⟩) ?_ ?_
        rotate_left
        · intro w'
          go_simp
          try with_reducible rfl
        rotate_left
        · simp only [Act.put, List.setIfInBounds_toArray, List.set_cons_zero, List.set_cons_succ]
          rfl
        refine pure_ (i := 14) (N := some 163) (v := ?_) (a' := ?_) #[true, true, true, true, true, true, true, true, true, true, false, false, true, true, true, false, false, false, false, false, false, false, false, false, false, false, false] rfl rfl (any_of HT_.out (by kernel_rfl)) (fun _ _ _ h => h) (Or.inl ⟨by rfl, ?_⟩) ?_ ?_
        rotate_left
        · intro w'
          go_simp
          try with_reducible rfl
        rotate_left
        · simp only [Act.put, List.setIfInBounds_toArray, List.set_cons_zero, List.set_cons_succ]
          rfl
        refine take_ (i := 10) (N := some 159) (v := ?_) (a' := ?_) #[true, true, true, true, true, true, true, true, true, true, true, false, true, true, true, false, false, false, false, false, false, false, false, false, false, false, false] rfl rfl (take_ofW HT_.out HW_.out (by kernel_rfl)) (fun _ _ _ h => h) (Or.inl ⟨by rfl, ?_⟩) hHeld ?_ ?_
        rotate_left
        · intro w' hS'
          have hx := hS'.1 (lx, .cells #[.pointer (some ⟨sx, 0, none⟩), .int .i64 kk] 54 (0, 0)) (by simp)
          have c0 : w'.cell? ⟨lx, 0, none⟩ = some (.pointer (some ⟨sx, 0, none⟩)) := by rw [cell_of_row w' _ 0 _ _ _ hx]; rfl
          go_simp
          try with_reducible rfl
        rotate_left
        · simp only [Act.put, List.setIfInBounds_toArray, List.set_cons_zero, List.set_cons_succ]
          rfl
        refine take_ (i := 15) (N := some 164) (v := ?_) (a' := ?_) #[true, true, true, true, true, true, true, true, true, true, true, false, true, true, true, true, false, false, false, false, false, false, false, false, false, false, false] rfl rfl (take_ofW HT_.out HW_.out (by kernel_rfl)) (fun _ _ _ h => h) (Or.inl ⟨by rfl, ?_⟩) hHeld ?_ ?_
        rotate_left
        · intro w' hS'
          have hx := hS'.1 (ly, .cells #[.pointer (some ⟨sy, 0, none⟩), .int .i64 kk] 54 (0, 0)) (by simp)
          have c0 : w'.cell? ⟨ly, 0, none⟩ = some (.pointer (some ⟨sy, 0, none⟩)) := by rw [cell_of_row w' _ 0 _ _ _ hx]; rfl
          go_simp
          try with_reducible rfl
        rotate_left
        · simp only [Act.put, List.setIfInBounds_toArray, List.set_cons_zero, List.set_cons_succ]
          rfl
        refine one_ (i := 11) (N := some 160) #[true, true, true, true, true, true, true, true, true, true, true, true, true, true, true, true, false, false, false, false, false, false, false, false, false, false, false] rfl rfl (one_of HT_.out (by kernel_rfl)) (by decide) (fun K hK => ?_)
        refine goes_ Try.func17 (by kernel_rfl) rfl #[.pointer (some ⟨sx, 0, none⟩)] (by rfl) rfl rfl (by simp [Act.eval]) ?_
        refine (HNA.out _ hHeld.2).mono ?_
        rintro e wA ⟨rfl, hw⟩
        refine ⟨_, rfl, ?_⟩
        simp only [Act.put, List.setIfInBounds_toArray, List.set_cons_zero, List.set_cons_succ]
        rw [hw]
        clear hw wA
        refine hK.out _ _ (hHeld) (fun hHeld => ?_)
        clear hK K
        refine one_ (i := 16) (N := some 165) #[true, true, true, true, true, true, true, true, true, true, true, true, true, true, true, true, true, false, false, false, false, false, false, false, false, false, false] rfl rfl (one_of HT_.out (by kernel_rfl)) (by decide) (fun K hK => ?_)
        refine goes_ Try.func17 (by kernel_rfl) rfl #[.pointer (some ⟨sy, 0, none⟩)] (by rfl) rfl rfl (by simp [Act.eval]) ?_
        refine (HNB.out _ hHeld.2).mono ?_
        rintro e wB ⟨rfl, hw⟩
        refine ⟨_, rfl, ?_⟩
        simp only [Act.put, List.setIfInBounds_toArray, List.set_cons_zero, List.set_cons_succ]
        rw [hw]
        clear hw wB
        refine hK.out _ _ (hHeld) (fun hHeld => ?_)
        clear hK K
        refine pure_ (i := 17) (N := some 166) (v := ?_) (a' := ?_) #[true, true, true, true, true, true, true, true, true, true, true, true, true, true, true, true, true, true, false, false, false, false, false, false, false, false, false] rfl rfl (any_of HT_.out (by kernel_rfl)) (fun _ _ _ h => h) (Or.inl ⟨by rfl, ?_⟩) ?_ ?_
        rotate_left
        · intro w'
          go_simp
          try with_reducible rfl
        rotate_left
        · simp only [Act.put, List.setIfInBounds_toArray, List.set_cons_zero, List.set_cons_succ]
          rfl
        refine pure_ (i := 18) (N := some 167) (v := ?_) (a' := ?_) #[true, true, true, true, true, true, true, true, true, true, true, true, true, true, true, true, true, true, true, false, false, false, false, false, false, false, false] rfl rfl (any_of HT_.out (by kernel_rfl)) (fun _ _ _ h => h) (Or.inl ⟨by rfl, ?_⟩) ?_ ?_
        rotate_left
        · intro w'
          go_simp
          try with_reducible rfl
        rotate_left
        · simp only [Act.put, List.setIfInBounds_toArray, List.set_cons_zero, List.set_cons_succ]
          rfl
        refine pure_ (i := 19) (N := some 168) (v := ?_) (a' := ?_) #[true, true, true, true, true, true, true, true, true, true, true, true, true, true, true, true, true, true, true, true, false, false, false, false, false, false, false] rfl rfl (any_of HT_.out (by kernel_rfl)) (fun _ _ _ h => h) (Or.inl ⟨by rfl, ?_⟩) ?_ ?_
        rotate_left
        · intro w'
          go_simp
          try with_reducible rfl
        rotate_left
        · simp only [Act.put, List.setIfInBounds_toArray, List.set_cons_zero, List.set_cons_succ]
          rfl
        refine pure_ (i := 20) (N := some 169) (v := ?_) (a' := ?_) #[true, true, true, true, true, true, true, true, true, true, true, true, true, true, true, true, true, true, true, true, true, false, false, false, false, false, false] rfl rfl (any_of HT_.out (by kernel_rfl)) (fun _ _ _ h => h) (Or.inl ⟨by rfl, ?_⟩) ?_ ?_
        rotate_left
        · intro w'
          go_simp
          try with_reducible rfl
        rotate_left
        · simp only [Act.put, List.setIfInBounds_toArray, List.set_cons_zero, List.set_cons_succ]
          rfl
        refine pure_ (i := 21) (N := some 170) (v := ?_) (a' := ?_) #[true, true, true, true, true, true, true, true, true, true, true, true, true, true, true, true, true, true, true, true, true, true, false, false, false, false, false] rfl rfl (any_of HT_.out (by kernel_rfl)) (fun _ _ _ h => h) (Or.inl ⟨by rfl, ?_⟩) ?_ ?_
        rotate_left
        · intro w'
          go_simp
          try with_reducible rfl
        rotate_left
        · simp only [Act.put, List.setIfInBounds_toArray, List.set_cons_zero, List.set_cons_succ]
          rfl
        rw [HVL.out]
        refine pure_ (i := 22) (N := some 171) (v := ?_) (a' := ?_) #[true, true, true, true, true, true, true, true, true, true, true, true, true, true, true, true, true, true, true, true, true, true, true, false, false, false, false] rfl rfl (any_of HT_.out (by kernel_rfl)) (fun _ _ _ h => h) (Or.inl ⟨by rfl, ?_⟩) ?_ ?_
        rotate_left
        · intro w'
          go_simp
          try with_reducible rfl
        rotate_left
        · simp only [Act.put, List.setIfInBounds_toArray, List.set_cons_zero, List.set_cons_succ]
          rfl
        refine pure_ (i := 23) (N := some 172) (v := ?_) (a' := ?_) #[true, true, true, true, true, true, true, true, true, true, true, true, true, true, true, true, true, true, true, true, true, true, true, true, false, false, false] rfl rfl (any_of HT_.out (by kernel_rfl)) (fun _ _ _ h => h) (Or.inl ⟨by rfl, ?_⟩) ?_ ?_
        rotate_left
        · intro w'
          go_simp
          try with_reducible rfl
        rotate_left
        · simp only [Act.put, List.setIfInBounds_toArray, List.set_cons_zero, List.set_cons_succ]
          rfl
        refine pure_ (i := 24) (N := some 173) (v := ?_) (a' := ?_) #[true, true, true, true, true, true, true, true, true, true, true, true, true, true, true, true, true, true, true, true, true, true, true, true, true, false, false] rfl rfl (any_of HT_.out (by kernel_rfl)) (fun _ _ _ h => h) (Or.inl ⟨by rfl, ?_⟩) ?_ ?_
        rotate_left
        · intro w'
          go_simp
          try with_reducible rfl
        rotate_left
        · simp only [Act.put, List.setIfInBounds_toArray, List.set_cons_zero, List.set_cons_succ]
          rfl
        refine pure_ (i := 25) (N := some 174) (v := ?_) (a' := ?_) #[true, true, true, true, true, true, true, true, true, true, true, true, true, true, true, true, true, true, true, true, true, true, true, true, true, true, false] rfl rfl (any_of HT_.out (by kernel_rfl)) (fun _ _ _ h => h) (Or.inl ⟨by rfl, ?_⟩) ?_ ?_
        rotate_left
        · intro w'
          go_simp
          try with_reducible rfl
        rotate_left
        · simp only [Act.put, List.setIfInBounds_toArray, List.set_cons_zero, List.set_cons_succ]
          rfl
        rw [HVG.out]
        refine pure_ (i := 26) (N := some 175) (v := ?_) (a' := ?_) #[true, true, true, true, true, true, true, true, true, true, true, true, true, true, true, true, true, true, true, true, true, true, true, true, true, true, true] rfl rfl (any_of HT_.out (by kernel_rfl)) (fun _ _ _ h => h) (Or.inl ⟨by rfl, ?_⟩) ?_ ?_
        rotate_left
        · intro w'
          go_simp
          try with_reducible rfl
        rotate_left
        · simp only [Act.put, List.setIfInBounds_toArray, List.set_cons_zero, List.set_cons_succ]
          rfl
        refine done_ (done_of HT_.out (by kernel_rfl)) ?_
        have HS3 := Aside0.mk hHeld
        clear hHeld HT_ HW_
        have hf8 := HS3.out.2
        have HX8 := Aside0.mk (HX7.out.below hf8)
        have HY8 := Aside0.mk (HY7.out.below hf8)
        have HZ8 := Aside0.mk (HZ7.out.below hf8)
        have HB8 := Aside0.mk (And.intro (HB7.out.1.trans (hf8.mono HB7.out.2)) (Nat.le_trans HB7.out.2 hf8.size))
        clear hf8 HX7 HY7 HZ7 HB7 HS HS2 HS3 HBA HBB HNA HNB
        go_wp2_with fail
        refine start_ (n := 18) (S := Below w.heap.size w) (ds := []) #[false, false, false, false, false, false, false, false, false, false, false, false, false, false, false, false, false, false] (by kernel_rfl) rfl rfl (HB8.out.1.drew) (fun hHeld => ?_); refine with_tabW foll__tab19 foll__bits19 (fun HT_ HW_ => ?_)
        refine pure_ (i := 0) (N := some 176) (v := ?_) (a' := ?_) #[true, false, false, false, false, false, false, false, false, false, false, false, false, false, false, false, false, false] rfl rfl (any_of HT_.out (by kernel_rfl)) (fun _ _ _ h => h) (Or.inl ⟨by rfl, ?_⟩) ?_ ?_
        rotate_left
        · intro w'
          go_simp
          try with_reducible rfl
        rotate_left
        · simp only [Act.put, List.setIfInBounds_toArray, List.set_cons_zero, List.set_cons_succ]
          rfl
        refine pure_ (i := 1) (N := some 177) (v := ?_) (a' := ?_) #[true, true, false, false, false, false, false, false, false, false, false, false, false, false, false, false, false, false] rfl rfl (any_of HT_.out (by kernel_rfl)) (fun _ _ _ h => h) (Or.inl ⟨by rfl, ?_⟩) ?_ ?_
        rotate_left
        · intro w'
          go_simp
          try with_reducible rfl
        rotate_left
        · simp only [Act.put, List.setIfInBounds_toArray, List.set_cons_zero, List.set_cons_succ]
          rfl
        refine pure_ (i := 2) (N := some 178) (v := ?_) (a' := ?_) #[true, true, true, false, false, false, false, false, false, false, false, false, false, false, false, false, false, false] rfl rfl (any_of HT_.out (by kernel_rfl)) (fun _ _ _ h => h) (Or.inl ⟨by rfl, ?_⟩) ?_ ?_
        rotate_left
        · intro w'
          go_simp
          try with_reducible rfl
        rotate_left
        · simp only [Act.put, List.setIfInBounds_toArray, List.set_cons_zero, List.set_cons_succ]
          rfl
        refine pure_ (i := 6) (N := some 182) (v := ?_) (a' := ?_) #[true, true, true, false, false, false, true, false, false, false, false, false, false, false, false, false, false, false] rfl rfl (any_of HT_.out (by kernel_rfl)) (fun _ _ _ h => h) (Or.inl ⟨by rfl, ?_⟩) ?_ ?_
        rotate_left
        · intro w'
          go_simp
          try with_reducible rfl
        rotate_left
        · simp only [Act.put, List.setIfInBounds_toArray, List.set_cons_zero, List.set_cons_succ]
          rfl
        refine pure_ (i := 7) (N := some 183) (v := ?_) (a' := ?_) #[true, true, true, false, false, false, true, true, false, false, false, false, false, false, false, false, false, false] rfl rfl (any_of HT_.out (by kernel_rfl)) (fun _ _ _ h => h) (Or.inl ⟨by rfl, ?_⟩) ?_ ?_
        rotate_left
        · intro w'
          go_simp
          try with_reducible rfl
        rotate_left
        · simp only [Act.put, List.setIfInBounds_toArray, List.set_cons_zero, List.set_cons_succ]
          rfl
        refine pure_ (i := 11) (N := some 187) (v := ?_) (a' := ?_) #[true, true, true, false, false, false, true, true, false, false, false, true, false, false, false, false, false, false] rfl rfl (any_of HT_.out (by kernel_rfl)) (fun _ _ _ h => h) (Or.inl ⟨by rfl, ?_⟩) ?_ ?_
        rotate_left
        · intro w'
          go_simp
          try with_reducible rfl
        rotate_left
        · simp only [Act.put, List.setIfInBounds_toArray, List.set_cons_zero, List.set_cons_succ]
          rfl
        refine pure_ (i := 12) (N := some 188) (v := ?_) (a' := ?_) #[true, true, true, false, false, false, true, true, false, false, false, true, true, false, false, false, false, false] rfl rfl (any_of HT_.out (by kernel_rfl)) (fun _ _ _ h => h) (Or.inl ⟨by rfl, ?_⟩) ?_ ?_
        rotate_left
        · intro w'
          go_simp
          try with_reducible rfl
        rotate_left
        · simp only [Act.put, List.setIfInBounds_toArray, List.set_cons_zero, List.set_cons_succ]
          rfl
        refine pure_ (i := 3) (N := some 179) (v := ?_) (a' := ?_) #[true, true, true, true, false, false, true, true, false, false, false, true, true, false, false, false, false, false] rfl rfl (any_of HT_.out (by kernel_rfl)) (fun _ _ _ h => h) (Or.inl ⟨by rfl, ?_⟩) ?_ ?_
        rotate_left
        · intro w'
          go_simp
          try with_reducible rfl
        rotate_left
        · simp only [Act.put, List.setIfInBounds_toArray, List.set_cons_zero, List.set_cons_succ]
          rfl
        refine pure_ (i := 8) (N := some 184) (v := ?_) (a' := ?_) #[true, true, true, true, false, false, true, true, true, false, false, true, true, false, false, false, false, false] rfl rfl (any_of HT_.out (by kernel_rfl)) (fun _ _ _ h => h) (Or.inl ⟨by rfl, ?_⟩) ?_ ?_
        rotate_left
        · intro w'
          go_simp
          try with_reducible rfl
        rotate_left
        · simp only [Act.put, List.setIfInBounds_toArray, List.set_cons_zero, List.set_cons_succ]
          rfl
        refine pure_ (i := 13) (N := some 189) (v := ?_) (a' := ?_) #[true, true, true, true, false, false, true, true, true, false, false, true, true, true, false, false, false, false] rfl rfl (any_of HT_.out (by kernel_rfl)) (fun _ _ _ h => h) (Or.inl ⟨by rfl, ?_⟩) ?_ ?_
        rotate_left
        · intro w'
          go_simp
          try with_reducible rfl
        rotate_left
        · simp only [Act.put, List.setIfInBounds_toArray, List.set_cons_zero, List.set_cons_succ]
          rfl
        refine pure_ (i := 4) (N := some 180) (v := ?_) (a' := ?_) #[true, true, true, true, true, false, true, true, true, false, false, true, true, true, false, false, false, false] rfl rfl (any_of HT_.out (by kernel_rfl)) (fun _ _ _ h => h) (Or.inl ⟨by rfl, ?_⟩) ?_ ?_
        rotate_left
        · intro w'
          go_simp
          try with_reducible rfl
        rotate_left
        · simp only [Act.put, List.setIfInBounds_toArray, List.set_cons_zero, List.set_cons_succ]
          rfl
        refine pure_ (i := 9) (N := some 185) (v := ?_) (a' := ?_) #[true, true, true, true, true, false, true, true, true, true, false, true, true, true, false, false, false, false] rfl rfl (any_of HT_.out (by kernel_rfl)) (fun _ _ _ h => h) (Or.inl ⟨by rfl, ?_⟩) ?_ ?_
        rotate_left
        · intro w'
          go_simp
          try with_reducible rfl
        rotate_left
        · simp only [Act.put, List.setIfInBounds_toArray, List.set_cons_zero, List.set_cons_succ]
          rfl
        refine pure_ (i := 14) (N := some 190) (v := ?_) (a' := ?_) #[true, true, true, true, true, false, true, true, true, true, false, true, true, true, true, false, false, false] rfl rfl (any_of HT_.out (by kernel_rfl)) (fun _ _ _ h => h) (Or.inl ⟨by rfl, ?_⟩) ?_ ?_
        rotate_left
        · intro w'
          go_simp
          try with_reducible rfl
        rotate_left
        · simp only [Act.put, List.setIfInBounds_toArray, List.set_cons_zero, List.set_cons_succ]
          rfl
        refine take_ (i := 5) (N := some 181) (v := ?_) (a' := ?_) #[true, true, true, true, true, true, true, true, true, true, false, true, true, true, true, false, false, false] rfl rfl (take_ofW HT_.out HW_.out (by kernel_rfl)) (fun _ _ _ h => h) (Or.inl ⟨by rfl, ?_⟩) hHeld ?_ ?_
        rotate_left
        · intro w' hS'
          have d0 := (hS'.cell (World.block_lt_of_cell? w _ C0.out)).trans C0.out
          go_simp
          try with_reducible rfl
        rotate_left
        · simp only [Act.put, List.setIfInBounds_toArray, List.set_cons_zero, List.set_cons_succ]
          rfl
        refine take_ (i := 10) (N := some 186) (v := ?_) (a' := ?_) #[true, true, true, true, true, true, true, true, true, true, true, true, true, true, true, false, false, false] rfl rfl (take_ofW HT_.out HW_.out (by kernel_rfl)) (fun _ _ _ h => h) (Or.inl ⟨by rfl, ?_⟩) hHeld ?_ ?_
        rotate_left
        · intro w' hS'
          have d0 := (hS'.cell (World.block_lt_of_cell? w _ C1.out)).trans C1.out
          go_simp
          try with_reducible rfl
        rotate_left
        · simp only [Act.put, List.setIfInBounds_toArray, List.set_cons_zero, List.set_cons_succ]
          rfl
        refine take_ (i := 15) (N := some 191) (v := ?_) (a' := ?_) #[true, true, true, true, true, true, true, true, true, true, true, true, true, true, true, true, false, false] rfl rfl (take_ofW HT_.out HW_.out (by kernel_rfl)) (fun _ _ _ h => h) (Or.inl ⟨by rfl, ?_⟩) hHeld ?_ ?_
        rotate_left
        · intro w' hS'
          have d0 := (hS'.cell (World.block_lt_of_cell? w _ C2.out)).trans C2.out
          go_simp
          try with_reducible rfl
        rotate_left
        · simp only [Act.put, List.setIfInBounds_toArray, List.set_cons_zero, List.set_cons_succ]
          rfl
        refine pure_ (i := 16) (N := some 192) (v := ?_) (a' := ?_) #[true, true, true, true, true, true, true, true, true, true, true, true, true, true, true, true, true, false] rfl rfl (any_of HT_.out (by kernel_rfl)) (fun _ _ _ h => h) (Or.inl ⟨by rfl, ?_⟩) ?_ ?_
        rotate_left
        · intro w'
          go_simp
          try with_reducible rfl
        rotate_left
        · simp only [Act.put, List.setIfInBounds_toArray, List.set_cons_zero, List.set_cons_succ]
          rfl
        refine one_ (i := 17) (N := some 193) #[true, true, true, true, true, true, true, true, true, true, true, true, true, true, true, true, true, true] rfl rfl (one_of HT_.out (by kernel_rfl)) (by decide) (fun K hK => ?_)
        refine goes_ Try.func30 (by kernel_rfl) rfl #[.pointer (some ⟨lz, 0, none⟩), .agg #[.int .i64 x.t, .string x.key, .int .i64 x.c, .int .i64 0]] (by rfl) rfl rfl (by simp [Act.eval]) ?_
        refine (HAP2.out _ (HZ8.out.below ((Below.refl _ _).drew)) (by exact HB8.out.2) hHeld).mono ?_
        rintro e w9 ⟨rfl, hl, hb, hn, hk⟩
        refine ⟨_, rfl, ?_⟩
        simp only [Act.put, List.setIfInBounds_toArray, List.set_cons_zero, List.set_cons_succ]
        have HQ := Aside0.mk (And.intro hl (And.intro hb (And.intro hn (Keeps.pre ((Below.refl _ _).drew) hk))))
        clear hl hn hk
        refine hK.out _ _ (hb) (fun hHeld => ?_)
        clear hK K
        refine done_ (done_of HT_.out (by kernel_rfl)) ?_
        clear hHeld HT_ HW_
        have HX9 := Aside0.mk (HX8.out.aside HZ8.out HNE.out.2.2.1 HNE.out.2.2.2.1 HQ.out.2.2.2)
        have HY9 := Aside0.mk (HY8.out.aside HZ8.out HNE.out.2.2.2.2.1 HNE.out.2.2.2.2.2 HQ.out.2.2.2)
        have HZ9 := Aside0.mk HQ.out.1
        have HB9 := Aside0.mk (And.intro HQ.out.2.1 HQ.out.2.2.1)
        clear HQ HX8 HY8 HZ8 HB8 HAP2
        have HS := Aside0.mk ((HeldB.one (w0 := w9) (x := (lz, .cells #[.pointer (some ⟨sz, 0, none⟩), .int .i64 kk] 54 (0, 0))) (HTOP.out _ _ _ _ _ HZ9.out) (Below.refl _ w9)).more (x := (lx, .cells #[.pointer (some ⟨sx, 0, none⟩), .int .i64 kk] 54 (0, 0))) (HTOP.out _ _ _ _ _ HX9.out))
        have HBA := Aside0.mk (BytesW HX9.out HLEN_X2.out)
        have HBB := Aside0.mk (BytesW HZ9.out HLEN_X3.out)
        have HNA := Aside0.mk (fun W (hb : Below (World.heap w9).size w9 W) => Now_fn W sx mx P0 _ _ (HX9.out.lim.led.below hb))
        have HNB := Aside0.mk (fun W (hb : Below (World.heap w9).size w9 W) => Now_fn W sz mz P0 _ _ (HZ9.out.lim.led.below hb))
        go_wp2_with fail
        refine start_ (n := 12) (S := HeldB w9 [(lx, .cells #[.pointer (some ⟨sx, 0, none⟩), .int .i64 kk] 54 (0, 0)), (lz, .cells #[.pointer (some ⟨sz, 0, none⟩), .int .i64 kk] 54 (0, 0))]) (ds := []) #[false, false, false, false, false, false, false, false, false, false, false, false] (by kernel_rfl) rfl rfl (HS.out.drew) (fun hHeld => ?_); refine with_tabW foll__tab20 foll__bits20 (fun HT_ HW_ => ?_)
        refine pure_ (i := 0) (N := some 194) (v := ?_) (a' := ?_) #[true, false, false, false, false, false, false, false, false, false, false, false] rfl rfl (any_of HT_.out (by kernel_rfl)) (fun _ _ _ h => h) (Or.inl ⟨by rfl, ?_⟩) ?_ ?_
        rotate_left
        · intro w'
          go_simp
          try with_reducible rfl
        rotate_left
        · simp only [Act.put, List.setIfInBounds_toArray, List.set_cons_zero, List.set_cons_succ]
          rfl
        refine pure_ (i := 5) (N := some 199) (v := ?_) (a' := ?_) #[true, false, false, false, false, true, false, false, false, false, false, false] rfl rfl (any_of HT_.out (by kernel_rfl)) (fun _ _ _ h => h) (Or.inl ⟨by rfl, ?_⟩) ?_ ?_
        rotate_left
        · intro w'
          go_simp
          try with_reducible rfl
        rotate_left
        · simp only [Act.put, List.setIfInBounds_toArray, List.set_cons_zero, List.set_cons_succ]
          rfl
        refine pure_ (i := 1) (N := some 195) (v := ?_) (a' := ?_) #[true, true, false, false, false, true, false, false, false, false, false, false] rfl rfl (any_of HT_.out (by kernel_rfl)) (fun _ _ _ h => h) (Or.inl ⟨by rfl, ?_⟩) ?_ ?_
        rotate_left
        · intro w'
          go_simp
          try with_reducible rfl
        rotate_left
        · simp only [Act.put, List.setIfInBounds_toArray, List.set_cons_zero, List.set_cons_succ]
          rfl
        refine pure_ (i := 6) (N := some 200) (v := ?_) (a' := ?_) #[true, true, false, false, false, true, true, false, false, false, false, false] rfl rfl (any_of HT_.out (by kernel_rfl)) (fun _ _ _ h => h) (Or.inl ⟨by rfl, ?_⟩) ?_ ?_
        rotate_left
        · intro w'
          go_simp
          try with_reducible rfl
        rotate_left
        · simp only [Act.put, List.setIfInBounds_toArray, List.set_cons_zero, List.set_cons_succ]
          rfl
        refine pure_ (i := 2) (N := some 196) (v := ?_) (a' := ?_) #[true, true, true, false, false, true, true, false, false, false, false, false] rfl rfl (any_of HT_.out (by kernel_rfl)) (fun _ _ _ h => h) (Or.inl ⟨by rfl, ?_⟩) ?_ ?_
        rotate_left
        · intro w'
          go_simp
          try with_reducible rfl
        rotate_left
        · simp only [Act.put, List.setIfInBounds_toArray, List.set_cons_zero, List.set_cons_succ]
          rfl
        refine pure_ (i := 7) (N := some 201) (v := ?_) (a' := ?_) #[true, true, true, false, false, true, true, true, false, false, false, false] rfl rfl (any_of HT_.out (by kernel_rfl)) (fun _ _ _ h => h) (Or.inl ⟨by rfl, ?_⟩) ?_ ?_
        rotate_left
        · intro w'
          go_simp
          try with_reducible rfl
        rotate_left
        · simp only [Act.put, List.setIfInBounds_toArray, List.set_cons_zero, List.set_cons_succ]
          rfl
        refine take_ (i := 3) (N := some 197) (v := ?_) (a' := ?_) #[true, true, true, true, false, true, true, true, false, false, false, false] rfl rfl (take_ofW HT_.out HW_.out (by kernel_rfl)) (fun _ _ _ h => h) (Or.inl ⟨by rfl, ?_⟩) hHeld ?_ ?_
        rotate_left
        · intro w' hS'
          have hx := hS'.1 (lx, .cells #[.pointer (some ⟨sx, 0, none⟩), .int .i64 kk] 54 (0, 0)) (by simp)
          have c0 : w'.cell? ⟨lx, 0, none⟩ = some (.pointer (some ⟨sx, 0, none⟩)) := by rw [cell_of_row w' _ 0 _ _ _ hx]; rfl
          go_simp
          try with_reducible rfl
        rotate_left
        · simp only [Act.put, List.setIfInBounds_toArray, List.set_cons_zero, List.set_cons_succ]
          rfl
        refine take_ (i := 8) (N := some 202) (v := ?_) (a' := ?_) #[true, true, true, true, false, true, true, true, true, false, false, false] rfl rfl (take_ofW HT_.out HW_.out (by kernel_rfl)) (fun _ _ _ h => h) (Or.inl ⟨by rfl, ?_⟩) hHeld ?_ ?_
        rotate_left
        · intro w' hS'
          have hx := hS'.1 (lz, .cells #[.pointer (some ⟨sz, 0, none⟩), .int .i64 kk] 54 (0, 0)) (by simp)
          have c0 : w'.cell? ⟨lz, 0, none⟩ = some (.pointer (some ⟨sz, 0, none⟩)) := by rw [cell_of_row w' _ 0 _ _ _ hx]; rfl
          go_simp
          try with_reducible rfl
        rotate_left
        · simp only [Act.put, List.setIfInBounds_toArray, List.set_cons_zero, List.set_cons_succ]
          rfl
        refine one_ (i := 4) (N := some 198) #[true, true, true, true, true, true, true, true, true, false, false, false] rfl rfl (one_of HT_.out (by kernel_rfl)) (by decide) (fun K hK => ?_)
        refine goes_ Try.func16 (by kernel_rfl) rfl #[.pointer (some ⟨sx, 0, none⟩)] (by rfl) rfl rfl (by simp [Act.eval]) ?_
        refine (HBA.out _ hHeld.2).mono ?_
        rintro e wA ⟨A1, q1, rfl, hr1, hb⟩
        refine ⟨_, rfl, ?_⟩
        simp only [Act.put, List.setIfInBounds_toArray, List.set_cons_zero, List.set_cons_succ]
        have HR1 := Aside0.mk hr1
        clear hr1
        refine hK.out _ _ (hHeld.step hb) (fun hHeld => ?_)
        clear hK K
        refine one_ (i := 9) (N := some 203) #[true, true, true, true, true, true, true, true, true, true, false, false] rfl rfl (one_of HT_.out (by kernel_rfl)) (by decide) (fun K hK => ?_)
        refine goes_ Try.func16 (by kernel_rfl) rfl #[.pointer (some ⟨sz, 0, none⟩)] (by rfl) rfl rfl (by simp [Act.eval]) ?_
        refine (HBB.out _ hHeld.2).mono ?_
        rintro e wB ⟨A2, q2, rfl, hr2, hb⟩
        refine ⟨_, rfl, ?_⟩
        simp only [Act.put, List.setIfInBounds_toArray, List.set_cons_zero, List.set_cons_succ]
        have HR2 := Aside0.mk hr2
        have HR1b := Aside0.mk (HR1.out.below hb)
        clear hr2 HR1
        refine hK.out _ _ (hHeld.step hb) (fun hHeld => ?_)
        clear hK K
        refine one_ (i := 10) (N := some 204) #[true, true, true, true, true, true, true, true, true, true, true, false] rfl rfl (one_of HT_.out (by kernel_rfl)) (by decide) (fun K hK => ?_)
        refine goes_ Try.func19 (by kernel_rfl) rfl #[.slice A1 (bytesR X2.rows).length q1, .slice A2 (bytesR X3.rows).length q2] (by rfl) rfl rfl (by simp [Act.eval]) ?_
        refine (SameI_fn _ A1 A2 q1 q2 _ _ HR1b.out HR2.out).mono ?_
        rintro e wC ⟨rfl, hb⟩
        refine ⟨_, rfl, ?_⟩
        simp only [Act.put, List.setIfInBounds_toArray, List.set_cons_zero, List.set_cons_succ]
        first | rw [HBT.out] | simp only [decide_true] | skip
        clear HR1b HR2
        refine hK.out _ _ (hHeld.step hb) (fun hHeld => ?_)
        clear hK K
        refine pure_ (i := 11) (N := some 17) (v := ?_) (a' := ?_) #[true, true, true, true, true, true, true, true, true, true, true, true] rfl rfl (any_of HT_.out (by kernel_rfl)) (fun _ _ _ h => h) (Or.inl ⟨by rfl, ?_⟩) ?_ ?_
        rotate_left
        · intro w'
          go_simp
          try with_reducible rfl
        rotate_left
        · simp only [Act.put, List.setIfInBounds_toArray, List.set_cons_zero, List.set_cons_succ]
          rfl
        refine done_ (done_of HT_.out (by kernel_rfl)) ?_
        have HS2 := Aside0.mk hHeld
        clear hHeld HT_ HW_
        have hf := HS2.out.2
        have HFX := Aside0.mk (HX9.out.below hf)
        have HFY := Aside0.mk (HY9.out.below hf)
        have HFB := Aside0.mk (And.intro (HB9.out.1.trans (hf.mono HB9.out.2)) (Nat.le_trans HB9.out.2 hf.size))
        clear hf HX9 HY9 HZ9 HB9 HS HS2 HBA HBB HNA HNB
        by_cases hv1 : v = 1
        · subst hv1
          go_wp2_with fail
          go_roundw
          case rel => exact ⟨j + 1, by omega, by omega, by go_num, X2, ⟨HFX.out, HFY.out, HFB.out.1, HFB.out.2, HL2.out, HSM2.out⟩⟩
          case measure => simp [intOf]; omega
        · rw [decide_eq_true hv1]
          have hv4 : (v != 1) = true := by simpa using hv1
          go_wp2_with fail
          go_roundw
          case rel => exact ⟨j + 1, by omega, by omega, by go_num, X2, ⟨HFX.out, HFY.out, HFB.out.1, HFB.out.2, HL2.out, HSM2.out⟩⟩
          case measure => simp [intOf]; omega
    · have hend : ¬ ((j : Int) < (l.length : Int)) ∨ (j : Int) < (l.length : Int) ∧ ¬ ((j : Int) < 300) := by omega
      clear hlt hj hj3 HR HSS hc
      rcases hend with hd1 | ⟨hd1, hd2⟩
      · go_wp2_with fail
        go_ret
        exact ⟨rfl, BS.out.2.2.1⟩
      · go_wp2_with fail
        go_ret
        exact ⟨rfl, BS.out.2.2.1⟩
end Go.Proofs.Ytnodnpenlplleaa.Own
