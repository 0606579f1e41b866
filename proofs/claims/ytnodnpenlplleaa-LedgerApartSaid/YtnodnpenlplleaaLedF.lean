/- Layer 9: does it owe anything; its numbers; a debt at a later tick; a new ledger; its keys. -/
import Derived.Test.YtnodnpenlplleaaLedE
namespace Go.Proofs.Ytnodnpenlplleaa.Own
open Go.RowKit Go.Proofs.YtnodnpenlplleaaW.PrintWords Go.Proofs.YtnodnpenlplleaaW.PrintLast Go.Proofs.YtnodnpenlplleaaW.PrintMore
open Go.Maps (Keyed)
set_option linter.unusedVariables false
set_option linter.unusedSimpArgs false

theorem nums_len {p : Pol} {d : Debt} (hp : p.ok) (h : d.ok p) : d.nums.length ≤ 32 := by
  have hpi := Pol.is hp
  cases d with
  | lev n => simp [Debt.nums]
  | win g l =>
    obtain ⟨hk, h1, h2, h3, h4⟩ := h
    simp only [Debt.nums]
    omega

set_option maxRecDepth 100000 in
set_option maxHeartbeats 1000000 in
theorem owes_fn (w : World) (p : Pol) (v : Value) (d : Debt) (hp : p.ok) (hok : d.ok p) (hv : DebtV w v d) :
    Calls Try.prog 41 #[v] w fun e w' => e = .returned (.bool d.owes) ∧ Below w.heap.size w w' := by
  have hl := nums_len hp hok
  cases d with
  | lev n =>
    cases hv
    have m1 := fun k v w => (lev_numbers k v w).1
    have m2 := fun k v w => (lev_numbers k v w).2
    unfold Debt.owes
    simp only [Debt.nums] at hl ⊢
    generalize hany : ([n].any fun n => n != 0) = r
    have HANY := Aside0.mk hany
    clear hany hok hp
    go_enter Try.func41, Try.ntmps41
    go_wp2_with fail
    refine (levNums_fn n _).mono ?_
    rintro e w1 ⟨v, rfl, ⟨A, c, rfl, hc, hC, _⟩, hb⟩
    have HC := Aside0.mk hC
    have HB := Aside0.mk hb
    clear hC hb m1 m2
    go_wp2_with fail
    refine (ContainsFunc_fn _ _ some_looks A c [n] _ HC.out hl).mono ?_
    rintro e w2 ⟨rfl, hw⟩
    rw [HANY.out, hw]
    clear hw w2
    go_wp2_with fail
    go_ret
    exact ⟨rfl, HB.out⟩
  | win g l =>
    obtain ⟨s, rfl, A, c, rfl, hc, hC, _⟩ := hv
    have m1 := fun k v w => (win_numbers k v w).1
    have m2 := fun k v w => (win_numbers k v w).2
    unfold Debt.owes
    simp only [Debt.nums] at hl ⊢
    generalize hany : (l.any fun n => n != 0) = r
    have HANY := Aside0.mk hany
    have HC0 := Aside0.mk hC
    clear hany hok hp hC
    go_enter Try.func41, Try.ntmps41
    go_wp2_with fail
    refine (winNums_fn g _ _).mono ?_
    rintro e w1 ⟨rfl, hb⟩
    have HC := Aside0.mk (Kd.C_below HC0.out hb)
    have HB := Aside0.mk hb
    clear HC0 hb m1 m2
    go_wp2_with fail
    refine (ContainsFunc_fn _ _ some_looks A c l _ HC.out hl).mono ?_
    rintro e w2 ⟨rfl, hw⟩
    rw [HANY.out, hw]
    clear hw w2
    go_wp2_with fail
    go_ret
    exact ⟨rfl, HB.out⟩
end Go.Proofs.Ytnodnpenlplleaa.Own
