/- Layer 9: which function a method of what a key owes is. -/
import Derived.Test.YtnodnpenlplleaaLedC
namespace Go.Proofs.Ytnodnpenlplleaa.Own
open Go.RowKit Go.Proofs.YtnodnpenlplleaaW.PrintWords Go.Proofs.YtnodnpenlplleaaW.PrintLast Go.Proofs.YtnodnpenlplleaaW.PrintMore
set_option linter.unusedVariables false
set_option linter.unusedSimpArgs false

theorem meth_run {P : Program} {t : TypeId} {d : TypeDesc} {name : String} {f : FuncId} (hm : (P.info? t).map (fun i => (i.methods.find? (·.name == name)).map (fun m => (m.path.toList, m.func))) = some (some ([], some (f, false))))
    (hu : P.underlying t = some d) (hd : ∀ e, d ≠ .pointer e) (k : Nat) (v : Value) (w : World) :
    (method (k + 1) t v name).run P w = .ok (f, v) w ∧ (nilAhead (k + 1) t v name).run P w = .ok (some false) w := by
  cases hi : P.info? t with
  | none => rw [hi] at hm; cases hm
  | some i =>
    rw [hi] at hm
    simp only [Option.map_some, Option.some.injEq] at hm
    obtain ⟨m, hf, hmm⟩ := Option.map_eq_some_iff.1 hm
    simp only [Prod.mk.injEq] at hmm
    obtain ⟨h1, h2⟩ := hmm
    have e1 : follow [] t (.val v) = pure (t, .val v) := by simp [follow]
    have e2 : followBlind [] t (some v) = pure (.ok (t, some v)) := by simp [followBlind]
    have hun := run_underlying hu w
    constructor
    · unfold method
      simp only [Sem.run_bind, typeInfo, Sem.run, hi, hf, Result.andThen, h1, h2, e1, receiverAt, Sem.run_pure]
      cases d <;> simp_all [Sem.run_bind, Place.get]
    · unfold nilAhead
      simp only [Sem.run_bind, typeInfo, Sem.run, hi, hf, Result.andThen, h1, h2, e2, Sem.run_pure]
      cases d <;> simp_all [Sem.run_bind]
theorem lev_later (k : Nat) (v : Value) (w : World) : (method (k + 1) 138 v "reeve/ledger.later").run Try.prog w = .ok (125, v) w ∧ (nilAhead (k + 1) 138 v "reeve/ledger.later").run Try.prog w = .ok (some false) w :=
  meth_run (by kernel_rfl) Try.underlying138 (fun e h => by cases h) k v w
theorem lev_may (k : Nat) (v : Value) (w : World) : (method (k + 1) 138 v "reeve/ledger.may").run Try.prog w = .ok (126, v) w ∧ (nilAhead (k + 1) 138 v "reeve/ledger.may").run Try.prog w = .ok (some false) w :=
  meth_run (by kernel_rfl) Try.underlying138 (fun e h => by cases h) k v w
theorem lev_take (k : Nat) (v : Value) (w : World) : (method (k + 1) 138 v "reeve/ledger.take").run Try.prog w = .ok (128, v) w ∧ (nilAhead (k + 1) 138 v "reeve/ledger.take").run Try.prog w = .ok (some false) w :=
  meth_run (by kernel_rfl) Try.underlying138 (fun e h => by cases h) k v w
theorem lev_numbers (k : Nat) (v : Value) (w : World) : (method (k + 1) 138 v "reeve/ledger.numbers").run Try.prog w = .ok (127, v) w ∧ (nilAhead (k + 1) 138 v "reeve/ledger.numbers").run Try.prog w = .ok (some false) w :=
  meth_run (by kernel_rfl) Try.underlying138 (fun e h => by cases h) k v w
theorem win_later (k : Nat) (v : Value) (w : World) : (method (k + 1) 142 v "reeve/ledger.later").run Try.prog w = .ok (136, v) w ∧ (nilAhead (k + 1) 142 v "reeve/ledger.later").run Try.prog w = .ok (some false) w :=
  meth_run (by kernel_rfl) Try.underlying142 (fun e h => by cases h) k v w
theorem win_may (k : Nat) (v : Value) (w : World) : (method (k + 1) 142 v "reeve/ledger.may").run Try.prog w = .ok (137, v) w ∧ (nilAhead (k + 1) 142 v "reeve/ledger.may").run Try.prog w = .ok (some false) w :=
  meth_run (by kernel_rfl) Try.underlying142 (fun e h => by cases h) k v w
theorem win_take (k : Nat) (v : Value) (w : World) : (method (k + 1) 142 v "reeve/ledger.take").run Try.prog w = .ok (139, v) w ∧ (nilAhead (k + 1) 142 v "reeve/ledger.take").run Try.prog w = .ok (some false) w :=
  meth_run (by kernel_rfl) Try.underlying142 (fun e h => by cases h) k v w
theorem win_numbers (k : Nat) (v : Value) (w : World) : (method (k + 1) 142 v "reeve/ledger.numbers").run Try.prog w = .ok (138, v) w ∧ (nilAhead (k + 1) 142 v "reeve/ledger.numbers").run Try.prog w = .ok (some false) w :=
  meth_run (by kernel_rfl) Try.underlying142 (fun e h => by cases h) k v w
end Go.Proofs.Ytnodnpenlplleaa.Own
