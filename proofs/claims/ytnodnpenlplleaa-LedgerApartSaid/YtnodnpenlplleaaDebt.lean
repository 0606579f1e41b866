/- Layer 9: what a key owes, and what may be asked of it through the interface. -/
import Derived.Test.YtnodnpenlplleaaWinF
import Derived.Test.YtnodnpenlplleaaBuckM
namespace Go.Proofs.Ytnodnpenlplleaa.Own
open Go.RowKit Go.Proofs.YtnodnpenlplleaaW.PrintWords Go.Proofs.YtnodnpenlplleaaW.PrintLast Go.Proofs.YtnodnpenlplleaaW.PrintMore
set_option linter.unusedVariables false
set_option linter.unusedSimpArgs false

/-- What a key owes. -/
inductive Debt
  | lev (n : Int)
  | win (g : Int) (l : List Int)
deriving DecidableEq
def Debt.ok (p : Pol) : Debt → Prop
  | .lev n => p.kind = 1 ∧ 0 ≤ n ∧ n ≤ 4611686018427387903
  | .win g l => p.kind = 2 ∧ okW p g l
def Debt.later (p : Pol) (a b : Int) : Debt → Debt
  | .lev n => .lev (mx (n - (b - a) * p.num) 0)
  | .win g l => .win (moveX p.width p.count g l b).1 (moveX p.width p.count g l b).2
def Debt.may (p : Pol) (cost : Int) : Debt → Bool
  | .lev n => decide ((1 ≤ cost ∧ cost ≤ 1048576) ∧ n + cost * p.den ≤ p.cap * p.den)
  | .win _ l => decide ((1 ≤ cost ∧ cost ≤ 1048576) ∧ sumI l + cost ≤ p.cap)
def Debt.take (p : Pol) (cost : Int) : Debt → Debt
  | .lev n => .lev (mn (n + cost * p.den) 4611686018427387903)
  | .win g l => .win g (takeL l cost)
def Debt.nums : Debt → List Int
  | .lev n => [n]
  | .win _ l => l
def Debt.owes (d : Debt) : Bool := d.nums.any (fun n => n != 0)

/-- A list of whole numbers in rows of their own type. -/
def Nums (w : World) (v : Value) (l : List Int) : Prop := ∃ A c, v = .slice A l.length c ∧ l.length ≤ c ∧ Kd.C (Kd.int .i64) w A l.length l ∧ ∀ ad, A = some ad → ∃ cur, w.heap[ad.block]? = some (.cells cur 3 (0, 0))
theorem Nums.below {w w' : World} {v : Value} {l : List Int} (h : Nums w v l) (hb : Below w.heap.size w w') : Nums w' v l := by
  obtain ⟨A, c, e, h1, h2, h3⟩ := h
  refine ⟨A, c, e, h1, Kd.C_below h2 hb, fun ad eA => ?_⟩
  obtain ⟨cur, hcur⟩ := h3 ad eA
  exact ⟨cur, (hb.block _ (Array.getElem?_eq_some_iff.1 hcur).1).trans hcur⟩
theorem nums_of_R {w : World} {b : Nat} {ok : Nat → Prop} {v : Value} {l : List Int} (h : Kd.R (Kd.int .i64) 3 w b ok v l) : Nums w v l := by
  obtain ⟨A, c, e, hc, hC⟩ := Kd.R_reads h
  refine ⟨A, c, e, hc, hC, fun ad eA => ?_⟩
  obtain ⟨inner, ho⟩ := Kd.R_own h
  obtain ⟨cells, hcells⟩ := own_typed ho ad.block (by rw [e, eA]; rfl)
  exact ⟨cells, hcells⟩

/-- A value that holds what a key owes. -/
def DebtV (w : World) (v : Value) : Debt → Prop
  | .lev n => v = .iface 138 (.int .i64 n)
  | .win g l => ∃ s, v = .iface 142 (.agg #[.int .i64 g, s]) ∧ Nums w s l

end Go.Proofs.Ytnodnpenlplleaa.Own
