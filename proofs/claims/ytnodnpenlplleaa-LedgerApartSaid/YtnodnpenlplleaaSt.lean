/- Where a ledger or a limiter stands; small lemmas that both chapters use. -/
import Derived.Test.YtnodnpenlplleaaLedJ
namespace Go.Proofs.Ytnodnpenlplleaa.Own
open Go.RowKit Go.Proofs.YtnodnpenlplleaaW.PrintWords Go.Proofs.YtnodnpenlplleaaW.PrintLast Go.Proofs.YtnodnpenlplleaaW.PrintMore
set_option linter.unusedVariables false
set_option linter.unusedSimpArgs false

/-- Where a limiter stands. -/
structure LSt where
  tick : Int
  rows : Rws
def kA : ByteArray := ⟨#[97]⟩
def kB : ByteArray := ⟨#[98]⟩
def kC : ByteArray := ⟨#[99]⟩
theorem nodup_sub {α : Type} [DecidableEq α] : ∀ {a b : List α}, a.Nodup → (∀ x ∈ a, x ∈ b) → a.length ≤ b.length
  | [], _, _, _ => Nat.zero_le _
  | x :: a, b, h, hs => by
    rw [List.nodup_cons] at h
    have hx : x ∈ b := hs x (by simp)
    have h1 : a.length ≤ (b.erase x).length := nodup_sub h.2 (fun y hy => by
      have hne : y ≠ x := fun e => h.1 (e ▸ hy)
      exact (List.mem_erase_of_ne hne).2 (hs y (by simp [hy])))
    rw [List.length_erase_of_mem hx] at h1
    have h2 : 0 < b.length := List.length_pos_of_mem hx
    simp only [List.length_cons]
    omega
theorem sorted_nodup {l : List ByteArray} (h : l.Pairwise klt) : l.Nodup := h.imp (fun {a b} hab e => by subst e; exact klt_irrefl _ hab)

end Go.Proofs.Ytnodnpenlplleaa.Own
