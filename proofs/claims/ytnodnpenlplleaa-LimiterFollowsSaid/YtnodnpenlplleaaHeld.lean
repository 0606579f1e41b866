/- A region that draws its order, beside callees that lay new blocks: what stands in given blocks stands. -/
import Derived.Test.YtnodnpenlplleaaBlk
import Derived.Test.YtnodnpenlplleaaWLast
import Derived.Test.YtnodnpenlplleaaWTab
import Derived.Test.YtnodnpenlplleaaWMore
import Derived.Deep.MidRow
namespace Go.Proofs.Ytnodnpenlplleaa.Own
open Go.RowKit Go.Proofs.YtnodnpenlplleaaW.PrintWords Go.Proofs.YtnodnpenlplleaaW.PrintLast Go.Proofs.YtnodnpenlplleaaW.PrintMore
set_option linter.unusedVariables false
set_option linter.unusedSimpArgs false

/-- These blocks stand so in w', and nothing of w0 has turned. -/
def HeldB (w0 : World) (L : List (Nat × Obj)) (w' : World) : Prop := (∀ x ∈ L, w'.heap[x.1]? = some x.2) ∧ Below w0.heap.size w0 w'
theorem HeldB.step {w0 W W' : World} {L : List (Nat × Obj)} (h : HeldB w0 L W) (hb : Below W.heap.size W W') : HeldB w0 L W' :=
  ⟨fun x hx => (hb.block _ (Array.getElem?_eq_some_iff.1 (h.1 x hx)).1).trans (h.1 x hx), h.2.trans (hb.mono h.2.size)⟩
theorem HeldB.drew {w0 W : World} {L : List (Nat × Obj)} (h : HeldB w0 L W) : HeldB w0 L W.drew := ⟨h.1, h.2.drew⟩
theorem HeldB.more {w0 W : World} {L : List (Nat × Obj)} (h : HeldB w0 L W) {x : Nat × Obj} (hx : W.heap[x.1]? = some x.2) : HeldB w0 (x :: L) W :=
  ⟨fun y hy => by
    rcases List.mem_cons.1 hy with rfl | hy
    · exact hx
    · exact h.1 y hy, h.2⟩
theorem HeldB.one {w0 W : World} {x : Nat × Obj} (hx : W.heap[x.1]? = some x.2) (hb : Below w0.heap.size w0 W) : HeldB w0 [x] W := ⟨fun y hy => by
    rw [List.mem_singleton.1 hy]; exact hx, hb⟩

theorem yields_blk {P : Program} {ops : Array Oper} {S : World → Prop} {op : Oper} {a : Act} (hw : Region.wanted op (yielded ops a.tmps) = true) (ty : TypeId) (x : Operand) (ho : op.op = .load ty x)
    (g : Nat) {C : Array Value} {t : TypeId} {fr : Nat × Nat} (hx : a.eval x = .pointer (some ⟨g, 0, none⟩)) (hS : ∀ w, S w → w.heap[g]? = some (.cells C t fr)) {d : TypeDesc}
    (hu : P.underlying ty = some d) (hd : d.isRow = true) (hi : (P.info? ty).map (·.size) = some C.size) : YieldsIf P ops S op (.agg C) a := by
  have := yieldsIf_load_mid (P := P) (ops := ops) (S := S) hw ty x ho g 0 hx C.toList d (fun w hw' => by
    have hr := World.rangeAt_of_block (hS w hw') 0 C.size
    rwa [Nat.zero_add, Array.extract_size] at hr) hu hd (by simpa using hi)
  simpa using this

theorem results_cell {P : Program} {fn : Func} {p : Tmp} {ty : TypeId} (h : fn.results = #[.cell p ty]) (tmps : Array Value) (w : World) (g : Nat) (t : TypeId) (cs : Array Value) (fr : Nat × Nat) (d : TypeDesc)
    (hp : tmps.getD p undef = .pointer (some ⟨g, 0, none⟩)) (hg : w.heap[g]? = some (.cells cs t fr))
    (hu : P.underlying ty = some d) (hd : (match d with | .struct _ | .array _ _ => true | _ => false) = true) (hi : (P.info? ty).map (·.size) = some cs.size) :
    (results fn tmps).run P w = .ok (.agg cs) w := by
  have hp' : tmps[p]?.getD undef = .pointer (some ⟨g, 0, none⟩) := by simpa using hp
  simp [results, h, hp', asAddr, run_loadVar_row w g t ty cs fr d hg hu hd hi]

/-- A block of another type has turned: a row stands. -/
theorem R_only {α : Type} {d : Kd α} {e : Nat} {W W' : World} {b : Nat} {ok : Nat → Prop} {v : Value} {xs : List α} (h : d.R e W b ok v xs) {g t : Nat} {C : Array Value} (hb : W.heap[g]? = some (.cells C t (0, 0)))
    (ht : ∀ q, q ∈ e :: d.E → q ≠ t) (ho : OnlyBlk g W W') : d.R e W' b ok v xs :=
  Kd.R_mono (Kd.R_move (Kd.R_types h hb ht) (fun k hk => ho.other k hk.2)) (fun _ hk => hk.1)
end Go.Proofs.Ytnodnpenlplleaa.Own
