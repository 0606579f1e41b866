/- Layer 8, the window, where the policy may be: a list's copy. -/
import Derived.Test.YtnodnpenlplleaaWinB
import Derived.Lib.SliceRun
import Derived.StillTailTactics
namespace Go.Proofs.Ytnodnpenlplleaa.Own
open Go.RowKit Go.Proofs.YtnodnpenlplleaaW.PrintWords Go.Proofs.YtnodnpenlplleaaW.PrintLast Go.Proofs.YtnodnpenlplleaaW.PrintMore
set_option linter.unusedVariables false
set_option linter.unusedSimpArgs false

set_option maxRecDepth 100000 in
set_option maxHeartbeats 1000000 in
theorem Clone_fn (A : Option Addr) (c : Nat) (l : List Int) (w : World) (hr : Kd.C (Kd.int .i64) w A l.length l) (h0 : 0 < l.length) (hl : l.length ≤ 32) :
    Calls Try.prog 147 #[.slice A l.length c] w fun e w' => ∃ v, e = .returned v ∧ Kd.R (Kd.int .i64) 3 w' w.heap.size (fun _ => True) v l ∧ Below w.heap.size w w' := by
  obtain ⟨ad, eA, _⟩ := hr.2.2 h0
  subst eA
  have hb : Below w.heap.size w (w.alloc (.cells #[] 3 (0, 0))) := (Below.refl _ w).alloc (Nat.le_refl _) _
  have HR := Aside0.mk (Kd.C_below hr hb)
  have HO := Aside0.mk (Kd.R_of_own (enc := Value.int .i64) (h1 := fun _ => rfl) (ok := fun _ => True) (own_lit_of (enc := Value.int .i64) w w.heap.size 3 ([] : List Int) (Nat.le_refl _) (by decide)) (fun _ _ => trivial))
  have HB := Aside0.mk hb
  clear hb hr
  have q := fun (w : World) => Lib.run_eql_slice_nil (P := Try.prog) w 61 3 (some ad) l.length c 0 0 Try.underlying61
  go_enter Try.func147, Try.ntmps147
  go_wp2_with (first | ((with_reducible refine gate_builtin (b := .append) (xs := #[.tmp 5, .tmp 6]) rfl ?_); at_builtin; refine Kd.R_append_row (Value.int .i64) (0 : Int) (w0 := w) w.heap.size rfl (.tmp 5) (.tmp 6) 61 3 (.int .i64 0) 8 rfl Try.underlying61 infoInt rfl (by decide) (.slice (some ⟨w.heap.size, 0, none⟩) 0 0) [] l (some ad) l.length c (fun _ => True) rfl rfl (fun _ _ => trivial) HO.out HR.out HB.out (by simp) (by simp; omega) ?_; intro v1 w1 ho hb hg hat; have HO1 := Aside0.mk ho; have HB1 := Aside0.mk hb; clear ho hb hg hat) | fail)
  go_ret
  exact ⟨_, rfl, HO1.out, HB1.out⟩

end Go.Proofs.Ytnodnpenlplleaa.Own
