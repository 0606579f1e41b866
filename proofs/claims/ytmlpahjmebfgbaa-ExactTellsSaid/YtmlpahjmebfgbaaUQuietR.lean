/- Lemmas for a claim of this seat: texts of this session and of the kit's print, without what this claim does not use. -/
import Derived.Test.YtmlpahjmebfgbaaUIter
import Derived.Sort.QuietIn
namespace Go
section
variable {F : Fence} {n l : Nat} {P : Program} {ops : Array Oper} {md : Region.Mode} {Q : Exit → Act → World → Prop}

def Oper.noDefer (o : Oper) : Bool := match o.op with | .defer _ => false | _ => true
theorem Oper.noDefer_spec {o : Oper} (h : o.noDefer = true) : ∀ c, o.op ≠ .defer c := by
  intro c e; simp [Oper.noDefer, e] at h

theorem Oper.wpIn_round {o : Oper} (hd : o.noDefer = true) {a : Act} {w : World} {K : Act → World → Prop} (h : o.wpIn F n P a w K Q) : o.wpIn (F.inRound l) n P a w K Q := by
  unfold Oper.wpIn at *
  rw [Oper.semAt_eq _ _ _ (Oper.noDefer_spec hd)] at *
  refine ⟨h.1, ?_⟩
  have h := h.2
  generalize (execOp a.eval o).run P w = r at *
  cases r with
  | ok x w' => cases x <;> exact h
  | halt x w' => cases x <;> exact h

theorem wpOpIn_round (hd : ops.all Oper.noDefer = true) {i : Nat} {a : Act} {w : World} {K : Act → World → Prop} (h : wpOpIn F n P ops Q i K a w) : wpOpIn (F.inRound l) n P ops Q i K a w := by
  unfold wpOpIn at *
  cases ho : ops[i]? with
  | none => simpa [ho] using h
  | some o =>
    simp only [ho] at h ⊢
    have hdo : o.noDefer = true := by
      have := Array.all_eq_true.1 hd i (Array.getElem?_eq_some_iff.1 ho).1
      rwa [(Array.getElem?_eq_some_iff.1 ho).2] at this
    split
    · rename_i hw; simp only [hw, if_true] at h; exact Oper.wpIn_round hdo h
    · rename_i hw; simp only [hw] at h; exact h

theorem wpAnyIn_round (hd : ops.all Oper.noDefer = true) : ∀ (fuel : Nat) (listed : Array Bool) (a : Act) (w : World), wpAnyIn F n P md ops Q fuel listed a w → wpAnyIn (F.inRound l) n P md ops Q fuel listed a w
  | 0, _, _, _, h => h
  | fuel + 1, _, _, _, h => ⟨h.1, fun i hi => wpOpIn_round hd (wpOpIn_mono (fun a' w' h' => wpAnyIn_round hd fuel _ a' w' h') (h.2 i hi))⟩

theorem wpIn_region_quiet_round {id : Nat} {a : Act} {w : World} {L : List Oper} (hro : F.round = none) (hd : L.all Oper.noDefer = true) (hm : P.follows .mixedOrders = true) (hB : Region.lexB .any L.toArray = true)
    (h : wpQuietIn F n P L.toArray (fun w' => ∃ n, w' = w.drewN n) (fun a' => ∀ w', (∃ n, w' = w.drewN n) → Q .normal a' w') L a) : (Code.region id L.toArray true).wpIn (F.inRound l) n P Q a w := by
  simp only [Region.lexB, Bool.and_eq_true] at hB
  refine wpIn_region_any hm (wpAnyIn_round (by simpa using hd) _ _ _ _ (wpAnyIn_of_quiet (C := fun w' => ∃ n, w' = w.drewN n) (Q := fun a' => ∀ w', (∃ n, w' = w.drewN n) → Q .normal a' w') hro (fun _ w' hw' h => h w' hw') _ _ _ _ ⟨1, rfl⟩ ?_))
  have := wpAnyQIn_lex (F := F) (n := n) (C := fun w' => ∃ n, w' = w.drewN n) (md := .any) hB.1 L 0 (Array.replicate L.length false) a (by simp) (by simpa using hB.2) h
  simpa using this
end
end Go
