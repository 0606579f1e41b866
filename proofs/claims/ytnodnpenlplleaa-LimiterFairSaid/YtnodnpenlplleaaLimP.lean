/- Layers 9, 10: the plain laws of what is owed: time in two parts. -/
import Derived.Test.YtnodnpenlplleaaLimC
namespace Go.Proofs.Ytnodnpenlplleaa.Own
open Go.RowKit Go.Proofs.YtnodnpenlplleaaW.PrintWords Go.Proofs.YtnodnpenlplleaaW.PrintLast Go.Proofs.YtnodnpenlplleaaW.PrintMore
set_option linter.unusedVariables false
set_option linter.unusedSimpArgs false

theorem moveL_eq {k a b : Int} {l : List Int} (hl : (l.length : Int) = k) (hab : a ≤ b) : moveL k a b l = (l ++ List.replicate (b - a).toNat 0).drop (b - a).toNat := by
  unfold moveL
  split
  · rw [List.drop_append, show (b - a).toNat - l.length = 0 from by omega, List.drop_zero]
  · rw [List.drop_append, List.drop_eq_nil_of_le (by omega), List.nil_append, List.drop_replicate]
    congr 1
    omega
theorem moveL_length {k a b : Int} {l : List Int} (hl : (l.length : Int) = k) (hab : a ≤ b) : ((moveL k a b l).length : Int) = k := by
  rw [moveL_eq hl hab, List.length_drop, List.length_append, List.length_replicate]
  omega
theorem moveL_two {k a b c : Int} {l : List Int} (hl : (l.length : Int) = k) (hab : a ≤ b) (hbc : b ≤ c) : moveL k b c (moveL k a b l) = moveL k a c l := by
  rw [moveL_eq (moveL_length hl hab) hbc, moveL_eq hl hab, moveL_eq hl (Int.le_trans hab hbc)]
  have e : (c - a).toNat = (b - a).toNat + (c - b).toNat := by omega
  rw [e, ← List.drop_append_of_le_length (by rw [List.length_append, List.length_replicate]; omega), List.drop_drop, List.append_assoc, List.replicate_append_replicate]
theorem moveX_two {w k g b c : Int} {l : List Int} (hw : 1 ≤ w) (hl : (l.length : Int) = k) (hbc : b ≤ c) : moveX w k (moveX w k g l b).1 (moveX w k g l b).2 c = moveX w k g l c := by
  have hd : b / w ≤ c / w := Int.ediv_le_ediv (by omega) hbc
  unfold moveX
  by_cases h1 : b / w ≤ g
  · simp only [if_pos h1]
  · simp only [if_neg h1]
    have h2 : ¬ c / w ≤ g := by omega
    rw [if_neg h2]
    by_cases h3 : c / w ≤ b / w
    · rw [if_pos h3]
      have e : b / w = c / w := by omega
      rw [e]
    · rw [if_neg h3, moveL_two hl (by omega) (by omega)]

theorem later_later {p : Pol} (hp : p.ok) {d : Debt} (hd : d.ok p) {a b c : Int} (hab : a ≤ b) (hbc : b ≤ c) : (d.later p a b).later p b c = d.later p a c := by
  have hpi := Pol.is hp
  cases d with
  | lev n =>
    obtain ⟨hk, h0, h1⟩ := hd
    have hn : 0 ≤ p.num := by omega
    have e : (c - a) * p.num = (b - a) * p.num + (c - b) * p.num := by rw [← Int.add_mul]; congr 1; omega
    have m1 : 0 ≤ (b - a) * p.num := Int.mul_nonneg (by omega) hn
    have m2 : 0 ≤ (c - b) * p.num := Int.mul_nonneg (by omega) hn
    simp only [Debt.later, e]
    congr 1
    unfold mx
    split <;> split <;> split <;> omega
  | win g l =>
    obtain ⟨hk, h1, h2, h3, h4⟩ := hd
    have h := moveX_two (w := p.width) (k := p.count) (g := g) (l := l) (b := b) (c := c) (by omega) h3 hbc
    simp only [Debt.later]
    rw [h]
theorem owes_iff (d : Debt) : d.owes = true ↔ ∃ n ∈ d.nums, n ≠ 0 := by
  unfold Debt.owes
  rw [List.any_eq_true]
  simp only [bne_iff_ne, ne_eq]
theorem moveX_mem {w k g b : Int} {l : List Int} {x : Int} (h : x ∈ (moveX w k g l b).2) (hx : x ≠ 0) : x ∈ l := by
  unfold moveX at h
  split at h
  · exact h
  · unfold moveL at h
    simp only at h
    split at h
    · rcases List.mem_append.1 h with h | h
      · exact List.mem_of_mem_drop h
      · exact absurd (List.eq_of_mem_replicate h) hx
    · exact absurd (List.eq_of_mem_replicate h) hx
theorem owes_later {p : Pol} (hp : p.ok) {d : Debt} (hd : d.ok p) {a b : Int} (hab : a ≤ b) (h : (d.later p a b).owes = true) : d.owes = true := by
  have hpi := Pol.is hp
  obtain ⟨n, hn, h0⟩ := (owes_iff _).1 h
  refine (owes_iff _).2 ?_
  cases d with
  | lev m =>
    obtain ⟨hk, h1, h2⟩ := hd
    have m1 : 0 ≤ (b - a) * p.num := Int.mul_nonneg (by omega) (by omega)
    simp only [Debt.later, Debt.nums, List.mem_singleton] at hn ⊢
    refine ⟨m, rfl, fun e => h0 ?_⟩
    subst e
    rw [hn]
    unfold mx
    split <;> omega
  | win g l => exact ⟨n, moveX_mem hn h0, h0⟩
theorem lateD_bind {p : Pol} (hp : p.ok) {d : Debt} (hd : d.ok p) {a b c : Int} (ha : 0 ≤ a) (hab : a ≤ b) (hbc : b ≤ c) (hb : b ≤ 1099511627776) : (lateD p a b d).bind (lateD p b c) = lateD p a c d := by
  unfold lateD
  by_cases h : (d.later p a b).owes = true
  · rw [if_pos h, Option.bind_some, later_later hp hd hab hbc]
  · rw [if_neg h, Option.bind_none]
    have h2 : ¬ (d.later p a c).owes = true := fun h2 => h (by
      rw [← later_later hp hd hab hbc] at h2
      exact owes_later hp (later_ok hp hd ha hab hb) hbc h2)
    rw [if_neg h2]
theorem move_move {p : Pol} (hp : p.ok) {a b c : Int} (ha : 0 ≤ a) (hab : a ≤ b) (hbc : b ≤ c) (hb : b ≤ 1099511627776) : ∀ {rows : Rws}, (∀ r ∈ rows, r.2.ok p) → moveR p b c (moveR p a b rows) = moveR p a c rows
  | [], _ => rfl
  | r :: rs, h => by
    have ih := move_move hp ha hab hbc hb (rows := rs) (fun x hx => h x (by simp [hx]))
    have hd := lateD_bind hp (h r (by simp)) ha hab hbc hb
    rw [moveR.eq_2 p a c]
    rw [← hd]
    cases e : lateD p a b r.2 with
    | none =>
      simp only [moveR, e, Option.bind_none]
      exact ih
    | some d =>
      simp only [moveR, e, Option.bind_some]
      rw [ih]
/-- Who may not take some may not take more. -/
theorem may_mono {p : Pol} (hp : p.ok) {d : Debt} (hd : d.ok p) {c c' : Int} (h0 : 1 ≤ c ∧ c ≤ 1048576) (hc : c ≤ c') (h : d.may p c = false) : d.may p c' = false := by
  have hpi := Pol.is hp
  cases d with
  | lev n =>
    simp only [Debt.may, decide_eq_false_iff_not] at h ⊢
    intro h2
    refine h ⟨h0, ?_⟩
    have := h2.2
    have hk := hd.1
    have hdn : 0 ≤ p.den := by omega
    have := Int.mul_le_mul_of_nonneg_right hc hdn
    omega
  | win g l =>
    simp only [Debt.may, decide_eq_false_iff_not] at h ⊢
    intro h2
    exact h ⟨h0, by omega⟩

/-- A limiter that was asked one after another. -/
def runL (p : Pol) : LSt → List (Int × ByteArray × Int) → LSt
  | s, [] => s
  | s, r :: rs => runL p (askS p s r.1 r.2.1 r.2.2) rs
theorem runL_append (p : Pol) (s : LSt) (a b : List (Int × ByteArray × Int)) : runL p s (a ++ b) = runL p (runL p s a) b := by
  induction a generalizing s with
  | nil => rfl
  | cons r a ih => exact ih _
theorem runL_length (p : Pol) (s : LSt) (a : List (Int × ByteArray × Int)) : (runL p s a).rows.length ≤ s.rows.length + a.length := by
  induction a generalizing s with
  | nil => simp [runL]
  | cons r a ih =>
    have h1 := ih (askS p s r.1 r.2.1 r.2.2)
    have h2 := askS_length (p := p) (s := s) r.1 r.2.1 r.2.2
    simp only [runL, List.length_cons]
    omega
theorem askV_three (p : Pol) (s : LSt) (t : Int) (key : ByteArray) (c : Int) : askV p s t key c = 0 ∨ askV p s t key c = 1 ∨ askV p s t key c = 2 := by
  unfold askV
  split
  · split
    · exact .inr (.inr rfl)
    · split
      · exact .inr (.inl rfl)
      · exact .inl rfl
  · exact .inl rfl
/-- THE LAW OF LimiterMore: who is denied is not allowed more. -/
theorem more_law {p : Pol} {s : LSt} (hs : OkR p s.tick s.rows) (key : ByteArray) (c c' : Int)
    (he : askE s s.tick key c = 0) (he' : askE (askS p s s.tick key c) (askS p s s.tick key c).tick key c' = 0) (hv : askV p s s.tick key c = 0) (hc : c ≤ c') :
    askV p (askS p s s.tick key c) (askS p s s.tick key c).tick key c' = 0 := by
  obtain ⟨_, _, _, hk, hc1, _⟩ := rightE_ok he
  have e0 : askS p s s.tick key c = ⟨s.tick, askM p s s.tick⟩ := by
    unfold askS
    rw [if_pos he, if_neg (by rw [hv]; decide)]
  rw [e0] at he' ⊢
  simp only at he' ⊢
  have em : askM p ⟨s.tick, askM p s s.tick⟩ s.tick = askM p s s.tick :=
    move_move hs.pol hs.tick0 (Int.le_refl _) (Int.le_refl _) hs.tick1 (fun r hr => (hs.debts r hr).1)
  have hm : OkR p s.tick (askM p s s.tick) := move_ok hs (Int.le_refl _) hs.tick1
  unfold askV at hv ⊢
  rw [if_pos he] at hv
  rw [if_pos he', em]
  by_cases hf : fullR p (askM p s s.tick) key = true
  · rw [if_pos hf] at hv; exact absurd hv (by decide)
  · rw [if_neg hf] at hv ⊢
    by_cases hmay : mayR p s.tick (askM p s s.tick) key c = true
    · rw [if_pos hmay] at hv; exact absurd hv (by decide)
    · have h1 : mayR p s.tick (askM p s s.tick) key c' = false := by
        unfold mayR at hmay ⊢
        rw [hk, Bool.true_and] at hmay ⊢
        exact may_mono hs.pol (debtR_ok hm key) hc1 hc (by simpa using hmay)
      rw [h1, if_neg (by decide)]
end Go.Proofs.Ytnodnpenlplleaa.Own
