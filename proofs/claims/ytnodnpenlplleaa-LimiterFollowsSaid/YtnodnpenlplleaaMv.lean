/- Layer 9: the plain laws of what is owed: time in two parts. -/
import Derived.Test.YtnodnpenlplleaaSt
namespace Go.Proofs.Ytnodnpenlplleaa.Own
open Go.RowKit Go.Proofs.YtnodnpenlplleaaW.PrintWords Go.Proofs.YtnodnpenlplleaaW.PrintLast Go.Proofs.YtnodnpenlplleaaW.PrintMore
set_option linter.unusedVariables false
set_option linter.unusedSimpArgs false

theorem moveL_eq {k a b : Int} {l : List Int} (hl : (l.length : Int) = k) (hab : a ≤ b) : moveL k a b l = (l ++ List.replicate (b - a).toNat 0).drop (b - a).toNat := by
  unfold moveL
  split
  · rw [List.drop_append, show (b - a).toNat - l.length = 0 from by omega, List.drop_zero]
  · rw [List.drop_append, List.drop_eq_nil_of_le (by omega), List.nil_append, List.drop_replicate]
    congr 1
    omega
theorem moveL_length {k a b : Int} {l : List Int} (hl : (l.length : Int) = k) (hab : a ≤ b) : ((moveL k a b l).length : Int) = k := by
  rw [moveL_eq hl hab, List.length_drop, List.length_append, List.length_replicate]
  omega
theorem moveL_two {k a b c : Int} {l : List Int} (hl : (l.length : Int) = k) (hab : a ≤ b) (hbc : b ≤ c) : moveL k b c (moveL k a b l) = moveL k a c l := by
  rw [moveL_eq (moveL_length hl hab) hbc, moveL_eq hl hab, moveL_eq hl (Int.le_trans hab hbc)]
  have e : (c - a).toNat = (b - a).toNat + (c - b).toNat := by omega
  rw [e, ← List.drop_append_of_le_length (by rw [List.length_append, List.length_replicate]; omega), List.drop_drop, List.append_assoc, List.replicate_append_replicate]
theorem moveX_two {w k g b c : Int} {l : List Int} (hw : 1 ≤ w) (hl : (l.length : Int) = k) (hbc : b ≤ c) : moveX w k (moveX w k g l b).1 (moveX w k g l b).2 c = moveX w k g l c := by
  have hd : b / w ≤ c / w := Int.ediv_le_ediv (by omega) hbc
  unfold moveX
  by_cases h1 : b / w ≤ g
  · simp only [if_pos h1]
  · simp only [if_neg h1]
    have h2 : ¬ c / w ≤ g := by omega
    rw [if_neg h2]
    by_cases h3 : c / w ≤ b / w
    · rw [if_pos h3]
      have e : b / w = c / w := by omega
      rw [e]
    · rw [if_neg h3, moveL_two hl (by omega) (by omega)]

theorem later_later {p : Pol} (hp : p.ok) {d : Debt} (hd : d.ok p) {a b c : Int} (hab : a ≤ b) (hbc : b ≤ c) : (d.later p a b).later p b c = d.later p a c := by
  have hpi := Pol.is hp
  cases d with
  | lev n =>
    obtain ⟨hk, h0, h1⟩ := hd
    have hn : 0 ≤ p.num := by omega
    have e : (c - a) * p.num = (b - a) * p.num + (c - b) * p.num := by rw [← Int.add_mul]; congr 1; omega
    have m1 : 0 ≤ (b - a) * p.num := Int.mul_nonneg (by omega) hn
    have m2 : 0 ≤ (c - b) * p.num := Int.mul_nonneg (by omega) hn
    simp only [Debt.later, e]
    congr 1
    unfold mx
    split <;> split <;> split <;> omega
  | win g l =>
    obtain ⟨hk, h1, h2, h3, h4⟩ := hd
    have h := moveX_two (w := p.width) (k := p.count) (g := g) (l := l) (b := b) (c := c) (by omega) h3 hbc
    simp only [Debt.later]
    rw [h]
theorem owes_iff (d : Debt) : d.owes = true ↔ ∃ n ∈ d.nums, n ≠ 0 := by
  unfold Debt.owes
  rw [List.any_eq_true]
  simp only [bne_iff_ne, ne_eq]
theorem moveX_mem {w k g b : Int} {l : List Int} {x : Int} (h : x ∈ (moveX w k g l b).2) (hx : x ≠ 0) : x ∈ l := by
  unfold moveX at h
  split at h
  · exact h
  · unfold moveL at h
    simp only at h
    split at h
    · rcases List.mem_append.1 h with h | h
      · exact List.mem_of_mem_drop h
      · exact absurd (List.eq_of_mem_replicate h) hx
    · exact absurd (List.eq_of_mem_replicate h) hx
theorem owes_later {p : Pol} (hp : p.ok) {d : Debt} (hd : d.ok p) {a b : Int} (hab : a ≤ b) (h : (d.later p a b).owes = true) : d.owes = true := by
  have hpi := Pol.is hp
  obtain ⟨n, hn, h0⟩ := (owes_iff _).1 h
  refine (owes_iff _).2 ?_
  cases d with
  | lev m =>
    obtain ⟨hk, h1, h2⟩ := hd
    have m1 : 0 ≤ (b - a) * p.num := Int.mul_nonneg (by omega) (by omega)
    simp only [Debt.later, Debt.nums, List.mem_singleton] at hn ⊢
    refine ⟨m, rfl, fun e => h0 ?_⟩
    subst e
    rw [hn]
    unfold mx
    split <;> omega
  | win g l => exact ⟨n, moveX_mem hn h0, h0⟩
theorem lateD_bind {p : Pol} (hp : p.ok) {d : Debt} (hd : d.ok p) {a b c : Int} (ha : 0 ≤ a) (hab : a ≤ b) (hbc : b ≤ c) (hb : b ≤ 1099511627776) : (lateD p a b d).bind (lateD p b c) = lateD p a c d := by
  unfold lateD
  by_cases h : (d.later p a b).owes = true
  · rw [if_pos h, Option.bind_some, later_later hp hd hab hbc]
  · rw [if_neg h, Option.bind_none]
    have h2 : ¬ (d.later p a c).owes = true := fun h2 => h (by
      rw [← later_later hp hd hab hbc] at h2
      exact owes_later hp (later_ok hp hd ha hab hb) hbc h2)
    rw [if_neg h2]
theorem move_move {p : Pol} (hp : p.ok) {a b c : Int} (ha : 0 ≤ a) (hab : a ≤ b) (hbc : b ≤ c) (hb : b ≤ 1099511627776) : ∀ {rows : Rws}, (∀ r ∈ rows, r.2.ok p) → moveR p b c (moveR p a b rows) = moveR p a c rows
  | [], _ => rfl
  | r :: rs, h => by
    have ih := move_move hp ha hab hbc hb (rows := rs) (fun x hx => h x (by simp [hx]))
    have hd := lateD_bind hp (h r (by simp)) ha hab hbc hb
    rw [moveR.eq_2 p a c]
    rw [← hd]
    cases e : lateD p a b r.2 with
    | none =>
      simp only [moveR, e, Option.bind_none]
      exact ih
    | some d =>
      simp only [moveR, e, Option.bind_some]
      rw [ih]
/-- Who may not take some may not take more. -/
theorem may_mono {p : Pol} (hp : p.ok) {d : Debt} (hd : d.ok p) {c c' : Int} (h0 : 1 ≤ c ∧ c ≤ 1048576) (hc : c ≤ c') (h : d.may p c = false) : d.may p c' = false := by
  have hpi := Pol.is hp
  cases d with
  | lev n =>
    simp only [Debt.may, decide_eq_false_iff_not] at h ⊢
    intro h2
    refine h ⟨h0, ?_⟩
    have := h2.2
    have hk := hd.1
    have hdn : 0 ≤ p.den := by omega
    have := Int.mul_le_mul_of_nonneg_right hc hdn
    omega
  | win g l =>
    simp only [Debt.may, decide_eq_false_iff_not] at h ⊢
    intro h2
    exact h ⟨h0, by omega⟩

theorem insert_split (key : ByteArray) (d' : Debt) : ∀ {rows : Rws} {d : Debt}, lookR rows key = some d → sortedR rows → ∃ pre post, rows = pre ++ (key, d) :: post ∧ insertR key d' rows = pre ++ (key, d') :: post
  | [], d, h, _ => by simp [lookR] at h
  | r :: rs, d, h, hs => by
    have hs0 := hs
    unfold sortedR keysR at hs
    rw [List.map_cons, List.pairwise_cons] at hs
    unfold lookR at h
    by_cases hk : r.1 = key
    · rw [if_pos hk] at h
      injection h with h
      refine ⟨[], rs, ?_, ?_⟩
      · rw [← hk, ← h]; rfl
      · unfold insertR; rw [if_pos hk]; rfl
    · rw [if_neg hk] at h
      obtain ⟨pre, post, e1, e2⟩ := insert_split key d' h hs.2
      have hlt : klt r.1 key := hs.1 key (List.mem_map.2 ⟨(key, d), lookR_mem h, rfl⟩)
      have hnl : ¬ klt key r.1 := fun h2 => klt_irrefl _ (klt_trans hlt h2)
      refine ⟨r :: pre, post, by rw [e1]; rfl, ?_⟩
      unfold insertR
      rw [if_neg hk, if_neg hnl, e2]
      rfl
theorem insert_absent (key : ByteArray) (d : Debt) : ∀ {rows : Rws}, lookR rows key = none → (insertR key d rows).length = rows.length + 1
  | [], _ => rfl
  | r :: rs, h => by
    unfold lookR at h
    by_cases hk : r.1 = key
    · rw [if_pos hk] at h; cases h
    · rw [if_neg hk] at h
      have ih := insert_absent key d h
      unfold insertR
      rw [if_neg hk]
      split
      · rfl
      · rw [List.length_cons, List.length_cons, ih]
end Go.Proofs.Ytnodnpenlplleaa.Own
