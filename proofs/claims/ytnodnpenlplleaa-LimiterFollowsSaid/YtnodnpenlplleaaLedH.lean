/- Layer 9: rows at a later tick; rows stay what they may be. -/
import Derived.Test.YtnodnpenlplleaaLedG
import Derived.Test.YtnodnpenlplleaaRange
namespace Go.Proofs.Ytnodnpenlplleaa.Own
open Go.RowKit Go.Proofs.YtnodnpenlplleaaW.PrintWords Go.Proofs.YtnodnpenlplleaaW.PrintLast Go.Proofs.YtnodnpenlplleaaW.PrintMore
set_option linter.unusedVariables false
set_option linter.unusedSimpArgs false

/-- What is left of a debt at a later tick. -/
def lateD (p : Pol) (a b : Int) (d : Debt) : Option Debt := if (d.later p a b).owes = true then some (d.later p a b) else none
def moveR (p : Pol) (a b : Int) : Rws → Rws
  | [] => []
  | r :: rs => match lateD p a b r.2 with | some d => (r.1, d) :: moveR p a b rs | none => moveR p a b rs
theorem keys_move {p : Pol} {a b : Int} : ∀ (rows : Rws), (keysR (moveR p a b rows)).Sublist (keysR rows)
  | [] => by simp [moveR, keysR]
  | r :: rs => by
    have ih := keys_move (p := p) (a := a) (b := b) rs
    unfold moveR
    cases lateD p a b r.2 with
    | none => simp only [keysR, List.map_cons] at *; exact ih.cons _
    | some d => simp only [keysR, List.map_cons] at *; exact ih.cons_cons _
theorem sorted_move {p : Pol} {a b : Int} {rows : Rws} (h : sortedR rows) : sortedR (moveR p a b rows) := List.Pairwise.sublist (keys_move rows) h
theorem look_move {p : Pol} {a b : Int} (key : ByteArray) : ∀ {rows : Rws}, sortedR rows → lookR (moveR p a b rows) key = (lookR rows key).bind (lateD p a b)
  | [], _ => rfl
  | r :: rs, hs => by
    have hs' := hs
    unfold sortedR keysR at hs
    rw [List.map_cons, List.pairwise_cons] at hs
    have ih := look_move (p := p) (a := a) (b := b) key (rows := rs) hs.2
    unfold moveR
    cases e : lateD p a b r.2 with
    | none =>
      simp only
      rw [ih]
      by_cases hk : r.1 = key
      · simp only [lookR, if_pos hk, Option.bind_some, e]
        have : lookR rs key = none := lookR_none.2 (fun hm => by
          have h1 := hs.1 key hm
          rw [hk] at h1
          exact klt_irrefl _ h1)
        rw [this]; rfl
      · simp only [lookR, if_neg hk]
    | some d =>
      simp only
      by_cases hk : r.1 = key
      · simp only [lookR, if_pos hk, Option.bind_some, e]
      · simp only [lookR, if_neg hk, ih]
theorem mem_move {p : Pol} {a b : Int} {x : ByteArray × Debt} : ∀ {rows : Rws}, x ∈ moveR p a b rows → ∃ d, (x.1, d) ∈ rows ∧ x.2 = d.later p a b ∧ (d.later p a b).owes = true
  | [], h => by simp [moveR] at h
  | r :: rs, h => by
    unfold moveR at h
    cases e : lateD p a b r.2 with
    | none =>
      rw [e] at h
      obtain ⟨d, h1, h2⟩ := mem_move h
      exact ⟨d, List.mem_cons_of_mem _ h1, h2⟩
    | some d =>
      rw [e] at h
      rcases List.mem_cons.1 h with rfl | h
      · unfold lateD at e
        split at e
        · rename_i ho
          injection e with e
          exact ⟨r.2, by simp, e.symm, ho⟩
        · cases e
      · obtain ⟨d, h1, h2⟩ := mem_move h
        exact ⟨d, List.mem_cons_of_mem _ h1, h2⟩

theorem okL_drop {l : List Int} (h : okL l) (n m : Nat) : okL (l.drop n ++ List.replicate m 0) := fun x hx => by
  rcases List.mem_append.1 hx with hx | hx
  · exact h x (List.mem_of_mem_drop hx)
  · rw [List.eq_of_mem_replicate hx]; decide
theorem okW_move {p : Pol} (hp : p.ok) (hk : p.kind = 2) {g : Int} {l : List Int} (h : okW p g l) {tick : Int} (h0 : 0 ≤ tick) (h1 : tick ≤ 1099511627776) : okW p (moveX p.width p.count g l tick).1 (moveX p.width p.count g l tick).2 := by
  have hpi := Pol.is hp
  have hw : 1 ≤ p.width := by omega
  obtain ⟨a1, a2, a3, a4⟩ := h
  unfold moveX
  split
  · exact ⟨a1, a2, a3, a4⟩
  · rename_i hn
    have t0 : 0 ≤ tick / p.width := Int.ediv_nonneg h0 (by omega)
    have t1 : tick / p.width ≤ 1099511627776 / p.width := Int.ediv_le_ediv (by omega) h1
    refine ⟨t0, t1, ?_, ?_⟩
    · unfold moveL
      split
      · rw [List.length_append, List.length_drop, List.length_replicate]; omega
      · rw [List.length_replicate]; omega
    · unfold moveL
      split
      · exact okL_drop a4 _ _
      · intro x hx
        rw [List.eq_of_mem_replicate hx]; decide
theorem later_ok {p : Pol} (hp : p.ok) {d : Debt} (h : d.ok p) {a b : Int} (ha : 0 ≤ a) (hab : a ≤ b) (hb : b ≤ 1099511627776) : (d.later p a b).ok p := by
  have hpi := Pol.is hp
  cases d with
  | lev n =>
    obtain ⟨hk, h0, h1⟩ := h
    have hm : 0 ≤ (b - a) * p.num := Int.mul_nonneg (by omega) (by omega)
    refine ⟨hk, ?_, ?_⟩ <;> (unfold mx; split <;> omega)
  | win g l =>
    exact ⟨h.1, okW_move hp h.1 h.2 (by omega) hb⟩
theorem move_ok {p : Pol} {a b : Int} {rows : Rws} (h : OkR p a rows) (hab : a ≤ b) (hb : b ≤ 1099511627776) : OkR p b (moveR p a b rows) where
  pol := h.pol
  tick0 := by have := h.tick0; omega
  tick1 := hb
  sorted := sorted_move h.sorted
  debts := fun r hr => by
    obtain ⟨d, h1, h2, h3⟩ := mem_move hr
    rw [h2]
    exact ⟨later_ok h.pol (h.debts _ h1).1 h.tick0 hab hb, h3⟩
  keys := fun r hr => by
    obtain ⟨d, h1, h2⟩ := mem_move hr
    exact h.keys (r.1, d) h1
theorem move_length {p : Pol} {a b : Int} (rows : Rws) : (moveR p a b rows).length ≤ rows.length := by
  have := (keys_move (p := p) (a := a) (b := b) rows).length_le
  simpa [keysR] using this

theorem takeL_ok {p : Pol} (hp : p.ok) (hk : p.kind = 2) {g : Int} {l : List Int} (h : okW p g l) {cost : Int} (h0 : 1 ≤ cost) : okW p g (takeL l cost) := by
  have hpi := Pol.is hp
  obtain ⟨a1, a2, a3, a4⟩ := h
  refine ⟨a1, a2, by unfold takeL; rw [List.length_set]; exact a3, fun x hx => ?_⟩
  unfold takeL at hx
  rcases List.mem_or_eq_of_mem_set hx with hx | hx
  · exact a4 x hx
  · subst hx
    have := a4 _ (rd_memI l (j := l.length - 1) (by omega))
    unfold mn
    split <;> omega
theorem any_set {l : List Int} {j : Nat} (hj : j < l.length) {x : Int} (hx : x ≠ 0) : (l.set j x).any (fun n => n != 0) = true := by
  rw [List.any_eq_true]
  refine ⟨x, ?_, by simpa using hx⟩
  exact List.mem_iff_getElem.2 ⟨j, by simpa using hj, by simp⟩
theorem take_ok {p : Pol} (hp : p.ok) {d : Debt} (h : d.ok p) {cost : Int} (h0 : 1 ≤ cost) (h1 : cost ≤ 1048576) : (d.take p cost).ok p ∧ (d.take p cost).owes = true := by
  have hpi := Pol.is hp
  cases d with
  | lev n =>
    obtain ⟨hk, a0, a1⟩ := h
    have hm : 1 * 1 ≤ cost * p.den := Int.mul_le_mul h0 (by omega) (by omega) (by omega)
    have h2 : 1 ≤ mn (n + cost * p.den) 4611686018427387903 := by unfold mn; split <;> omega
    refine ⟨⟨hk, by omega, by unfold mn; split <;> omega⟩, ?_⟩
    simp only [Debt.take, Debt.owes, Debt.nums, List.any_cons, List.any_nil, Bool.or_false, bne_iff_ne, ne_eq]
    omega
  | win g l =>
    obtain ⟨hk, hw⟩ := h
    refine ⟨⟨hk, takeL_ok hp hk hw h0⟩, ?_⟩
    obtain ⟨a1, a2, a3, a4⟩ := hw
    have hl : l.length - 1 < l.length := by omega
    have := a4 _ (rd_memI l hl)
    simp only [Debt.take, Debt.owes, Debt.nums, takeL]
    exact any_set hl (by unfold mn; split <;> omega)
theorem mem_insert {key : ByteArray} {d : Debt} {x : ByteArray × Debt} : ∀ {rows : Rws}, x ∈ insertR key d rows → x = (key, d) ∨ x ∈ rows
  | [], h => by simp [insertR] at h; exact .inl h
  | r :: rs, h => by
    unfold insertR at h
    split at h
    · rcases List.mem_cons.1 h with h | h
      · exact .inl h
      · exact .inr (List.mem_cons_of_mem _ h)
    · split at h
      · rcases List.mem_cons.1 h with h | h
        · exact .inl h
        · exact .inr h
      · rcases List.mem_cons.1 h with h | h
        · exact .inr (by rw [h]; simp)
        · rcases mem_insert h with h | h
          · exact .inl h
          · exact .inr (List.mem_cons_of_mem _ h)
theorem insert_length (key : ByteArray) (d : Debt) : ∀ (rows : Rws), (insertR key d rows).length ≤ rows.length + 1
  | [] => by simp [insertR]
  | r :: rs => by
    have ih := insert_length key d rs
    unfold insertR
    split
    · simp
    · split
      · simp
      · simp; omega
theorem charge_ok {p : Pol} {tick : Int} {rows : Rws} (h : OkR p tick rows) (key : ByteArray) (cost : Int) : OkR p tick (chargeR p tick rows key cost) := by
  unfold chargeR
  split
  · rename_i he
    unfold chargeE at he
    split at he
    · rename_i hi
      split at he
      · rename_i hc
        have hk := of_decide_eq_true (show decide (1 ≤ key.size ∧ key.size ≤ 64) = true from hi)
        refine ⟨h.pol, h.tick0, h.tick1, sorted_insert _ _ _ h.sorted, fun r hr => ?_, fun r hr => ?_⟩
        · rcases mem_insert hr with rfl | hr
          · exact take_ok h.pol (debtR_ok h key) hc.1 hc.2
          · exact h.debts r hr
        · rcases mem_insert hr with rfl | hr
          · exact hk
          · exact h.keys r hr
      · omega
    · omega
  · exact h
theorem charge_length (p : Pol) (tick : Int) (rows : Rws) (key : ByteArray) (cost : Int) : (chargeR p tick rows key cost).length ≤ rows.length + 1 := by
  unfold chargeR
  split
  · exact insert_length _ _ _
  · omega
theorem new_ok {p : Pol} (hp : p.ok) : OkR p 0 [] := ⟨hp, by decide, by decide, by simp [sortedR, keysR], by simp, by simp⟩
end Go.Proofs.Ytnodnpenlplleaa.Own
