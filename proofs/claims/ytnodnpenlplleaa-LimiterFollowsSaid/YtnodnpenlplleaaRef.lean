/- Layer 9: a charge turns the bytes: the plain law. -/
import Derived.Test.YtnodnpenlplleaaPlay
import Derived.Test.YtnodnpenlplleaaSame
import Derived.Test.YtnodnpenlplleaaMv
namespace Go.Proofs.Ytnodnpenlplleaa.Own
open Go.RowKit Go.Proofs.YtnodnpenlplleaaW.PrintWords Go.Proofs.YtnodnpenlplleaaW.PrintLast Go.Proofs.YtnodnpenlplleaaW.PrintMore
set_option linter.unusedVariables false
set_option linter.unusedSimpArgs false

theorem numsB_inj : ∀ {a b : List Int}, a.length = b.length → (∀ n ∈ a, 0 ≤ n) → (∀ n ∈ b, 0 ≤ n) → numsB a = numsB b → a = b
  | [], [], _, _, _, _ => rfl
  | [], _ :: _, h, _, _, _ => by simp at h
  | _ :: _, [], h, _, _, _ => by simp at h
  | x :: a, y :: b, h, ha, hb, e => by
    unfold numsB at e
    rw [List.flatMap_cons, List.flatMap_cons] at e
    obtain ⟨h1, h2⟩ := numB_inj (ha x (by simp)) (hb y (by simp)) e
    rw [h1, numsB_inj (by simpa using h) (fun n hn => ha n (by simp [hn])) (fun n hn => hb n (by simp [hn])) h2]
/-- How great a debt may be behind so many calls. -/
def smallD (j : Nat) (d : Debt) : Prop := match d with | .lev n => n ≤ j * 68719476736 | .win _ l => ∀ x ∈ l, x ≤ j * 1048576
def smallR (j : Nat) (rows : Rws) : Prop := ∀ r ∈ rows, smallD j r.2
/-- Rows that differ in one key's numbers alone, or in how many they are, have other bytes. -/
theorem bytes_turn {p : Pol} {tick : Int} {rows : Rws} (ho : OkR p tick rows) (key : ByteArray) {d' : Debt} (hd' : ∀ n ∈ d'.nums, 0 ≤ n) (hlen : ∀ d, lookR rows key = some d → d'.nums.length = d.nums.length ∧ d'.nums ≠ d.nums) :
    bytesR (insertR key d' rows) ≠ bytesR rows := by
  intro e
  unfold bytesR at e
  obtain ⟨h1, h2⟩ := numB_inj (by omega) (by omega) e
  cases hl : lookR rows key with
  | none =>
    have := insert_absent key d' hl
    omega
  | some d =>
    obtain ⟨g1, g2⟩ := hlen d hl
    obtain ⟨pre, post, e1, e2⟩ := insert_split key d' hl ho.sorted
    rw [e2] at h2
    have h3 : rowsB (pre ++ (key, d') :: post) = rowsB (pre ++ (key, d) :: post) := by rw [h2, ← e1]
    unfold rowsB at h3
    rw [List.flatMap_append, List.flatMap_append, List.flatMap_cons, List.flatMap_cons] at h3
    have h4 := List.append_cancel_left h3
    have h5 := List.append_cancel_right h4
    unfold rowB at h5
    have h6 := List.append_cancel_left h5
    refine g2 (numsB_inj g1 hd' (fun n hn => ?_) h6)
    have hok := (ho.debts _ (lookR_mem hl)).1
    exact (nums_ok ho.pol hok n hn).1
theorem smallD_mono {i j : Nat} (h : i ≤ j) {d : Debt} (hd : smallD i d) : smallD j d := by
  cases d with
  | lev n => simp only [smallD] at hd ⊢; omega
  | win g l => exact fun x hx => by have := hd x hx; omega
theorem small_later {p : Pol} (hp : p.ok) {d : Debt} (ho : d.ok p) {a b : Int} (hab : a ≤ b) {j : Nat} (h : smallD j d) : smallD j (d.later p a b) := by
  have hpi := Pol.is hp
  cases d with
  | lev n =>
    obtain ⟨hk, h1, h2⟩ := ho
    have m1 : 0 ≤ (b - a) * p.num := Int.mul_nonneg (by omega) (by omega)
    simp only [smallD, Debt.later] at h ⊢
    unfold mx
    split <;> omega
  | win g l =>
    intro x hx
    by_cases h0 : x = 0
    · omega
    · exact h x (moveX_mem hx h0)
theorem small_none (p : Pol) (tick : Int) (j : Nat) : smallD j (noneD p tick) := by
  unfold noneD
  split
  · simp only [smallD]; omega
  · intro x hx
    rw [List.eq_of_mem_replicate hx]
    omega
theorem rd_last {l : List Int} (h : 1 ≤ l.length) : rd l ((l.length - 1 : Nat) : Int) ∈ l := rd_memI l (by omega)
theorem small_take {p : Pol} (hp : p.ok) {d : Debt} (ho : d.ok p) {c : Int} (h0 : 1 ≤ c) (h1 : c ≤ 1048576) {j : Nat} (h : smallD j d) : smallD (j + 1) (d.take p c) := by
  have hpi := Pol.is hp
  cases d with
  | lev n =>
    obtain ⟨hk, _, _⟩ := ho
    have m1 : c * p.den ≤ 1048576 * 65536 := Int.mul_le_mul h1 (by omega) (by omega) (by omega)
    simp only [smallD, Debt.take] at h ⊢
    unfold mn
    split <;> omega
  | win g l =>
    obtain ⟨hk, _, _, h3, _⟩ := ho
    intro x hx
    simp only [smallD] at h
    unfold takeL at hx
    rcases List.mem_or_eq_of_mem_set hx with hx | hx
    · have := h x hx; omega
    · have hl := h _ (rd_last (l := l) (by omega))
      rw [hx]
      unfold mn
      split <;> omega
theorem take_turns {p : Pol} (hp : p.ok) {d : Debt} (ho : d.ok p) {c : Int} (h0 : 1 ≤ c) (h1 : c ≤ 1048576) {j : Nat} (hj : j ≤ 100000) (h : smallD j d) : (d.take p c).nums.length = d.nums.length ∧ (d.take p c).nums ≠ d.nums := by
  have hpi := Pol.is hp
  cases d with
  | lev n =>
    obtain ⟨hk, _, _⟩ := ho
    have m1 : c * p.den ≤ 1048576 * 65536 := Int.mul_le_mul h1 (by omega) (by omega) (by omega)
    have m2 : 1 * 1 ≤ c * p.den := Int.mul_le_mul h0 (by omega) (by omega) (by omega)
    simp only [smallD] at h
    refine ⟨rfl, fun e => ?_⟩
    simp only [Debt.take, Debt.nums, List.cons.injEq, and_true] at e
    unfold mn at e
    split at e <;> omega
  | win g l =>
    obtain ⟨hk, _, _, h3, _⟩ := ho
    simp only [smallD] at h
    have hl := h _ (rd_last (l := l) (by omega))
    refine ⟨by simp [Debt.take, Debt.nums, takeL], fun e => ?_⟩
    simp only [Debt.take, Debt.nums] at e
    unfold takeL at e
    have e2 := congrArg (fun m => m[l.length - 1]?) e
    simp only [List.getElem?_set_self (show l.length - 1 < l.length from by omega)] at e2
    have e3 : l[l.length - 1]? = some (rd l ((l.length - 1 : Nat) : Int)) := by
      unfold rd
      rw [Int.toNat_natCast, List.getD_eq_getElem?_getD, List.getElem?_eq_getElem (show l.length - 1 < l.length from by omega)]
      rfl
    rw [e3] at e2
    injection e2 with e2
    unfold mn at e2
    split at e2 <;> omega
theorem small_moveR {p : Pol} {a b : Int} {rows : Rws} (h : OkR p a rows) (hab : a ≤ b) {j : Nat} (hs : smallR j rows) : smallR j (moveR p a b rows) := fun r hr => by
  obtain ⟨d, h1, h2, _⟩ := mem_move hr
  rw [h2]
  exact small_later h.pol (h.debts _ h1).1 hab (hs _ h1)
theorem small_moveS {p : Pol} {s : LSt} (h : OkR p s.tick s.rows) (t : Int) {j : Nat} (hs : smallR j s.rows) : smallR j (moveS p s t).rows := by
  unfold moveS rowsM
  simp only
  split
  · rename_i he
    exact small_moveR h (moveE_ok.1 he).1 hs
  · exact hs
theorem small_debt {p : Pol} {tick : Int} {rows : Rws} (h : OkR p tick rows) (key : ByteArray) {j : Nat} (hs : smallR j rows) : smallD j (debtR p tick rows key) := by
  unfold debtR
  cases e : lookR rows key with
  | none => exact small_none p tick j
  | some d => exact hs _ (lookR_mem e)
theorem small_chargeS {p : Pol} {s : LSt} (h : OkR p s.tick s.rows) (k : ByteArray) (c : Int) {j : Nat} (hs : smallR j s.rows) : smallR (j + 1) (chargeS p s k c).rows := by
  unfold chargeS chargeR
  simp only
  split
  · rename_i he
    intro r hr
    rcases mem_insert hr with rfl | hr
    · unfold chargeE at he
      split at he
      · split at he
        · rename_i hc
          exact small_take h.pol (debtR_ok h k) hc.1 hc.2 (small_debt h k hs)
        · cases he
      · cases he
    · exact smallD_mono (Nat.le_succ j) (hs r hr)
  · exact fun r hr => smallD_mono (Nat.le_succ j) (hs r hr)
theorem playOne_ok {p : Pol} {s : LSt} (h : OkR p s.tick s.rows) (x : Po) : OkR p (playOne p s x).tick (playOne p s x).rows := by
  unfold playOne
  split
  · exact moveS_ok h x.a
  · exact chargeS_ok h x.key x.a
theorem small_playOne {p : Pol} {s : LSt} (h : OkR p s.tick s.rows) (x : Po) {j : Nat} (hs : smallR j s.rows) : smallR (j + 1) (playOne p s x).rows := by
  unfold playOne
  split
  · exact fun r hr => smallD_mono (Nat.le_succ j) (small_moveS h x.a hs r hr)
  · exact small_chargeS h x.key x.a hs
theorem small_playS {p : Pol} : ∀ (l : List Po) {s : LSt} {j : Nat}, OkR p s.tick s.rows → smallR j s.rows → smallR (j + l.length) (playS p s l).rows
  | [], s, j, _, h => h
  | x :: l, s, j, ho, h => by
    have h1 := small_playS l (playOne_ok ho x) (small_playOne ho x h)
    rw [show j + (x :: l).length = j + 1 + l.length from by rw [List.length_cons]; omega]
    exact h1
theorem charge_turns {p : Pol} {s : LSt} (h : OkR p s.tick s.rows) (k : ByteArray) (c : Int) {j : Nat} (hj : j ≤ 100000) (hs : smallR j s.rows) : decide (bytesR (chargeS p s k c).rows = bytesR s.rows) = decide (¬ chargeE k c = 0) := by
  by_cases he : chargeE k c = 0
  · rw [decide_eq_false (p := ¬ chargeE k c = 0) (fun e => e he)]
    refine decide_eq_false ?_
    have hc : 1 ≤ c ∧ c ≤ 1048576 := by
      unfold chargeE at he
      split at he
      · split at he
        · assumption
        · cases he
      · cases he
    unfold chargeS chargeR
    rw [if_pos he]
    have hd := debtR_ok h k
    refine bytes_turn h k (fun n hn => (nums_ok h.pol (take_ok h.pol hd hc.1 hc.2).1 n hn).1) (fun d hl => ?_)
    have e : debtR p s.tick s.rows k = d := by unfold debtR; rw [hl]; rfl
    rw [e] at hd ⊢
    exact take_turns h.pol hd hc.1 hc.2 hj (hs _ (lookR_mem hl))
  · rw [decide_eq_true he]
    have e : (chargeS p s k c).rows = s.rows := by unfold chargeS chargeR; rw [if_neg he]
    rw [e, decide_eq_true rfl]
end Go.Proofs.Ytnodnpenlplleaa.Own
